/-
 Outcomes: what the program's list holds; it is the reference model's.
-/
import Derived.Test.YtgdoajmgheokbaaDoorQSpec
import Derived.Test.YtgdoajmgheokbaaDoorHOut
import Derived.Test.YtgdoajmgheokbaaDoorG0
import Derived.Test.YtgdoajmgheokbaaDoorG5
namespace Go.Proofs.YtgdoajmgheokbaaDoor.G
open Go.RowKit Go.Proofs.YtgdoajmgheokbaaDoorW.PrintWords Go.Proofs.YtgdoajmgheokbaaDoorW.PrintLast Go.Proofs.YtgdoajmgheokbaaDoorW.PrintMore C
set_option linter.unusedVariables false
set_option linter.unusedSimpArgs false

theorem gset {out : List Int} {x : Nat} {v : Int} (hx : x < out.length) (k : Nat) : (out.set x v).getD k 0 = if k = x then v else out.getD k 0 := by
 rw [List.getD_eq_getElem?_getD, List.getElem?_set, List.getD_eq_getElem?_getD]
 by_cases h : x = k
 ·subst h
  rw [if_pos rfl, if_pos hx, if_pos rfl]
  rfl
 ·rw [if_neg h, if_neg (fun e => h e.symm)]
theorem set_same {out : List Int} {x : Nat} (hx : x < out.length) (h : out.getD x 0 = 0) : out.set x 0 = out := by
 refine List.ext_getElem? (fun k => ?_)
 rw [List.getElem?_set]
 by_cases e : x = k
 ·subst e
  rw [if_pos rfl, if_pos hx, List.getElem?_eq_getElem hx]
  rw [List.getD_eq_getElem?_getD, List.getElem?_eq_getElem hx] at h
  exact congrArg some h.symm
 ·rw [if_neg e]
theorem cntK_cons (x : Int) (l : List Int) (c : Int) : cntK (x :: l) c = cntK l c + if x = c then 1 else 0 := by
 unfold cntK
 by_cases h : x = c
 ·simp [h]
 ·simp [h]
theorem cntK_set : ∀ (l : List Int) (x : Nat) (v c : Int), x < l.length → cntK (l.set x v) c + (if l.getD x 0 = c then 1 else 0) = cntK l c + if v = c then 1 else 0
 | [], x, v, c, h => by simp at h
 | a :: l, 0, v, c, h => by
  rw [List.set_cons_zero, cntK_cons, cntK_cons]
  simp only [List.getD_cons_zero]
  omega
 | a :: l, x + 1, v, c, h => by
  have ih := cntK_set l x v c (by simpa using h)
  rw [List.set_cons_succ, cntK_cons, cntK_cons]
  simp only [List.getD_cons_succ]
  omega
theorem cntK_replicate (n : Nat) {c : Int} (hc : c ≠ 0) : cntK (List.replicate n 0) c = 0 := by
 induction n with
 | zero => rfl
 | succ n ih => rw [List.replicate_succ, cntK_cons, ih, if_neg (fun e => hc e.symm)]
/-- What holds of the outcomes along an order. -/
structure OInv (nd : Nat → List Nat) (F : Nat → Prop) (n : Nat) (kI : Int) (done : List Nat) (out : List Int) (s f : Nat) : Prop where
 len : out.length = n
 off : ∀ k, k ∉ done → out.getD k 0 = 0
 bits : Bits s (fun k => k ∈ done ∧ out.getD k 0 = 0)
 val : ∀ k, k ∈ done → (out.getD k 0 = 0 ∧ (∀ j, j ∈ nd k → out.getD j 0 = 0) ∧ ¬ F k) ∨ (out.getD k 0 = 1 ∧ (∀ j, j ∈ nd k → out.getD j 0 = 0) ∧ F k) ∨ (out.getD k 0 = 2 ∧ ∃ j, j ∈ nd k ∧ out.getD j 0 ≠ 0) ∨ (out.getD k 0 = 3 ∧ kI ≤ (f : Int))
 cnt : f = cntK out 1
 le : (f : Int) ≤ kI
theorem OInv.put {nd : Nat → List Nat} {F : Nat → Prop} {n : Nat} {kI : Int} {pre : List Nat} {out : List Int} {s f s' f' : Nat} {x : Nat} {v : Int} (h : OInv nd F n kI pre out s f) (hx : x ∉ pre) (hxn : x < n) (hnx : ∀ k, k ∈ nd x → k ∈ pre) (hpn : ∀ k, k ∈ pre → ∀ j, j ∈ nd k → j ∈ pre)
  (hff : f ≤ f') (hs : Bits s' (fun k => k ∈ pre ++ [x] ∧ (out.set x v).getD k 0 = 0)) (hc : f' = f + if v = 1 then 1 else 0) (hle : (f' : Int) ≤ kI)
  (hv : (v = 0 ∧ (∀ j, j ∈ nd x → out.getD j 0 = 0) ∧ ¬ F x) ∨ (v = 1 ∧ (∀ j, j ∈ nd x → out.getD j 0 = 0) ∧ F x) ∨ (v = 2 ∧ ∃ j, j ∈ nd x ∧ out.getD j 0 ≠ 0) ∨ (v = 3 ∧ kI ≤ (f' : Int))) :
  OInv nd F n kI (pre ++ [x]) (out.set x v) s' f' := by
 have hl : x < out.length := by rw [h.len]; exact hxn
 have hne : ∀ k, k ∈ pre → (out.set x v).getD k 0 = out.getD k 0 := fun k hk => by
  rw [gset hl, if_neg (fun (e : k = x) => hx (e ▸ hk))]
 refine ⟨by rw [List.length_set]; exact h.len, fun k hk => ?_, hs, fun k hk => ?_, ?_, hle⟩
 ·have hk' : k ∉ pre ∧ k ≠ x := by simpa using hk
  rw [gset hl, if_neg hk'.2]
  exact h.off k hk'.1
 ·rcases List.mem_append.1 hk with hk | hk
  ·have hj : ∀ j, j ∈ nd k → (out.set x v).getD j 0 = out.getD j 0 := fun j hj => hne j (hpn k hk j hj)
   rw [hne k hk]
   rcases h.val k hk with ⟨a, b, c⟩ | ⟨a, b, c⟩ | ⟨a, j, b, c⟩ | ⟨a, b⟩
   ·exact .inl ⟨a, fun j hm => by rw [hj j hm]; exact b j hm, c⟩
   ·exact .inr (.inl ⟨a, fun j hm => by rw [hj j hm]; exact b j hm, c⟩)
   ·exact .inr (.inr (.inl ⟨a, j, b, by rw [hj j b]; exact c⟩))
   ·exact .inr (.inr (.inr ⟨a, by omega⟩))
  ·obtain rfl := List.mem_singleton.1 hk
   have hj : ∀ j, j ∈ nd k → (out.set k v).getD j 0 = out.getD j 0 := fun j hm => hne j (hnx j hm)
   rw [gset hl, if_pos rfl]
   rcases hv with ⟨a, b, c⟩ | ⟨a, b, c⟩ | ⟨a, j, b, c⟩ | ⟨a, b⟩
   ·exact .inl ⟨a, fun j hm => by rw [hj j hm]; exact b j hm, c⟩
   ·exact .inr (.inl ⟨a, fun j hm => by rw [hj j hm]; exact b j hm, c⟩)
   ·exact .inr (.inr (.inl ⟨a, j, b, by rw [hj j b]; exact c⟩))
   ·exact .inr (.inr (.inr ⟨a, b⟩))
 ·have := cntK_set out x v 1 hl
  rw [h.off x hx, if_neg (by decide)] at this
  have := h.cnt
  omega
theorem pre_init {n : Nat} {nd : Nat → List Nat} {pre : List Nat} {x : Nat} (hp : Pre n nd (pre ++ [x])) : Pre n nd pre ∧ x < n ∧ x ∉ pre ∧ (∀ k, k ∈ nd x → k ∈ pre) := by
 refine ⟨⟨fun i hi => hp.lt i (by simp [hi]), (List.nodup_append.1 hp.nodup).1, fun a b c e k hk => hp.needs a b (c ++ [x]) (by rw [e]; simp) k hk⟩, hp.lt x (by simp), fun hx => ?_, fun k hk => hp.needs pre x [] rfl k hk⟩
 exact (List.nodup_append.1 hp.nodup).2.2 x hx x (by simp) rfl
theorem pre_closed {n : Nat} {nd : Nat → List Nat} {pre : List Nat} (hp : Pre n nd pre) : ∀ k, k ∈ pre → ∀ j, j ∈ nd k → j ∈ pre := by
 intro k hk j hj
 obtain ⟨a, b, rfl⟩ := List.append_of_mem hk
 have := hp.needs a k b rfl j hj
 simp [this]
theorem asc_bitsO {n : Nat} (hn : n ≤ 8) {l : List Int} (h : ascB n (-1) l = true) : Bits (maskGo 0 l) (fun i => (i : Int) ∈ l) :=
 (maskGo_bits hn l 0 _ Bits.zero (fun x hx => ⟨by have := ascB_mem h x hx; omega, (ascB_mem h x hx).2⟩)).congr (fun i => by simp)
theorem sok_partsO {l0 : List S74} {l1 : List Int} (h : sok l0 l1 = true) : gok l0 = true ∧ ascB l0.length (-1) l1 = true := by
 unfold sok at h
 simpa only [Bool.and_eq_true] using h
section
variable {l0 : List S74} {l1 : List Int} {kI : Int}
/-- The fields of the state, by name. -/
abbrev oO (l0 : List S74) (l1 : List Int) (kI : Int) (done : List Nat) : List Int := (outs (ndm l0) l0.length (maskGo 0 l1) kI done).1
abbrev oS (l0 : List S74) (l1 : List Int) (kI : Int) (done : List Nat) : Nat := (outs (ndm l0) l0.length (maskGo 0 l1) kI done).2.1
abbrev oF (l0 : List S74) (l1 : List Int) (kI : Int) (done : List Nat) : Nat := (outs (ndm l0) l0.length (maskGo 0 l1) kI done).2.2
/-- What a task's turn does. -/
theorem outs_turn (hs : sok l0 l1 = true) {pre : List Nat} {x : Nat} (hp : Pre l0.length (nds l0) (pre ++ [x])) (hi : OInv (nds l0) (fun i => (i : Int) ∈ l1) l0.length kI pre (oO l0 l1 kI pre) (oS l0 l1 kI pre) (oF l0 l1 kI pre)) :
  (kI ≤ (oF l0 l1 kI pre : Int) ∧ oO l0 l1 kI (pre ++ [x]) = (oO l0 l1 kI pre).set x 3 ∧ oS l0 l1 kI (pre ++ [x]) = oS l0 l1 kI pre ∧ oF l0 l1 kI (pre ++ [x]) = oF l0 l1 kI pre) ∨
  (¬ kI ≤ (oF l0 l1 kI pre : Int) ∧ (∃ j, j ∈ nds l0 x ∧ (oO l0 l1 kI pre).getD j 0 ≠ 0) ∧ oO l0 l1 kI (pre ++ [x]) = (oO l0 l1 kI pre).set x 2 ∧ oS l0 l1 kI (pre ++ [x]) = oS l0 l1 kI pre ∧ oF l0 l1 kI (pre ++ [x]) = oF l0 l1 kI pre) ∨
  (¬ kI ≤ (oF l0 l1 kI pre : Int) ∧ (∀ j, j ∈ nds l0 x → (oO l0 l1 kI pre).getD j 0 = 0) ∧ (x : Int) ∈ l1 ∧ oO l0 l1 kI (pre ++ [x]) = (oO l0 l1 kI pre).set x 1 ∧ oS l0 l1 kI (pre ++ [x]) = oS l0 l1 kI pre ∧ oF l0 l1 kI (pre ++ [x]) = oF l0 l1 kI pre + 1) ∨
  (¬ kI ≤ (oF l0 l1 kI pre : Int) ∧ (∀ j, j ∈ nds l0 x → (oO l0 l1 kI pre).getD j 0 = 0) ∧ ¬ (x : Int) ∈ l1 ∧ oO l0 l1 kI (pre ++ [x]) = (oO l0 l1 kI pre).set x 0 ∧ oS l0 l1 kI (pre ++ [x]) = oS l0 l1 kI pre ||| 2 ^ x ∧ oF l0 l1 kI (pre ++ [x]) = oF l0 l1 kI pre) := by
 obtain ⟨hg, ha⟩ := sok_partsO hs
 obtain ⟨hpre, hxn, hx, hnx⟩ := pre_init hp
 have hb := asc_bitsO (gok8 hg) ha
 have hand := Bits.andNot (ndm_bits (gok_fine hg) hxn) hi.bits
 have hz : andNot ((ndm l0).getD x 0) (oS l0 l1 kI pre) = 0 ↔ ∀ j, j ∈ nds l0 x → (oO l0 l1 kI pre).getD j 0 = 0 := by
  rw [hand.eq_zero]
  constructor
  ·intro h j hj
   apply Classical.byContradiction
   intro hn
   exact h j ⟨hj, fun e => hn e.2⟩
  ·intro h j hj
   exact hj.2 ⟨hnx j hj.1, h j hj.1⟩
 have hm : (maskGo 0 l1).testBit x = true ↔ (x : Int) ∈ l1 := hb.iff x
 have hl : x < (oO l0 l1 kI pre).length := by rw [hi.len]; exact hxn
 have hstep : outs (ndm l0) l0.length (maskGo 0 l1) kI (pre ++ [x]) = ostep (ndm l0) (maskGo 0 l1) kI (outs (ndm l0) l0.length (maskGo 0 l1) kI pre) x := outs_snoc _ _ _ _ _ _
 unfold ostep at hstep
 unfold oO oS oF at *
 by_cases c1 : kI ≤ ((outs (ndm l0) l0.length (maskGo 0 l1) kI pre).2.2 : Int)
 ·rw [if_pos c1] at hstep
  rw [hstep]
  exact .inl ⟨c1, rfl, rfl, rfl⟩
 rw [if_neg c1] at hstep
 by_cases c2 : andNot ((ndm l0).getD x 0) (outs (ndm l0) l0.length (maskGo 0 l1) kI pre).2.1 = 0
 ·rw [if_neg (by simpa using c2)] at hstep
  by_cases c3 : (maskGo 0 l1).testBit x = true
  ·rw [if_pos c3] at hstep
   rw [hstep]
   exact .inr (.inr (.inl ⟨c1, hz.1 c2, hm.1 c3, rfl, rfl, rfl⟩))
  ·rw [if_neg c3] at hstep
   rw [hstep]
   exact .inr (.inr (.inr ⟨c1, hz.1 c2, fun e => c3 (hm.2 e), (set_same hl (hi.off x hx)).symm, rfl, rfl⟩))
 ·rw [if_pos c2] at hstep
  rw [hstep]
  refine .inr (.inl ⟨c1, ?_, rfl, rfl, rfl⟩)
  apply Classical.byContradiction
  intro hn
  refine c2 (hz.2 (fun j hj => ?_))
  apply Classical.byContradiction
  intro hn2
  exact hn ⟨j, hj, hn2⟩
theorem outs_inv (hs : sok l0 l1 = true) (hk : 1 ≤ kI) : ∀ (done : List Nat), Pre l0.length (nds l0) done → OInv (nds l0) (fun i => (i : Int) ∈ l1) l0.length kI done (oO l0 l1 kI done) (oS l0 l1 kI done) (oF l0 l1 kI done) := by
 obtain ⟨hg, ha⟩ := sok_partsO hs
 have h8 := gok8 hg
 intro done
 induction done using snoc_ind with
 | h0 =>
  intro _
  refine ⟨by simp [oO, outs], fun k _ => ?_, ?_, by simp, ?_, by simp [oF, outs]; omega⟩
  ·show (List.replicate l0.length (0 : Int)).getD k 0 = 0
   rw [List.getD_eq_getElem?_getD, List.getElem?_replicate]
   split <;> rfl
  ·exact Bits.zero.congr (fun k => by simp)
  ·exact (cntK_replicate _ (by decide)).symm
 | hs pre x ih =>
  intro hp
  obtain ⟨hpre, hxn, hx, hnx⟩ := pre_init hp
  have hi := ih hpre
  have hcl := pre_closed hpre
  have hl : x < (oO l0 l1 kI pre).length := by rw [hi.len]; exact hxn
  have hbs : ∀ v : Int, v ≠ 0 → Bits (oS l0 l1 kI pre) (fun k => k ∈ pre ++ [x] ∧ ((oO l0 l1 kI pre).set x v).getD k 0 = 0) := fun v hv => hi.bits.congr (fun k => by
   rw [gset hl]
   by_cases e : k = x
   ·subst e
    simp [hx, hv]
   ·simp [e])
  rcases outs_turn hs hp hi with ⟨c1, e1, e2, e3⟩ | ⟨c1, c2, e1, e2, e3⟩ | ⟨c1, c2, c3, e1, e2, e3⟩ | ⟨c1, c2, c3, e1, e2, e3⟩
  ·rw [e1, e2, e3]
   exact hi.put hx hxn hnx hcl (Nat.le_refl _) (hbs 3 (by decide)) (by simp) hi.le (.inr (.inr (.inr ⟨rfl, c1⟩)))
  ·rw [e1, e2, e3]
   exact hi.put hx hxn hnx hcl (Nat.le_refl _) (hbs 2 (by decide)) (by simp) hi.le (.inr (.inr (.inl ⟨rfl, c2⟩)))
  ·rw [e1, e2, e3]
   exact hi.put hx hxn hnx hcl (Nat.le_succ _) (hbs 1 (by decide)) (by simp) (by omega) (.inr (.inl ⟨rfl, c2, c3⟩))
  ·rw [e1, e2, e3]
   refine hi.put hx hxn hnx hcl (Nat.le_refl _) ((hi.bits.or (Bits.pow (k := x) (by omega))).congr (fun k => ?_)) (by simp) hi.le (.inl ⟨rfl, c2, c3⟩)
   rw [gset hl]
   by_cases e : k = x
   ·subst e
    simp
   ·simp [e]
theorem outL_inv (hs : sok l0 l1 = true) (hk : 1 ≤ kI) : OInv (nds l0) (fun i => (i : Int) ∈ l1) l0.length kI (ord l0) (outL l0 l1 kI) (oS l0 l1 kI (ord l0)) (oF l0 l1 kI (ord l0)) := outs_inv hs hk (ord l0) (topo_pre _ _)
/-- What a task's outcome tells, at the end. -/
theorem outL_val (hs : sok l0 l1 = true) (hk : 1 ≤ kI) {i : Nat} (hi : i < l0.length) :
  ((outL l0 l1 kI).getD i 0 = 0 ∧ (∀ j, j ∈ nds l0 i → (outL l0 l1 kI).getD j 0 = 0) ∧ ¬ (i : Int) ∈ l1) ∨ ((outL l0 l1 kI).getD i 0 = 1 ∧ (∀ j, j ∈ nds l0 i → (outL l0 l1 kI).getD j 0 = 0) ∧ (i : Int) ∈ l1) ∨ ((outL l0 l1 kI).getD i 0 = 2 ∧ ∃ j, j ∈ nds l0 i ∧ (outL l0 l1 kI).getD j 0 ≠ 0) ∨ ((outL l0 l1 kI).getD i 0 = 3 ∧ kI ≤ (cntK (outL l0 l1 kI) 1 : Int)) := by
 have h := outL_inv hs hk
 have := h.val i ((ord_mem (sok_partsO hs).1).2 hi)
 rw [h.cnt] at this
 exact this
theorem needsFine_go {ns out : List Int} (hn : ns.length ≤ 8) (ho : out.length ≤ 8) (hr : ∀ x, x ∈ ns → 0 ≤ x ∧ x < (out.length : Int)) : ∀ (rest pre : List Int) (k : Nat), ns = pre ++ rest → rest.length < k → spec_needsFine.l0 k ns out (pre.length : Int) = some (rest.all (fun x => decide (out.getD x.toNat 0 = 0))) := by
 intro rest
 induction rest with
 | nil =>
  intro pre k e hk
  obtain ⟨k, rfl⟩ : ∃ m, k = m + 1 := ⟨k - 1, by omega⟩
  rw [spec_needsFine.l0, if_neg (by rw [e]; simp)]
  rfl
 | cons x r ih =>
  intro pre k e hk
  obtain ⟨k, rfl⟩ : ∃ m, k = m + 1 := ⟨k - 1, by omega⟩
  simp only [List.length_cons] at hk
  have hlt : pre.length < ns.length := by rw [e]; simp
  have hx := hr x (by rw [e]; simp)
  have hrd : rd ns (pre.length : Int) = x := by rw [e]; exact rd_app _ _ _
  rw [spec_needsFine.l0, if_pos (by omega), if_pos (by omega), hrd, if_pos hx.1, if_pos hx.2, nx (m := 8) (by omega) (by omega), show pre.length + 1 = (pre ++ [x]).length by simp]
  rw [List.all_cons]
  by_cases c : rd out x = 0
  ·have c' : out.getD x.toNat 0 = 0 := c
   rw [if_pos c, ih (pre ++ [x]) k (by rw [e]; simp) (by omega), decide_eq_true c', Bool.true_and]
  ·have c' : ¬ out.getD x.toNat 0 = 0 := c
   rw [if_neg c, decide_eq_false c', Bool.false_and]
theorem needsFine_eq (hg : gok l0 = true) {out : List Int} (ho : out.length = l0.length) {i : Nat} (hi : i < l0.length) (k : Nat) (hk : 20 ≤ k) : ∃ b, spec_needsFine.f k (rd_T74 l0 (i : Int)).f1 out = some b ∧ (b = true ↔ ∀ j, j ∈ nds l0 i → out.getD j 0 = 0) := by
 have h8 := gok8 hg
 obtain ⟨hn, h0⟩ := needs_len (gok_fine hg) hi
 refine ⟨_, needsFine_go hn (by omega) (fun x hx => ⟨h0 x hx, ?_⟩) (rd_T74 l0 (i : Int)).f1 [] k rfl (by omega), ?_⟩
 ·have := nds_lt (gok_fine hg) hi (k := x.toNat) (List.mem_map.2 ⟨x, hx, rfl⟩)
  have := h0 x hx
  omega
 ·rw [List.all_eq_true]
  unfold nds
  constructor
  ·intro h j hj
   obtain ⟨x, hx, rfl⟩ := List.mem_map.1 hj
   simpa using h x hx
  ·intro h x hx
   simpa using h _ (List.mem_map.2 ⟨x, hx, rfl⟩)
theorem outcome_l0 (hs : sok l0 l1 = true) (hk1 : 1 ≤ kI) (hl1 : l1.length ≤ 8) : ∀ (rest pre : List Nat) (k : Nat), ord l0 = pre ++ rest → rest.length * 3 + 60 ≤ k →
  spec_outcome.l0 k l0 l1 kI (oO l0 l1 kI pre) (castL (ord l0)) (oF l0 l1 kI pre : Nat) (pre.length : Int) = some (outL l0 l1 kI) := by
 obtain ⟨hg, ha⟩ := sok_partsO hs
 have h8 := gok8 hg
 have hol := ord_len hg
 intro rest
 induction rest with
 | nil =>
  intro pre k e hk
  obtain ⟨k, rfl⟩ : ∃ m, k = m + 1 := ⟨k - 1, by omega⟩
  have hpe : pre = ord l0 := by rw [e]; simp
  rw [spec_outcome.l0, if_neg (by rw [castL_length, e]; simp), hpe]
  rfl
 | cons x r ih =>
  intro pre k e hk
  obtain ⟨k, rfl⟩ : ∃ m, k = m + 1 := ⟨k - 1, by omega⟩
  simp only [List.length_cons] at hk
  have hlt : pre.length < (ord l0).length := by rw [e]; simp
  have hxe : (ord l0).getD pre.length 0 = x := by rw [e]; simp
  have hp : Pre l0.length (nds l0) (pre ++ [x]) := by
   have hpo : Pre l0.length (nds l0) (ord l0) := topo_pre l0.length (nds l0)
   rw [e, show pre ++ x :: r = (pre ++ [x]) ++ r by simp] at hpo
   exact ⟨fun i hi => hpo.lt i (List.mem_append_left _ hi), (List.nodup_append.1 hpo.nodup).1, fun a b c e' k hk => hpo.needs a b (c ++ r) (by rw [e']; simp) k hk⟩
  obtain ⟨hpre, hxn, hx, hnx⟩ := pre_init hp
  have hi := outs_inv hs hk1 pre hpre
  have hcl := castL_length (ord l0)
  have hlen := hi.len
  have hfl : oF l0 l1 kI pre ≤ l0.length := by rw [hi.cnt, ← hi.len]; exact cntK_le _ _
  have hn1 : wrap64 ((pre.length : Int) + 1) = ((pre ++ [x]).length : Int) := by rw [nx (m := 8) (by omega) (by omega)]; simp
  have hih := ih (pre ++ [x])
  rw [spec_outcome.l0, if_pos (by omega), if_pos (by omega), rd_castL, hxe, hn1, Int.toNat_natCast]
  rcases outs_turn hs hp hi with ⟨c1, e1, e2, e3⟩ | ⟨c1, c2, e1, e2, e3⟩ | ⟨c1, c2, c3, e1, e2, e3⟩ | ⟨c1, c2, c3, e1, e2, e3⟩
  ·rw [if_pos c1, if_pos (by omega), if_pos (by omega), ← e1, ← e3]
   exact ih (pre ++ [x]) k (by rw [e]; simp) (by omega)
  ·obtain ⟨b, hb, hb2⟩ := needsFine_eq hg (out := oO l0 l1 kI pre) hlen hxn k (by omega)
   have hbf : ¬ b = true := fun h => by
    obtain ⟨j, hj, hj2⟩ := c2
    exact hj2 (hb2.1 h j hj)
   rw [if_neg c1, if_pos (by omega), if_pos (by omega), hb]
   simp only [Option.bind_some]
   rw [if_neg hbf, if_pos (by omega), ← e1, ← e3]
   exact ih (pre ++ [x]) k (by rw [e]; simp) (by omega)
  ·obtain ⟨b, hb, hb2⟩ := needsFine_eq hg (out := oO l0 l1 kI pre) hlen hxn k (by omega)
   rw [if_neg c1, if_pos (by omega), if_pos (by omega), hb]
   simp only [Option.bind_some]
   rw [if_pos (hb2.2 c2), isIn_eq (by omega) _ _ (by omega)]
   simp only [Option.bind_some]
   rw [if_pos (by simpa using c3), if_pos (by omega), nx (m := 100) (by omega) (by omega), ← e1, ← e3]
   exact ih (pre ++ [x]) k (by rw [e]; simp) (by omega)
  ·obtain ⟨b, hb, hb2⟩ := needsFine_eq hg (out := oO l0 l1 kI pre) hlen hxn k (by omega)
   rw [if_neg c1, if_pos (by omega), if_pos (by omega), hb]
   simp only [Option.bind_some]
   rw [if_pos (hb2.2 c2), isIn_eq (by omega) _ _ (by omega)]
   simp only [Option.bind_some]
   rw [if_neg (by simpa using c3), if_pos (by omega), ← e1, ← e3]
   exact ih (pre ++ [x]) k (by rw [e]; simp) (by omega)
theorem asc_len8O (h : sok l0 l1 = true) : l1.length ≤ 8 := by
 obtain ⟨hg, ha⟩ := sok_partsO h
 have h8 := gok8 hg
 rcases asc_short _ _ ha (by omega) with e | e
 ·rw [e]; simp
 ·omega
theorem outcome_eq (hs : sok l0 l1 = true) (hk1 : 1 ≤ kI) (k : Nat) (hk : 500 ≤ k) : spec_outcome.f k l0 l1 kI = some (outL l0 l1 kI) := by
 obtain ⟨hg, ha⟩ := sok_partsO hs
 have h8 := gok8 hg
 have hol := ord_len hg
 unfold spec_outcome.f
 rw [if_pos (by omega), if_pos (by omega), topOrder_eq (gok_fine hg) k (by omega)]
 simp only [Option.bind_some]
 have h := outcome_l0 hs hk1 (asc_len8O hs) (ord l0) [] k rfl (by omega)
 simpa [oO, oF, outs] using h
end
end Go.Proofs.YtgdoajmgheokbaaDoor.G
