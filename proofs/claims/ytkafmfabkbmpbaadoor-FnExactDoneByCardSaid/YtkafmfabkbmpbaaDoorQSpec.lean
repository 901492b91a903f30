/-
 Several texts in one: QSpec, QAllNeeds.
-/
import Derived.Test.YtkafmfabkbmpbaaDoorHGOf
import Derived.Test.YtkafmfabkbmpbaaDoorG0
import Derived.Test.YtkafmfabkbmpbaaDoorG1
/-! The reference model's words on graphs: isIn, allIn, ascends, tasksFine, allDone, topOrder, validGraph. -/
namespace Go.Proofs.YtkafmfabkbmpbaaDoor.G
open Go.RowKit Go.Proofs.YtkafmfabkbmpbaaDoorW.PrintWords Go.Proofs.YtkafmfabkbmpbaaDoorW.PrintLast Go.Proofs.YtkafmfabkbmpbaaDoorW.PrintMore C
set_option linter.unusedVariables false
set_option linter.unusedSimpArgs false

theorem inRange_eq (a b c : Int) : spec_inRange.f a b c = some (decide (b ≤ a ∧ a ≤ c)) := by
 unfold spec_inRange.f
 by_cases h : b ≤ a
 ·rw [if_pos h]
  simp [h]
 ·rw [if_neg h]
  simp [h]
theorem nx {i : Nat} {m : Nat} (hm : m ≤ 4611686018427387904) (hi : i < m) : wrap64 ((i : Int) + 1) = ((i + 1 : Nat) : Int) := by rw [w64 (by omega) (by omega)]; rfl
theorem isIn_go {l : List Int} (hl : l.length ≤ 4611686018427387904) (a : Int) : ∀ (rest pre : List Int) (k : Nat), l = pre ++ rest → rest.length < k → spec_isIn.l0 k l a (pre.length : Int) = some (rest.contains a) := by
 intro rest
 induction rest with
 | nil =>
  intro pre k e hk
  obtain ⟨k, rfl⟩ : ∃ m, k = m + 1 := ⟨k - 1, by omega⟩
  rw [spec_isIn.l0, if_neg (by rw [e]; simp)]
  rfl
 | cons x r ih =>
  intro pre k e hk
  obtain ⟨k, rfl⟩ : ∃ m, k = m + 1 := ⟨k - 1, by omega⟩
  simp only [List.length_cons] at hk
  have hlt : pre.length < l.length := by rw [e]; simp
  rw [spec_isIn.l0, if_pos (by omega), if_pos (by omega), show rd l (pre.length : Int) = x by rw [e]; exact rd_app _ _ _, nx hl hlt, show pre.length + 1 = (pre ++ [x]).length by simp, ih (pre ++ [x]) k (by rw [e]; simp) (by omega)]
  by_cases c : x = a
  ·rw [if_pos c]
   simp [c]
  ·rw [if_neg c]
   have c' : ¬ a = x := fun h => c h.symm
   simp [List.contains_cons, c']
theorem isIn_eq {l : List Int} (hl : l.length ≤ 4611686018427387904) (a : Int) (k : Nat) (hk : l.length < k) : spec_isIn.f k l a = some (l.contains a) := isIn_go hl a l [] k rfl hk
theorem allIn_go {l : List Int} (hl : l.length ≤ 4611686018427387904) (a b : Int) : ∀ (rest pre : List Int) (k : Nat), l = pre ++ rest → rest.length < k → spec_allIn.l0 k l a b (pre.length : Int) = some (rest.all (fun x => decide (a ≤ x ∧ x ≤ b))) := by
 intro rest
 induction rest with
 | nil =>
  intro pre k e hk
  obtain ⟨k, rfl⟩ : ∃ m, k = m + 1 := ⟨k - 1, by omega⟩
  rw [spec_allIn.l0, if_neg (by rw [e]; simp)]
  rfl
 | cons x r ih =>
  intro pre k e hk
  obtain ⟨k, rfl⟩ : ∃ m, k = m + 1 := ⟨k - 1, by omega⟩
  simp only [List.length_cons] at hk
  have hlt : pre.length < l.length := by rw [e]; simp
  rw [spec_allIn.l0, if_pos (by omega), if_pos (by omega), show rd l (pre.length : Int) = x by rw [e]; exact rd_app _ _ _, nx hl hlt, show pre.length + 1 = (pre ++ [x]).length by simp, ih (pre ++ [x]) k (by rw [e]; simp) (by omega), inRange_eq]
  simp only [Option.bind_some]
  by_cases c : a ≤ x ∧ x ≤ b
  ·rw [if_pos (decide_eq_true c)]
   simp [c]
  ·rw [if_neg (by simpa using c)]
   simp only [List.all_cons, decide_eq_false c, Bool.false_and]
theorem allIn_eq {l : List Int} (hl : l.length ≤ 4611686018427387904) (a b : Int) (k : Nat) (hk : l.length < k) : spec_allIn.f k l a b = some (l.all (fun x => decide (a ≤ x ∧ x ≤ b))) := allIn_go hl a b l [] k rfl hk
def ascC : Int → List Int → Bool
 | _, [] => true
 | last, x :: r => decide (last < x) && ascC x r
theorem ascends_go {l : List Int} (hl : l.length ≤ 4611686018427387904) : ∀ (rest pre : List Int) (y : Int) (k : Nat), l = pre ++ y :: rest → rest.length < k → spec_ascends.l0 k l ((pre.length + 1 : Nat) : Int) = some (ascC y rest) := by
 intro rest
 induction rest with
 | nil =>
  intro pre y k e hk
  obtain ⟨k, rfl⟩ : ∃ m, k = m + 1 := ⟨k - 1, by omega⟩
  rw [spec_ascends.l0, if_neg (by rw [e]; simp)]
  rfl
 | cons x r ih =>
  intro pre y k e hk
  obtain ⟨k, rfl⟩ : ∃ m, k = m + 1 := ⟨k - 1, by omega⟩
  simp only [List.length_cons] at hk
  have hlt : pre.length + 1 < l.length := by rw [e]; simp
  have e1 : wrap64 (((pre.length + 1 : Nat) : Int) - 1) = (pre.length : Int) := by rw [w64 (by omega) (by omega)]; omega
  have e2 : rd l ((pre.length + 1 : Nat) : Int) = x := by
   rw [e, show pre ++ y :: x :: r = (pre ++ [y]) ++ x :: r by simp, show pre.length + 1 = (pre ++ [y]).length by simp]
   exact rd_app _ _ _
  rw [spec_ascends.l0, if_pos (by omega), if_pos (by omega), e1, if_pos (by omega), if_pos (by omega), e2, show rd l (pre.length : Int) = y by rw [e]; exact rd_app _ _ _, nx hl hlt]
  by_cases c : x ≤ y
  ·rw [if_pos c]
   unfold ascC
   rw [decide_eq_false (by omega), Bool.false_and]
  ·rw [if_neg c, show pre.length + 1 + 1 = (pre ++ [y]).length + 1 by simp, ih (pre ++ [y]) x k (by rw [e]; simp) (by omega)]
   conv => rhs; unfold ascC
   rw [decide_eq_true (by omega), Bool.true_and]
theorem asc_eq (n : Nat) : ∀ (r : List Int) (last : Int), (0 ≤ last + 1) → (r.all (fun x => decide (0 ≤ x ∧ x ≤ (n : Int) - 1)) && ascC last r) = ascB n last r
 | [], _, _ => rfl
 | x :: r, last, h => by
  rw [List.all_cons]
  unfold ascC ascB
  by_cases c1 : last < x
  ·by_cases c2 : x ≤ (n : Int) - 1
   ·rw [decide_eq_true (show 0 ≤ x ∧ x ≤ (n : Int) - 1 by omega), decide_eq_true c1, decide_eq_true (show last + 1 ≤ x ∧ x ≤ (n : Int) - 1 by omega), Bool.true_and, Bool.true_and, Bool.true_and]
    exact asc_eq n r x (by omega)
   ·rw [decide_eq_false (show ¬ (0 ≤ x ∧ x ≤ (n : Int) - 1) by omega), decide_eq_false (show ¬ (last + 1 ≤ x ∧ x ≤ (n : Int) - 1) by omega)]
    rfl
  ·rw [decide_eq_false c1, decide_eq_false (show ¬ (last + 1 ≤ x ∧ x ≤ (n : Int) - 1) by omega), Bool.false_and, Bool.false_and, Bool.and_false]
theorem needs_eq {l : List Int} (n : Nat) (hl : l.length ≤ 4611686018427387904) (k : Nat) (hk : l.length < k) : ∃ b, spec_ascends.f k l = some b ∧ (l.all (fun x => decide (0 ≤ x ∧ x ≤ (n : Int) - 1)) && b) = ascB n (-1) l := by
 unfold spec_ascends.f
 cases l with
 | nil =>
  obtain ⟨k, rfl⟩ : ∃ m, k = m + 1 := ⟨k - 1, by omega⟩
  refine ⟨true, ?_, rfl⟩
  rw [spec_ascends.l0, if_neg (by simp)]
 | cons y r =>
  refine ⟨ascC y r, ascends_go hl r [] y k rfl (by simp only [List.length_cons] at hk; omega), ?_⟩
  rw [← asc_eq n (y :: r) (-1) (by omega)]
  rw [List.all_cons]
  conv => rhs; rhs; unfold ascC
  by_cases c : 0 ≤ y ∧ y ≤ (n : Int) - 1
  ·rw [decide_eq_true (show (-1 : Int) < y by omega), Bool.true_and]
  ·rw [decide_eq_false c]
   simp
theorem validTask_eq (n : Nat) (t : S47) (hn : n ≤ 4611686018427387904) (hl : t.f1.length ≤ 4611686018427387904) (k : Nat) (hk : t.f1.length < k) : spec_validTask.f k t.f0 t.f1 t.f2 t.f3 (n : Int) = some (fineT n t) := by
 unfold spec_validTask.f
 obtain ⟨b, hb, hb2⟩ := needs_eq n hl k hk
 simp only [inRange_eq, Option.bind_some]
 rw [w64 (by omega) (by omega), allIn_eq hl _ _ _ hk, hb]
 unfold fineT
 rw [← hb2]
 by_cases c1 : 1 ≤ t.f0 ∧ t.f0 ≤ 20
 ·by_cases c2 : 0 ≤ t.f2 ∧ t.f2 ≤ 2
  ·by_cases c3 : 1 ≤ t.f3 ∧ t.f3 ≤ 4
   ·rw [decide_eq_true c1, decide_eq_true c2, decide_eq_true c3]
    simp only [if_true, Option.bind_some, Bool.and_true]
    cases t.f1.all (fun x => decide (0 ≤ x ∧ x ≤ (n : Int) - 1)) <;> rfl
   ·rw [decide_eq_true c1, decide_eq_true c2, decide_eq_false c3]
    simp
  ·rw [decide_eq_true c1, decide_eq_false c2]
   simp
 ·rw [decide_eq_false c1]
  simp
/-- Lengths below a bound. -/
structure Small (B : Nat) (l0 : List S47) : Prop where
 len : l0.length ≤ B
 nd : ∀ t, t ∈ l0 → t.f1.length ≤ B
theorem tasksFine_go {l0 : List S47} {B : Nat} (hB : B ≤ 4611686018427387904) (hs : Small B l0) : ∀ (rest pre : List S47) (k : Nat), l0 = pre ++ rest → rest.length + B + 1 < k → spec_tasksFine.l0 k l0 (pre.length : Int) = some (rest.all (fineT l0.length) && decide (l0.length ≤ 8)) := by
 intro rest
 induction rest with
 | nil =>
  intro pre k e hk
  obtain ⟨k, rfl⟩ : ∃ m, k = m + 1 := ⟨k - 1, by omega⟩
  rw [spec_tasksFine.l0, if_neg (by rw [e]; simp)]
  simp
  omega
 | cons x r ih =>
  intro pre k e hk
  obtain ⟨k, rfl⟩ : ∃ m, k = m + 1 := ⟨k - 1, by omega⟩
  simp only [List.length_cons] at hk
  have hlt : pre.length < l0.length := by rw [e]; simp
  have hx := hs.nd x (by rw [e]; simp)
  rw [spec_tasksFine.l0, if_pos (by omega), if_pos (by omega), show rd_T47 l0 (pre.length : Int) = x by rw [e]; exact rdT_app _ _ _, nx (Nat.le_trans hs.len hB) hlt, show pre.length + 1 = (pre ++ [x]).length by simp, ih (pre ++ [x]) k (by rw [e]; simp) (by omega), validTask_eq _ _ (Nat.le_trans hs.len hB) (Nat.le_trans hx hB) _ (by omega)]
  simp only [Option.bind_some, List.all_cons]
  cases fineT l0.length x <;> simp
theorem tasksFine_eq {l0 : List S47} {B : Nat} (hB : B ≤ 4611686018427387904) (hs : Small B l0) (k : Nat) (hk : 2 * B + 1 < k) : spec_tasksFine.f k l0 = some (fine l0) := by
 have := tasksFine_go hB hs l0 [] k rfl (by have := hs.len; omega)
 unfold fine
 rw [Bool.and_comm]
 exact this
theorem toNat_contains {dl : List Nat} {x : Int} (h : 0 ≤ x) : (castL dl).contains x = dl.contains x.toNat := by
 rw [Bool.eq_iff_iff]
 simp [castL]
 constructor
 ·rintro ⟨a, ha, rfl⟩
  simpa using ha
 ·intro ha
  exact ⟨x.toNat, ha, by omega⟩
theorem allDone_go {ns : List Int} {dl : List Nat} (hd : dl.length ≤ 8) (hn : ns.length ≤ 8) (h0 : ∀ x, x ∈ ns → 0 ≤ x) : ∀ (rest pre : List Int) (k : Nat), ns = pre ++ rest → rest.length + 10 < k → spec_allDone.l0 k ns (castL dl) (pre.length : Int) = some ((rest.map Int.toNat).all (fun k => dl.contains k)) := by
 intro rest
 induction rest with
 | nil =>
  intro pre k e hk
  obtain ⟨k, rfl⟩ : ∃ m, k = m + 1 := ⟨k - 1, by omega⟩
  rw [spec_allDone.l0, if_neg (by rw [e]; simp)]
  rfl
 | cons x r ih =>
  intro pre k e hk
  obtain ⟨k, rfl⟩ : ∃ m, k = m + 1 := ⟨k - 1, by omega⟩
  simp only [List.length_cons] at hk
  have hlt : pre.length < ns.length := by rw [e]; simp
  rw [spec_allDone.l0, if_pos (by omega), if_pos (by omega), show rd ns (pre.length : Int) = x by rw [e]; exact rd_app _ _ _, nx (m := 8) (by omega) (by omega), show pre.length + 1 = (pre ++ [x]).length by simp, ih (pre ++ [x]) k (by rw [e]; simp) (by omega), isIn_eq (by rw [castL_length]; omega) _ _ (by rw [castL_length]; omega), toNat_contains (h0 x (by rw [e]; simp))]
  simp only [Option.bind_some, List.map_cons, List.all_cons]
  cases dl.contains x.toNat <;> simp
theorem fine_needs {l0 : List S47} (h : fine l0 = true) {i : Nat} (hi : i < l0.length) : ascB l0.length (-1) (rd_T47 l0 (i : Int)).f1 = true := by
 have hm := (fine_task h).2 _ (mem_rdT hi)
 unfold fineT at hm
 simp only [Bool.and_eq_true] at hm
 exact hm.1
theorem asc_short {n : Nat} : ∀ (l : List Int) (last : Int), ascB n last l = true → 0 ≤ last + 1 → l = [] ∨ (l.length : Int) + last + 1 ≤ n
 | [], _, _, _ => .inl rfl
 | x :: r, last, h, h0 => by
  simp only [ascB, Bool.and_eq_true, decide_eq_true_eq] at h
  right
  rw [List.length_cons]
  rcases asc_short r x h.2 (by omega) with e | e
  ·rw [e]
   simp
   omega
  ·omega
theorem needs_len {l0 : List S47} (h : fine l0 = true) {i : Nat} (hi : i < l0.length) : (rd_T47 l0 (i : Int)).f1.length ≤ 8 ∧ ∀ x, x ∈ (rd_T47 l0 (i : Int)).f1 → 0 ≤ x := by
 have ha := fine_needs h hi
 refine ⟨?_, fun x hx => by have := ascB_mem ha x hx; omega⟩
 have h8 := (fine_task h).1
 rcases asc_short _ _ ha (by omega) with e | e
 ·rw [e]; simp
 ·omega
theorem allDone_eq {l0 : List S47} {dl : List Nat} (h : fine l0 = true) (hd : dl.length ≤ 8) {i : Nat} (hi : i < l0.length) (k : Nat) (hk : 20 ≤ k) : spec_allDone.f k (rd_T47 l0 (i : Int)).f1 (castL dl) = some ((nds l0 i).all (fun k => dl.contains k)) := by
 obtain ⟨h1, h2⟩ := needs_len h hi
 exact allDone_go hd h1 h2 _ [] k rfl (by omega)
/-- One search of topOrder: next is -1 or found. -/
theorem top_found {l0 : List S47} {dl : List Nat} (hdl : dl.length ≤ 8) {x : Nat} {i : Nat} (k : Nat) (hk : 3 ≤ k) : spec_topOrder.l1 k l0 (castL dl) (x : Int) (i : Int) = spec_topOrder.l0 (k - 2) l0 (castL (dl ++ [x])) := by
 obtain ⟨k, rfl⟩ : ∃ m, k = m + 2 := ⟨k - 2, by omega⟩
 have e : ∀ b, b = false → spec_topOrder.j2 (k + 1) l0 (castL dl) (x : Int) (i : Int) b = spec_topOrder.l0 k l0 (castL (dl ++ [x])) := by
  rintro b rfl
  rw [spec_topOrder.j2, if_neg (by decide), if_neg (by omega), if_pos (by rw [castL_length]; omega), castL_snoc]
 rw [spec_topOrder.l1]
 by_cases c : (i : Int) < (l0.length : Int)
 ·rw [if_pos c, e _ (decide_eq_false (by omega))]
  rfl
 ·rw [if_neg c, e _ rfl]
  rfl
theorem top_l1 {l0 : List S47} {dl : List Nat} (h : fine l0 = true) (hdl : dl.length ≤ 8) (hd : ∀ x, x ∈ dl → x < l0.length) : ∀ (m i k : Nat), i + m = l0.length → 2 * m + 40 ≤ k →
  ∃ k', k ≤ k' + 2 * m + 5 ∧ spec_topOrder.l1 k l0 (castL dl) (-1) (i : Int) = (match (List.range' i m).find? (fun i => !dl.contains i && (nds l0 i).all (fun k => dl.contains k)) with | some x => spec_topOrder.l0 k' l0 (castL (dl ++ [x])) | none => some (castL dl)) := by
 have h8 := (fine_task h).1
 intro m
 induction m with
 | zero =>
  intro i k hi hk
  obtain ⟨k, rfl⟩ : ∃ m, k = m + 2 := ⟨k - 2, by omega⟩
  refine ⟨k, by omega, ?_⟩
  rw [spec_topOrder.l1, if_neg (by omega), spec_topOrder.j2, if_neg (by decide), if_pos (by decide)]
  rfl
 | succ m ih =>
  intro i k hi hk
  obtain ⟨k, rfl⟩ : ∃ m, k = m + 2 := ⟨k - 2, by omega⟩
  have hw : wrap64 ((i : Int) + 1) = ((i + 1 : Nat) : Int) := nx (m := 8) (by omega) (by omega)
  have hc : (castL dl).contains (i : Int) = dl.contains i := by rw [toNat_contains (by omega)]; rfl
  rw [spec_topOrder.l1, if_pos (by omega), spec_topOrder.j2, if_pos (by decide), isIn_eq (by rw [castL_length]; omega) _ _ (by rw [castL_length]; omega), hc, List.range'_succ, List.find?_cons, hw]
  simp only [Option.bind_some]
  by_cases c1 : dl.contains i = true
  ·rw [if_pos c1, c1]
   obtain ⟨k', hk', e⟩ := ih (i + 1) k (by omega) (by omega)
   exact ⟨k', by omega, by simpa using e⟩
  ·have c1' : dl.contains i = false := by simpa using c1
   rw [if_neg c1, c1', if_pos (by omega), if_pos (by omega), allDone_eq h hdl (by omega) _ (by omega)]
   simp only [Option.bind_some]
   by_cases c2 : (nds l0 i).all (fun k => dl.contains k) = true
   ·rw [if_pos c2, c2]
    simp only [Bool.not_false, Bool.true_and, Bool.and_self]
    refine ⟨k - 2, by omega, ?_⟩
    rw [top_found hdl _ (by omega)]
   ·rw [if_neg c2, Bool.eq_false_iff.2 c2]
    obtain ⟨k', hk', e⟩ := ih (i + 1) k (by omega) (by omega)
    exact ⟨k', by omega, by simpa using e⟩
theorem top_l0 {l0 : List S47} (h : fine l0 = true) : ∀ (f : Nat) (dl : List Nat) (k : Nat), Pre l0.length (nds l0) dl → l0.length ≤ f + dl.length → f * 30 + 80 ≤ k → spec_topOrder.l0 k l0 (castL dl) = some (castL (topoGo l0.length (nds l0) f dl)) := by
 have h8 := (fine_task h).1
 have key : ∀ (dl : List Nat) (k : Nat), Pre l0.length (nds l0) dl → 80 ≤ k → ∃ k', k ≤ k' + 25 ∧ spec_topOrder.l0 k l0 (castL dl) = (match nextT l0.length (nds l0) dl with | some x => spec_topOrder.l0 k' l0 (castL (dl ++ [x])) | none => some (castL dl)) := by
  intro dl k hp hk
  obtain ⟨k, rfl⟩ : ∃ m, k = m + 1 := ⟨k - 1, by omega⟩
  obtain ⟨k', hk', e⟩ := top_l1 h (Nat.le_trans hp.length_le h8) hp.lt l0.length 0 k (by omega) (by omega)
  refine ⟨k', by omega, ?_⟩
  rw [spec_topOrder.l0]
  have hr : List.range' 0 l0.length = List.range l0.length := List.range_eq_range'.symm
  rw [hr] at e
  exact e
 intro f
 induction f with
 | zero =>
  intro dl k hp hl hk
  obtain ⟨k', hk', e⟩ := key dl k hp (by omega)
  have hn := topoGo_end 0 dl hp hl
  rw [show topoGo l0.length (nds l0) 0 dl = dl from rfl] at hn ⊢
  rw [e, hn]
 | succ f ih =>
  intro dl k hp hl hk
  obtain ⟨k', hk', e⟩ := key dl k hp (by omega)
  rw [e]
  cases hn : nextT l0.length (nds l0) dl with
  | none =>
   rw [topoGo_stop hn]
  | some x =>
   simp only
   rw [ih (dl ++ [x]) k' (hp.snoc hn) (by simp; omega) (by omega), topoGo_step hn]
theorem topOrder_eq {l0 : List S47} (h : fine l0 = true) (k : Nat) (hk : 400 ≤ k) : spec_topOrder.f k l0 = some (castL (ord l0)) := by
 have h8 := (fine_task h).1
 exact top_l0 h l0.length [] k (Pre.nil _ _) (by simp) (by omega)
theorem validGraph_eq {l0 : List S47} {B : Nat} (hB : B ≤ 4611686018427387904) (hs : Small B l0) (k : Nat) (hk : 2 * B + 400 < k) : spec_validGraph.f k l0 = some (gok l0) := by
 unfold spec_validGraph.f gok
 rw [tasksFine_eq hB hs k (by omega)]
 simp only [Option.bind_some]
 by_cases c : fine l0 = true
 ·rw [if_pos c, c, topOrder_eq c k (by omega)]
  simp only [Option.bind_some, Bool.true_and]
  congr 1
  rw [castL_length, Bool.eq_iff_iff, beq_iff_eq, decide_eq_true_eq]
  show (((ord l0).length : Int) = (l0.length : Int)) ↔ (ord l0).length = l0.length
  omega
 ·rw [if_neg c, Bool.eq_false_iff.2 c]
  rfl
end Go.Proofs.YtkafmfabkbmpbaaDoor.G
/-! The reference model's allNeeds: whom a task needs, also by way of others. -/
namespace Go.Proofs.YtkafmfabkbmpbaaDoor.G
open Go.RowKit Go.Proofs.YtkafmfabkbmpbaaDoorW.PrintWords Go.Proofs.YtkafmfabkbmpbaaDoorW.PrintLast Go.Proofs.YtkafmfabkbmpbaaDoorW.PrintMore C
set_option linter.unusedVariables false
set_option linter.unusedSimpArgs false

def visit (seen : List Nat) (ks : List Nat) : List Nat := ks.foldl (fun s x => if s.contains x then s else s ++ [x]) seen
theorem visit_mem : ∀ (ks seen : List Nat) (x : Nat), x ∈ visit seen ks ↔ x ∈ seen ∨ x ∈ ks
 | [], seen, x => by simp [visit]
 | k :: ks, seen, x => by
  have e : visit seen (k :: ks) = visit (if seen.contains k then seen else seen ++ [k]) ks := rfl
  rw [e, visit_mem ks]
  by_cases c : seen.contains k = true
  ·rw [if_pos c, List.mem_cons]
   constructor
   ·rintro (h | h)
    ·exact .inl h
    ·exact .inr (.inr h)
   ·rintro (h | h | h)
    ·exact .inl h
    ·exact .inl (h ▸ by simpa using c)
    ·exact .inr h
  ·rw [if_neg c, List.mem_append, List.mem_singleton, List.mem_cons]
   constructor
   ·rintro ((h | h) | h)
    ·exact .inl h
    ·exact .inr (.inl h)
    ·exact .inr (.inr h)
   ·rintro (h | h | h)
    ·exact .inl (.inl h)
    ·exact .inl (.inr h)
    ·exact .inr h
theorem visit_nodup : ∀ (ks seen : List Nat), seen.Nodup → (visit seen ks).Nodup
 | [], seen, h => h
 | k :: ks, seen, h => by
  have e : visit seen (k :: ks) = visit (if seen.contains k then seen else seen ++ [k]) ks := rfl
  rw [e]
  refine visit_nodup ks _ ?_
  by_cases c : seen.contains k = true
  ·rw [if_pos c]; exact h
  ·rw [if_neg c, List.nodup_append]
   refine ⟨h, by simp, ?_⟩
   intro a ha b hb
   rw [List.mem_singleton.1 hb]
   rintro rfl
   exact c (by simpa using ha)
theorem visit_pre : ∀ (ks seen : List Nat), seen <+: visit seen ks
 | [], seen => List.prefix_refl _
 | k :: ks, seen => by
  have e : visit seen (k :: ks) = visit (if seen.contains k then seen else seen ++ [k]) ks := rfl
  rw [e]
  refine List.IsPrefix.trans ?_ (visit_pre ks _)
  by_cases c : seen.contains k = true
  ·rw [if_pos c]; exact List.prefix_refl _
  ·rw [if_neg c]; exact List.prefix_append _ _
/-- Behind the first i tasks seen. -/
structure BInv (n : Nat) (nd : Nat → List Nat) (a : Nat) (seen : List Nat) (i : Nat) : Prop where
 nodup : seen.Nodup
 mem : ∀ x, x ∈ seen → x < n ∧ (x = a ∨ C.Reach nd a x)
 start : a ∈ seen
 le : i ≤ seen.length
 closed : ∀ j, j < i → ∀ k, k ∈ nd (seen.getD j 0) → k ∈ seen
theorem BInv.visit {n : Nat} {nd : Nat → List Nat} {a : Nat} {seen : List Nat} {i : Nat} (h : BInv n nd a seen i) (hi : i < seen.length) (hnd : ∀ x, x < n → ∀ k, k ∈ nd x → k < n) : BInv n nd a (G.visit seen (nd (seen.getD i 0))) (i + 1) := by
 have hx : seen.getD i 0 ∈ seen := by rw [List.getD_eq_getElem?_getD, List.getElem?_eq_getElem hi]; exact List.getElem_mem _
 obtain ⟨x1, x2⟩ := h.mem _ hx
 have hp := visit_pre (nd (seen.getD i 0)) seen
 have hget : ∀ j, j < seen.length → (G.visit seen (nd (seen.getD i 0))).getD j 0 = seen.getD j 0 := by
  intro j hj
  obtain ⟨t, ht⟩ := hp
  rw [← ht, List.getD_eq_getElem?_getD, List.getElem?_append_left hj, List.getD_eq_getElem?_getD]
 refine ⟨visit_nodup _ _ h.nodup, fun y hy => ?_, (visit_mem _ _ _).2 (.inl h.start), Nat.le_trans hi hp.length_le, fun j hj k hk => ?_⟩
 ·rcases (visit_mem _ _ _).1 hy with hy | hy
  ·exact h.mem y hy
  ·refine ⟨hnd _ x1 _ hy, .inr ?_⟩
   rcases x2 with e | e
   ·rw [e] at hy
    exact .base hy
   ·exact e.trans (.base hy)
 ·rw [hget j (by omega)] at hk
  rw [visit_mem]
  by_cases e : j = i
  ·subst e
   exact .inr hk
  ·exact .inl (h.closed j (by omega) k hk)
theorem BInv.done {n : Nat} {nd : Nat → List Nat} {a : Nat} {seen : List Nat} (h : BInv n nd a seen seen.length) {k : Nat} : k ∈ seen ↔ k = a ∨ C.Reach nd a k := by
 constructor
 ·exact fun hk => (h.mem k hk).2
 ·have hcl : ∀ x, x ∈ seen → ∀ k, k ∈ nd x → k ∈ seen := fun x hx k hk => by
   obtain ⟨j, hj, rfl⟩ := List.getElem_of_mem hx
   refine h.closed j hj k ?_
   rw [List.getD_eq_getElem?_getD, List.getElem?_eq_getElem hj]
   exact hk
  have hr : ∀ x y, C.Reach nd x y → x ∈ seen → y ∈ seen := by
   intro x y hr
   induction hr with
   | base hk => exact fun hx => hcl _ hx _ hk
   | step hj _ ih => exact fun hx => ih (hcl _ hx _ hj)
  rintro (rfl | hk)
  ·exact h.start
  ·exact hr a k hk h.start
section
variable {l0 : List S47}
end
end Go.Proofs.YtkafmfabkbmpbaaDoor.G
