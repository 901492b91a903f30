/-
 Several texts in one: QNeeds, QOrder.
-/
import Derived.Test.YtkafmfabkbmpbaaDoorHR
import Derived.Test.YtkafmfabkbmpbaaDoorG0
import Derived.Test.YtkafmfabkbmpbaaDoorG10
/-! needsOf and order: what the printed functions answer. -/
namespace Go.Proofs.YtkafmfabkbmpbaaDoor.G
open Go.RowKit Go.Proofs.YtkafmfabkbmpbaaDoorW.PrintWords Go.Proofs.YtkafmfabkbmpbaaDoorW.PrintLast Go.Proofs.YtkafmfabkbmpbaaDoorW.PrintMore C
set_option linter.unusedVariables false
set_option linter.unusedSimpArgs false

theorem within_eq (a b c : Int) : impl_within.f a b c = some (decide (b ≤ a ∧ a ≤ c)) := by
 unfold impl_within.f
 by_cases h : a ≥ b
 ·rw [if_pos h]
  simp [h]
 ·rw [if_neg h]
  have : ¬ (b ≤ a) := h
  simp [this]
/-- Numbers that ascend, from last + 1 to n - 1. -/
def ascB (n : Nat) : Int → List Int → Bool
 | _, [] => true
 | last, x :: r => decide (last + 1 ≤ x ∧ x ≤ (n : Int) - 1) && ascB n x r
def maskGo (s : Nat) (l : List Int) : Nat := l.foldl (fun m x => m ||| 2 ^ x.toNat) s
theorem rd_app (pre : List Int) (x : Int) (r : List Int) : rd (pre ++ x :: r) (pre.length : Int) = x := by
 rw [rd_nat]
 simp
theorem setOf_go {n : Nat} (hn : n ≤ 8) {l : List Int} : ∀ (rest pre : List Int) (s : Nat) (last : Int) (k : Nat), l = pre ++ rest → s < 65536 → (pre.length : Int) ≤ last + 1 → last ≤ 7 → 10 ≤ k + pre.length →
  impl_setOf.l0 k (n : Int) (s : Int) last l (l.length : Int) (pre.length : Int) = some (if ascB n last rest then (((maskGo s rest : Nat) : Int), true) else (0, false)) := by
 intro rest
 induction rest with
 | nil =>
  intro pre s last k hl hs h1 h2 hk
  obtain ⟨k, rfl⟩ : ∃ m, k = m + 1 := ⟨k - 1, by omega⟩
  rw [impl_setOf.l0, if_neg (by rw [hl]; simp)]
  rfl
 | cons x r ih =>
  intro pre s last k hl hs h1 h2 hk
  obtain ⟨k, rfl⟩ : ∃ m, k = m + 1 := ⟨k - 1, by omega⟩
  have hx : rd l (pre.length : Int) = x := by rw [hl]; exact rd_app _ _ _
  have hlt : pre.length < l.length := by rw [hl]; simp
  rw [impl_setOf.l0, if_pos (by omega), if_pos (by omega), if_pos (by omega), hx, within_eq, w64 (by omega) (by omega), w64 (by omega) (by omega)]
  simp only [Option.bind_some]
  by_cases c : last + 1 ≤ x ∧ x ≤ (n : Int) - 1
  ·obtain ⟨xn, rfl⟩ := Int.eq_ofNat_of_zero_le (show 0 ≤ x by omega)
   have h16 : (2 : Nat) ^ xn < 2 ^ 16 := Nat.pow_lt_pow_right (by decide) (by omega)
   rw [if_pos (decide_eq_true c), with_eq hs (by omega)]
   simp only [Option.bind_some]
   rw [w64 (by omega) (by omega), show (pre.length : Int) + 1 = ((pre ++ [(xn : Int)]).length : Int) by simp, ih (pre ++ [(xn : Int)]) (s ||| 2 ^ xn) xn k (by rw [hl]; simp) (Nat.or_lt_two_pow (n := 16) hs h16) (by simp; omega) (by omega) (by simp; omega)]
   simp only [ascB, decide_eq_true c, Bool.true_and]
   rfl
  ·rw [if_neg (by simpa using c)]
   simp only [ascB, decide_eq_false c, Bool.false_and]
   rfl
theorem setOf_eq {n : Nat} (hn : n ≤ 8) (l : List Int) (k : Nat) (hk : 10 ≤ k) : impl_setOf.f k l (n : Int) = some (if ascB n (-1) l then (((maskGo 0 l : Nat) : Int), true) else (0, false)) :=
 setOf_go hn (l := l) l [] 0 (-1) k rfl (by decide) (by simp) (by omega) (by omega)
theorem ascB_mem {n : Nat} : ∀ {l : List Int} {last : Int}, ascB n last l = true → ∀ x, x ∈ l → last < x ∧ x ≤ (n : Int) - 1
 | [], _, _, x, hx => by cases hx
 | y :: l, last, h, x, hx => by
  simp only [ascB, Bool.and_eq_true, decide_eq_true_eq] at h
  rcases List.mem_cons.1 hx with rfl | hx
  ·omega
  ·have := ascB_mem h.2 x hx
   omega
theorem maskGo_bits {n : Nat} (hn : n ≤ 8) : ∀ (l : List Int) (s : Nat) (P : Nat → Prop), Bits s P → (∀ x, x ∈ l → 0 ≤ x ∧ x ≤ (n : Int) - 1) → Bits (maskGo s l) (fun i => P i ∨ (i : Int) ∈ l)
 | [], s, P, h, _ => h.congr (fun i => by simp)
 | x :: l, s, P, h, hl => by
  obtain ⟨h0, h1⟩ := hl x List.mem_cons_self
  obtain ⟨xn, rfl⟩ := Int.eq_ofNat_of_zero_le h0
  refine (maskGo_bits hn l (s ||| 2 ^ xn) _ (h.or (Bits.pow (k := xn) (by omega))) (fun x hx => hl x (List.mem_cons_of_mem _ hx))).congr (fun i => ?_)
  rw [List.mem_cons]
  constructor
  ·rintro ((h | h) | h)
   ·exact .inl h
   ·exact .inr (.inl (by omega))
   ·exact .inr (.inr h)
  ·rintro (h | h | h)
   ·exact .inl (.inl h)
   ·exact .inl (.inr (by omega))
   ·exact .inr h
/-- A task is valid in a graph of n, but for rings. -/
def fineT (n : Nat) (t : S47) : Bool := ascB n (-1) t.f1 && (decide (1 ≤ t.f0 ∧ t.f0 ≤ 20) && (decide (0 ≤ t.f2 ∧ t.f2 ≤ 2) && decide (1 ≤ t.f3 ∧ t.f3 ≤ 4)))
def fine (l0 : List S47) : Bool := decide (l0.length ≤ 8) && l0.all (fineT l0.length)
def ndm (l0 : List S47) : List Nat := l0.map (fun t => maskGo 0 t.f1)
/-- The needs of a task. -/
def nds (l0 : List S47) (i : Nat) : List Nat := ((rd_T47 l0 (i : Int)).f1).map Int.toNat
theorem rdT_app (pre : List S47) (x : S47) (r : List S47) : rd_T47 (pre ++ x :: r) (pre.length : Int) = x := by
 unfold rd_T47
 simp
theorem needs_go {l0 : List S47} (h8 : l0.length ≤ 8) : ∀ (rest pre : List S47) (k : Nat), l0 = pre ++ rest → rest.length + 12 ≤ k →
  impl_needsOf.l0 k l0 (castL (ndm pre)) l0 (l0.length : Int) (pre.length : Int) = some (if rest.all (fineT l0.length) then (castL (ndm l0), true) else ([], false)) := by
 intro rest
 induction rest with
 | nil =>
  intro pre k hl hk
  obtain ⟨k, rfl⟩ : ∃ m, k = m + 1 := ⟨k - 1, by omega⟩
  rw [impl_needsOf.l0, if_neg (by rw [hl]; simp)]
  rw [show pre = l0 by rw [hl]; simp]
  rfl
 | cons t r ih =>
  intro pre k hl hk
  obtain ⟨k, rfl⟩ : ∃ m, k = m + 1 := ⟨k - 1, by omega⟩
  simp only [List.length_cons] at hk
  have hx : rd_T47 l0 (pre.length : Int) = t := by rw [hl]; exact rdT_app _ _ _
  have hlt : pre.length < l0.length := by rw [hl]; simp
  rw [impl_needsOf.l0, if_pos (by omega), if_pos (by omega), if_pos (by omega), hx, setOf_eq h8 _ _ (by omega)]
  simp only [Option.bind_some]
  by_cases c1 : ascB l0.length (-1) t.f1 = true
  ·rw [if_pos c1]
   simp only [if_true, within_eq, Option.bind_some]
   by_cases c2 : 1 ≤ t.f0 ∧ t.f0 ≤ 20
   ·rw [if_pos (decide_eq_true c2)]
    by_cases c3 : 0 ≤ t.f2 ∧ t.f2 ≤ 2
    ·rw [if_pos (decide_eq_true c3)]
     by_cases c4 : 1 ≤ t.f3 ∧ t.f3 ≤ 4
     ·rw [if_pos (decide_eq_true c4), if_pos (by rw [castL_length, ndm, List.length_map]; omega), w64 (by omega) (by omega)]
      have e1 : castL (ndm pre) ++ [((maskGo 0 t.f1 : Nat) : Int)] = castL (ndm (pre ++ [t])) := by simp [castL, ndm]
      rw [e1, show (pre.length : Int) + 1 = ((pre ++ [t]).length : Int) by simp, ih (pre ++ [t]) k (by rw [hl]; simp) (by omega)]
      have e2 : fineT l0.length t = true := by unfold fineT; rw [c1, decide_eq_true c2, decide_eq_true c3, decide_eq_true c4]; rfl
      rw [show (t :: r).all (fineT l0.length) = r.all (fineT l0.length) by rw [List.all_cons, e2, Bool.true_and]]
     ·rw [if_neg (by simpa using c4)]
      have e2 : fineT l0.length t = false := by unfold fineT; rw [decide_eq_false c4]; simp
      rw [show (t :: r).all (fineT l0.length) = false by rw [List.all_cons, e2, Bool.false_and]]
      rfl
    ·rw [if_neg (by simpa using c3)]
     have e2 : fineT l0.length t = false := by unfold fineT; rw [decide_eq_false c3]; simp
     rw [show (t :: r).all (fineT l0.length) = false by rw [List.all_cons, e2, Bool.false_and]]
     rfl
   ·rw [if_neg (by simpa using c2)]
    have e2 : fineT l0.length t = false := by unfold fineT; rw [decide_eq_false c2]; simp
    rw [show (t :: r).all (fineT l0.length) = false by rw [List.all_cons, e2, Bool.false_and]]
    rfl
  ·rw [if_neg c1]
   have e2 : fineT l0.length t = false := by unfold fineT; rw [Bool.eq_false_iff.2 c1]; rfl
   rw [show (t :: r).all (fineT l0.length) = false by rw [List.all_cons, e2, Bool.false_and]]
   rfl
theorem needsOf_eq (l0 : List S47) (k : Nat) (hk : 20 ≤ k) : impl_needsOf.f k l0 = some (if fine l0 then (castL (ndm l0), true) else ([], false)) := by
 unfold impl_needsOf.f fine
 by_cases h8 : l0.length ≤ 8
 ·rw [if_neg (by omega), if_pos (by omega), if_pos (by omega)]
  have := needs_go h8 l0 [] k rfl (by omega)
  rw [decide_eq_true h8, Bool.true_and]
  exact this
 ·rw [if_pos (by omega), decide_eq_false h8, Bool.false_and]
  rfl
theorem fine_task {l0 : List S47} (h : fine l0 = true) : l0.length ≤ 8 ∧ ∀ t, t ∈ l0 → fineT l0.length t = true := by
 unfold fine at h
 simp only [Bool.and_eq_true, decide_eq_true_eq, List.all_eq_true] at h
 exact h
theorem mem_rdT {l0 : List S47} {i : Nat} (hi : i < l0.length) : rd_T47 l0 (i : Int) ∈ l0 := by
 unfold rd_T47
 rw [Int.toNat_natCast, List.getD_eq_getElem?_getD, List.getElem?_eq_getElem hi]
 exact List.getElem_mem _
theorem ndm_bits {l0 : List S47} (h : fine l0 = true) {i : Nat} (hi : i < l0.length) : Bits ((ndm l0).getD i 0) (fun k => k ∈ nds l0 i) := by
 obtain ⟨h8, ht⟩ := fine_task h
 have hm := ht _ (mem_rdT hi)
 have e : (ndm l0).getD i 0 = maskGo 0 (rd_T47 l0 (i : Int)).f1 := by
  unfold ndm rd_T47
  rw [Int.toNat_natCast, List.getD_eq_getElem?_getD, List.getElem?_map, List.getElem?_eq_getElem hi, List.getD_eq_getElem?_getD, List.getElem?_eq_getElem hi]
  rfl
 rw [e]
 unfold fineT at hm
 simp only [Bool.and_eq_true] at hm
 have ha := ascB_mem hm.1
 refine (maskGo_bits h8 _ 0 _ Bits.zero (fun x hx => ⟨by have := ha x hx; omega, (ha x hx).2⟩)).congr (fun k => ?_)
 unfold nds
 rw [List.mem_map]
 constructor
 ·rintro (h | h)
  ·exact h.elim
  ·exact ⟨k, h, by omega⟩
 ·rintro ⟨x, hx, rfl⟩
  have := ha x hx
  rw [Int.toNat_of_nonneg (by omega)]
  exact .inr hx
theorem nds_lt {l0 : List S47} (h : fine l0 = true) {i : Nat} (hi : i < l0.length) {k : Nat} (hk : k ∈ nds l0 i) : k < l0.length := by
 obtain ⟨h8, ht⟩ := fine_task h
 have hm := ht _ (mem_rdT hi)
 unfold fineT at hm
 simp only [Bool.and_eq_true] at hm
 have ha := ascB_mem hm.1
 unfold nds at hk
 obtain ⟨x, hx, rfl⟩ := List.mem_map.1 hk
 have := ha x hx
 omega
theorem sets_of_bits {n m : Nat} {P : Nat → Prop} (h : Bits m P) (hP : ∀ i, P i → i < n) : m < 2 ^ n := by
 apply Nat.lt_pow_two_of_testBit
 intro i hi
 cases e : m.testBit i with
 | false => rfl
 | true =>
  have := hP i ((h.iff i).1 e)
  omega
theorem ndm_sets {l0 : List S47} (h : fine l0 = true) : Sets l0.length (ndm l0) := by
 refine ⟨by simp [ndm], fun x hx => ?_⟩
 obtain ⟨i, hi, rfl⟩ := List.getElem_of_mem hx
 have hi' : i < l0.length := by simpa [ndm] using hi
 have e : (ndm l0)[i] = (ndm l0).getD i 0 := by rw [List.getD_eq_getElem?_getD, List.getElem?_eq_getElem hi]; rfl
 rw [e]
 exact sets_of_bits (ndm_bits h hi') (fun k hk => nds_lt h hi' hk)
end Go.Proofs.YtkafmfabkbmpbaaDoor.G
/-! order: the greedy order of CTopo, and its set. -/
namespace Go.Proofs.YtkafmfabkbmpbaaDoor.G
open Go.RowKit Go.Proofs.YtkafmfabkbmpbaaDoorW.PrintWords Go.Proofs.YtkafmfabkbmpbaaDoorW.PrintLast Go.Proofs.YtkafmfabkbmpbaaDoorW.PrintMore C
set_option linter.unusedVariables false
set_option linter.unusedSimpArgs false

theorem and16 {a b : Nat} (ha : a < 65536) (hb : b < 65536) : Go.bits .and .u16 (a : Int) (b : Int) = ((a &&& b : Nat) : Int) := by
 have hm' : a % 2 ^ IntKind.u16.bits = a := Nat.mod_eq_of_lt (by show a < 2 ^ 16; omega)
 have hn' : b % 2 ^ IntKind.u16.bits = b := Nat.mod_eq_of_lt (by show b < 2 ^ 16; omega)
 have hx : a &&& b ≤ a := Nat.and_le_left
 simp only [Go.bits, BitVec.ofInt_natCast, BitVec.toNat_and, BitVec.toNat_ofNat, hm', hn']
 exact u16_nat (by omega)
theorem shr16 {a k : Nat} (hk : k < 16) : shr .u16 (a : Int) (k : Int) = ((a / 2 ^ k : Nat) : Int) := by
 unfold shr
 have e : min (k : Int).toNat IntKind.u16.bits = k := by
  show min (k : Int).toNat 16 = k
  omega
 rw [e, show (2 : Int) ^ k = ((2 ^ k : Nat) : Int) by simp, ← Int.natCast_ediv]
theorem has_eq {x i : Nat} (hx : x < 65536) (hi : i < 16) : impl_set_has.f (x : Int) (i : Int) = some (x.testBit i) := by
 unfold impl_set_has.f
 have h1 : x / 2 ^ i ≤ x := Nat.div_le_self _ _
 rw [if_pos (by omega), shr16 hi, show (1 : Int) = ((1 : Nat) : Int) from rfl, and16 (by omega) (by decide)]
 congr 1
 rw [Nat.testBit_eq_decide_div_mod_eq, Nat.and_one_is_mod]
 generalize x / 2 ^ i = q
 rw [Bool.eq_iff_iff, beq_iff_eq, decide_eq_true_eq]
 omega
theorem andNot16 {a b : Nat} (ha : a < 65536) (hb : b < 65536) : Go.bits .andNot .u16 (a : Int) (b : Int) = ((andNot a b : Nat) : Int) := by
 have hm' : a % 2 ^ IntKind.u16.bits = a := Nat.mod_eq_of_lt (by show a < 2 ^ 16; omega)
 have hn' : b % 2 ^ IntKind.u16.bits = b := Nat.mod_eq_of_lt (by show b < 2 ^ 16; omega)
 have hx : andNot a b ≤ a := Nat.and_le_left
 simp only [Go.bits, BitVec.ofInt_natCast, BitVec.toNat_and, BitVec.toNat_not, BitVec.toNat_ofNat, hm', hn']
 show IntKind.u16.wrap ((a &&& (65536 - 1 - b) : Nat) : Int) = _
 rw [show 65536 - 1 - b = 65535 - b by omega]
 exact u16_nat (by show andNot a b < 65536; omega)
/-- The set of a list of numbers. -/
def maskN (l : List Nat) : Nat := l.foldl (fun m x => m ||| 2 ^ x) 0
theorem maskN_snoc (l : List Nat) (x : Nat) : maskN (l ++ [x]) = maskN l ||| 2 ^ x := by
 unfold maskN
 rw [List.foldl_append]
 rfl
theorem maskN_bits {n : Nat} (hn : n ≤ 8) : ∀ (l : List Nat), (∀ x, x ∈ l → x < n) → Bits (maskN l) (fun i => i ∈ l) := by
 intro l
 induction l using snoc_ind with
 | h0 => intro _; exact Bits.zero.congr (fun i => by simp)
 | hs l x ih =>
  intro h
  rw [maskN_snoc]
  refine ((ih (fun y hy => h y (by simp [hy]))).or (Bits.pow (k := x) (by have := h x (by simp); omega))).congr (fun i => ?_)
  simp
section
variable {l0 : List S47} {dl : List Nat}
theorem ready_iff (h : fine l0 = true) {i : Nat} (hi : i < l0.length) (hd : ∀ x, x ∈ dl → x < l0.length) :
  Go.bits .andNot .u16 (((ndm l0).getD i 0 : Nat) : Int) ((maskN dl : Nat) : Int) = 0 ↔ (nds l0 i).all (fun k => dl.contains k) = true := by
 have b1 := ndm_bits h hi
 have b2 := maskN_bits (fine_task h).1 dl hd
 rw [andNot16 b1.lt b2.lt]
 have b3 := Bits.andNot b1 b2
 rw [show (((andNot ((ndm l0).getD i 0) (maskN dl) : Nat) : Int) = 0) ↔ andNot ((ndm l0).getD i 0) (maskN dl) = 0 by omega, b3.eq_zero, List.all_eq_true]
 constructor
 ·intro h3 k hk
  have := h3 k
  simp only [not_and, Classical.not_not] at this
  simpa using this hk
 ·intro h3 k ⟨hk, hn⟩
  exact hn (by simpa using h3 k hk)
theorem has_iff (h : fine l0 = true) {i : Nat} (hi : i < l0.length) (hd : ∀ x, x ∈ dl → x < l0.length) : impl_set_has.f ((maskN dl : Nat) : Int) (i : Int) = some (dl.contains i) := by
 have b2 := maskN_bits (fine_task h).1 dl hd
 rw [has_eq b2.lt (by have := (fine_task h).1; omega)]
 congr 1
 rw [Bool.eq_iff_iff, b2.iff]
 simp
/-- One round's search, from task i on. -/
theorem order_l1 (h : fine l0 = true) (hd : ∀ x, x ∈ dl → x < l0.length) (hdl : dl.length ≤ 8) (j : Nat) : ∀ (m i k : Nat), i + m = l0.length → m + 1 ≤ k →
  ∃ k', k ≤ k' + m + 1 ∧ impl_order.l1 k (castL (ndm l0)) (castL dl) ((maskN dl : Nat) : Int) (l0.length : Int) (j : Int) (castL (ndm l0)) (l0.length : Int) (i : Int) =
   impl_order.l0 k' (castL (ndm l0)) (castL ((match (List.range' i m).find? (fun i => !dl.contains i && (nds l0 i).all (fun k => dl.contains k)) with | some i => dl ++ [i] | none => dl)))
    ((maskN ((match (List.range' i m).find? (fun i => !dl.contains i && (nds l0 i).all (fun k => dl.contains k)) with | some i => dl ++ [i] | none => dl)) : Nat) : Int) (l0.length : Int) (wrap64 ((j : Int) + 1)) := by
 have h8 := (fine_task h).1
 have hcl : (castL (ndm l0)).length = l0.length := by rw [castL_length, ndm, List.length_map]
 intro m
 induction m with
 | zero =>
  intro i k hi hk
  obtain ⟨k, rfl⟩ : ∃ m, k = m + 1 := ⟨k - 1, by omega⟩
  refine ⟨k, by omega, ?_⟩
  rw [impl_order.l1, if_neg (by omega)]
  rfl
 | succ m ih =>
  intro i k hi hk
  obtain ⟨k, rfl⟩ : ∃ m, k = m + 1 := ⟨k - 1, by omega⟩
  rw [impl_order.l1, if_pos (by omega), if_pos (by omega), if_pos (by rw [hcl]; omega), has_iff h (by omega) hd, List.range'_succ, List.find?_cons, rd_castL]
  simp only [Option.bind_some]
  have hw : wrap64 ((i : Int) + 1) = ((i + 1 : Nat) : Int) := by rw [w64 (by omega) (by omega)]; rfl
  by_cases c1 : dl.contains i = true
  ·rw [if_pos c1, c1, hw]
   obtain ⟨k', hk', e⟩ := ih (i + 1) k (by omega) (by omega)
   exact ⟨k', by omega, by simpa using e⟩
  ·have c1' : dl.contains i = false := by simpa using c1
   rw [if_neg c1, c1']
   by_cases c2 : (nds l0 i).all (fun k => dl.contains k) = true
   ·rw [if_pos ((ready_iff h (by omega) hd).2 c2), if_pos (by rw [castL_length]; omega), with_eq (maskN_bits h8 dl hd).lt (by omega), c2]
    simp only [Option.bind_some, Bool.not_false, Bool.true_and, Bool.and_self]
    refine ⟨k, by omega, ?_⟩
    rw [castL_snoc, maskN_snoc]
   ·rw [if_neg (fun e => c2 ((ready_iff h (by omega) hd).1 e)), Bool.eq_false_iff.2 c2, hw]
    obtain ⟨k', hk', e⟩ := ih (i + 1) k (by omega) (by omega)
    exact ⟨k', by omega, by simpa using e⟩
theorem order_l0 (h : fine l0 = true) : ∀ (r j k : Nat) (dl : List Nat), Pre l0.length (nds l0) dl → j + r = l0.length → r * 10 + 1 ≤ k →
  impl_order.l0 k (castL (ndm l0)) (castL dl) ((maskN dl : Nat) : Int) (l0.length : Int) (j : Int) = some (castL (topoGo l0.length (nds l0) r dl), ((maskN (topoGo l0.length (nds l0) r dl) : Nat) : Int)) := by
 have h8 := (fine_task h).1
 have hcl : (castL (ndm l0)).length = l0.length := by rw [castL_length, ndm, List.length_map]
 intro r
 induction r with
 | zero =>
  intro j k dl hp hj hk
  obtain ⟨k, rfl⟩ : ∃ m, k = m + 1 := ⟨k - 1, by omega⟩
  rw [impl_order.l0, if_neg (by omega)]
  rfl
 | succ r ih =>
  intro j k dl hp hj hk
  obtain ⟨k, rfl⟩ : ∃ m, k = m + 1 := ⟨k - 1, by omega⟩
  rw [impl_order.l0, if_pos (by omega), hcl]
  obtain ⟨k', hk', e⟩ := order_l1 h hp.lt (Nat.le_trans hp.length_le h8) j l0.length 0 k (by omega) (by omega)
  have hw : wrap64 ((j : Int) + 1) = ((j + 1 : Nat) : Int) := by rw [w64 (by omega) (by omega)]; rfl
  rw [hw] at e
  refine e.trans ?_
  have hr : List.range' 0 l0.length = List.range l0.length := List.range_eq_range'.symm
  rw [hr]
  show impl_order.l0 k' _ (castL (match nextT l0.length (nds l0) dl with | some i => dl ++ [i] | none => dl)) ((maskN (match nextT l0.length (nds l0) dl with | some i => dl ++ [i] | none => dl) : Nat) : Int) _ _ = _
  cases hn : nextT l0.length (nds l0) dl with
  | none =>
   simp only
   rw [ih (j + 1) k' dl hp (by omega) (by omega), topoGo_stop hn, topoGo_stop hn]
  | some i =>
   simp only
   rw [ih (j + 1) k' (dl ++ [i]) (hp.snoc hn) (by omega) (by omega), topoGo_step hn]
theorem order_eq (h : fine l0 = true) (k : Nat) (hk : 100 ≤ k) : impl_order.f k (castL (ndm l0)) = some (castL (topo l0.length (nds l0)), ((maskN (topo l0.length (nds l0)) : Nat) : Int)) := by
 have h8 := (fine_task h).1
 unfold impl_order.f
 have := order_l0 h l0.length 0 k [] (Pre.nil _ _) (by omega) (by omega)
 rw [castL_length, ndm, List.length_map]
 exact this
/-- All are in the order just if its set is everything. -/
theorem full_iff (h : fine l0 = true) : ((maskN (topo l0.length (nds l0)) : Nat) : Int) = ((2 ^ l0.length - 1 : Nat) : Int) ↔ Full l0.length (nds l0) := by
 have h8 := (fine_task h).1
 have hp := topo_pre l0.length (nds l0)
 have b := maskN_bits h8 _ hp.lt
 have b2 : Bits (2 ^ l0.length - 1) (fun i => i < l0.length) := ⟨by
  have h2 : 2 ^ l0.length ≤ 2 ^ 8 := Nat.pow_le_pow_right (by decide) h8
  omega, fun i => by rw [Nat.testBit_two_pow_sub_one]; simp⟩
 rw [Int.natCast_inj]
 constructor
 ·intro e
  have hm : ∀ i, i < l0.length → i ∈ topo l0.length (nds l0) := fun i hi => (b.iff i).1 (by rw [e]; exact (b2.iff i).2 hi)
  have hle := hp.length_le
  have hge : l0.length ≤ (topo l0.length (nds l0)).length := by
   have := List.Nodup.length_le_of_subset (l₁ := List.range l0.length) List.nodup_range (l₂ := topo l0.length (nds l0)) (fun x hx => hm x (List.mem_range.1 hx))
   simpa using this
  exact Nat.le_antisymm hle hge
 ·intro hf
  exact b.ext (b2.congr (fun i => hf.mem.symm))
end
end Go.Proofs.YtkafmfabkbmpbaaDoor.G
