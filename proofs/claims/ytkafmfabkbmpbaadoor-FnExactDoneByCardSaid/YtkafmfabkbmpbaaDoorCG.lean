/-
 Several texts in one: CMask, CTopo, CGraph, CReach.
-/

/-! Plain numbers as sets: which bits a number below 65536 has, in order; union, difference, one more. -/
namespace Go.Proofs.YtkafmfabkbmpbaaDoor.C

/-- m is the set of the numbers below 16 of which P holds. -/
structure Bits (m : Nat) (P : Nat → Prop) : Prop where
 lt : m < 65536
 iff : ∀ i, m.testBit i = true ↔ P i
theorem Bits.lt16 {m : Nat} {P : Nat → Prop} (h : Bits m P) {i : Nat} (hi : P i) : i < 16 := by
 have h1 := (h.iff i).2 hi
 apply Decidable.byContradiction
 intro hc
 have h2 : m < 2 ^ i := Nat.lt_of_lt_of_le h.lt (by
  have : (2 : Nat) ^ 16 ≤ 2 ^ i := Nat.pow_le_pow_right (by decide) (by omega)
  simpa using this)
 rw [Nat.testBit_lt_two_pow h2] at h1
 cases h1
theorem Bits.congr {m : Nat} {P Q : Nat → Prop} (h : Bits m P) (k : ∀ i, P i ↔ Q i) : Bits m Q := ⟨h.lt, fun i => (h.iff i).trans (k i)⟩
theorem Bits.ext {m m' : Nat} {P : Nat → Prop} (h : Bits m P) (h' : Bits m' P) : m = m' := by
 apply Nat.eq_of_testBit_eq
 intro i
 rw [Bool.eq_iff_iff, h.iff, h'.iff]
theorem Bits.zero : Bits 0 (fun _ => False) := ⟨by decide, fun i => by simp⟩
theorem Bits.eq_zero {m : Nat} {P : Nat → Prop} (h : Bits m P) : m = 0 ↔ ∀ i, ¬ P i := by
 constructor
 ·rintro rfl i hi
  have := (h.iff i).2 hi
  simp at this
 ·intro hn
  exact h.ext (Bits.zero.congr (fun i => ⟨fun x => x.elim, fun x => hn i x⟩))
theorem Bits.or {a b : Nat} {P Q : Nat → Prop} (ha : Bits a P) (hb : Bits b Q) : Bits (a ||| b) (fun i => P i ∨ Q i) :=
 ⟨Nat.or_lt_two_pow (n := 16) ha.lt hb.lt, fun i => by rw [Nat.testBit_or, Bool.or_eq_true, ha.iff, hb.iff]⟩
theorem Bits.and {a b : Nat} {P Q : Nat → Prop} (ha : Bits a P) (hb : Bits b Q) : Bits (a &&& b) (fun i => P i ∧ Q i) :=
 ⟨Nat.and_lt_two_pow (n := 16) a hb.lt, fun i => by rw [Nat.testBit_and, Bool.and_eq_true, ha.iff, hb.iff]⟩
theorem Bits.pow {k : Nat} (hk : k < 16) : Bits (2 ^ k) (fun i => i = k) :=
 ⟨by
  have : (2 : Nat) ^ k < 2 ^ 16 := Nat.pow_lt_pow_right (by decide) hk
  simpa using this, fun i => by rw [Nat.testBit_two_pow]; simp [eq_comm]⟩
/-- a &^ b, as a number. -/
def andNot (a b : Nat) : Nat := a &&& (65535 - b)
theorem Bits.andNot {a b : Nat} {P Q : Nat → Prop} (ha : Bits a P) (hb : Bits b Q) : Bits (andNot a b) (fun i => P i ∧ ¬ Q i) := by
 refine ⟨Nat.lt_of_le_of_lt (Nat.and_le_left) ha.lt, fun i => ?_⟩
 unfold C.andNot
 rw [Nat.testBit_and, Bool.and_eq_true, ha.iff]
 constructor
 ·rintro ⟨h1, h2⟩
  refine ⟨h1, fun hq => ?_⟩
  have := Nat.testBit_two_pow_sub_succ (x := b) (n := 16) hb.lt i
  rw [show (65535 : Nat) - b = 2 ^ 16 - (b + 1) by omega] at h2
  rw [this, (hb.iff i).2 hq] at h2
  simp at h2
 ·rintro ⟨h1, h2⟩
  refine ⟨h1, ?_⟩
  have := Nat.testBit_two_pow_sub_succ (x := b) (n := 16) hb.lt i
  rw [show (65535 : Nat) - b = 2 ^ 16 - (b + 1) by omega, this]
  have hi := ha.lt16 h1
  have hn : b.testBit i = false := by
   cases hc : b.testBit i with
   | false => rfl
   | true => exact absurd ((hb.iff i).1 hc) h2
  simp [hn, hi]

/-- The numbers of a set, ascending. -/
def elems (m : Nat) : List Nat := (List.range 16).filter (fun i => m.testBit i)
theorem mem_elems {m : Nat} (hm : m < 65536) {i : Nat} : i ∈ elems m ↔ m.testBit i = true := by
 unfold elems
 rw [List.mem_filter]
 constructor
 ·exact fun h => h.2
 ·intro h
  exact ⟨List.mem_range.2 ((⟨hm, fun j => Iff.rfl⟩ : Bits m (fun j => m.testBit j = true)).lt16 h), h⟩
theorem elems_zero : elems 0 = [] := by decide
theorem elems_len (m : Nat) : (elems m).length ≤ 16 := by
 have := List.length_filter_le (fun i => m.testBit i) (List.range 16)
 simpa [elems] using this
theorem elems_sorted (m : Nat) : (elems m).Pairwise (· < ·) := List.Pairwise.filter _ List.pairwise_lt_range
/-- Two ascending lists with the same members are equal. -/
theorem sorted_ext : ∀ {l l' : List Nat}, l.Pairwise (· < ·) → l'.Pairwise (· < ·) → (∀ i, i ∈ l ↔ i ∈ l') → l = l'
 | [], [], _, _, _ => rfl
 | [], y :: l', _, _, h => by have := (h y).2 (by simp); simp at this
 | x :: l, [], _, _, h => by have := (h x).1 (by simp); simp at this
 | x :: l, y :: l', hl, hl', h => by
  rw [List.pairwise_cons] at hl hl'
  have hxy : x = y := by
   have h1 := (h x).1 (by simp)
   have h2 := (h y).2 (by simp)
   rcases List.mem_cons.1 h1 with e | h1
   ·exact e
   ·rcases List.mem_cons.1 h2 with e | h2
    ·exact e.symm
    ·have := hl.1 y h2
     have := hl'.1 x h1
     omega
  subst hxy
  rw [sorted_ext hl.2 hl'.2 (fun i => ?_)]
  constructor
  ·intro hi
   have := hl.1 i hi
   rcases List.mem_cons.1 ((h i).1 (by simp [hi])) with e | h1
   ·omega
   ·exact h1
  ·intro hi
   have := hl'.1 i hi
   rcases List.mem_cons.1 ((h i).2 (by simp [hi])) with e | h1
   ·omega
   ·exact h1
theorem Bits.elems_eq {m : Nat} {P : Nat → Prop} (h : Bits m P) {l : List Nat} (hl : l.Pairwise (· < ·)) (k : ∀ i, i ∈ l ↔ P i) : elems m = l :=
 sorted_ext (elems_sorted m) hl (fun i => by rw [mem_elems h.lt, h.iff, k])
/-- The least number of a set, and the set without it. -/
theorem low_bit {m : Nat} (h0 : m ≠ 0) (hm : m < 65536) : ∃ i, i < 16 ∧ m &&& (65536 - m) = 2 ^ i ∧ elems m = i :: elems (m &&& (m - 1)) ∧ m.testBit i = true := by
 have key : ∀ m : Fin 65536, m.val ≠ 0 → ∃ i, i < 16 ∧ m.val.testBit i = true ∧ ∀ j, j < i → m.val.testBit j = false := by
  intro m hm
  cases hf : (List.range 16).find? (fun i => m.val.testBit i) with
  | none =>
   rw [List.find?_eq_none] at hf
   exfalso
   apply hm
   apply Nat.eq_of_testBit_eq
   intro i
   by_cases hi : i < 16
   ·have := hf i (List.mem_range.2 hi)
    simpa using this
   ·rw [Nat.testBit_lt_two_pow (Nat.lt_of_lt_of_le m.isLt (by
     have : (2 : Nat) ^ 16 ≤ 2 ^ i := Nat.pow_le_pow_right (by decide) (by omega)
     simpa using this))]
    simp
  | some i =>
   rw [List.find?_range_eq_some] at hf
   exact ⟨i, by simpa using hf.2.1, hf.1, fun j hj => by simpa using hf.2.2 j hj⟩
 obtain ⟨i, hi, hb, hl⟩ := key ⟨m, hm⟩ h0
 simp only at hb hl
 -- m = 2^i * (2 q + 1)
 obtain ⟨q, hq⟩ : ∃ q, m = 2 ^ i * (2 * q + 1) := by
  have h1 : m % 2 ^ i = 0 := by
   apply Nat.eq_of_testBit_eq
   intro j
   rw [Nat.testBit_mod_two_pow]
   by_cases hj : j < i
   ·simp [hl j hj]
   ·simp [hj]
  have h2 : m / 2 ^ i % 2 = 1 := by
   have := hb
   rw [Nat.testBit_eq_decide_div_mod_eq] at this
   simpa using this
  have h3 := Nat.div_add_mod m (2 ^ i)
  have h4 := Nat.div_add_mod (m / 2 ^ i) 2
  refine ⟨m / 2 ^ i / 2, ?_⟩
  rw [h1, Nat.add_zero] at h3
  rw [h2] at h4
  rw [h4, h3]
 have hpos : 0 < 2 ^ i := Nat.two_pow_pos i
 -- the bits of m - 1
 have hm1 : m - 1 = 2 ^ (i + 1) * q + (2 ^ i - 1) := by
  rw [hq, Nat.pow_succ, Nat.mul_add, Nat.mul_one, ← Nat.mul_assoc]
  omega
 have hbit1 : ∀ j, (m - 1).testBit j = if j < i then true else if j = i then false else m.testBit j := by
  intro j
  have hm2 : m = 2 ^ (i + 1) * q + 2 ^ i := by
   rw [hq, Nat.pow_succ, Nat.mul_add, Nat.mul_one, ← Nat.mul_assoc]
  have hlt1 : 2 ^ i - 1 < 2 ^ (i + 1) := by rw [Nat.pow_succ]; omega
  have hlt2 : 2 ^ i < 2 ^ (i + 1) := by rw [Nat.pow_succ]; omega
  rw [hm1, Nat.testBit_two_pow_mul_add _ hlt1]
  by_cases hj : j < i
  ·rw [if_pos hj, if_pos (by omega), Nat.testBit_two_pow_sub_one]
   simp [hj]
  ·rw [if_neg hj]
   by_cases hji : j = i
   ·subst hji
    rw [if_pos (by omega), if_pos rfl, Nat.testBit_two_pow_sub_one]
    simp
   ·rw [if_neg (by omega), if_neg hji, hm2, Nat.testBit_two_pow_mul_add _ hlt2, if_neg (by omega)]
 refine ⟨i, hi, ?_, ?_, hb⟩
 ·apply Nat.eq_of_testBit_eq
  intro j
  rw [Nat.testBit_and, show 65536 - m = 2 ^ 16 - ((m - 1) + 1) by omega, Nat.testBit_two_pow_sub_succ (show m - 1 < 2 ^ 16 by omega), hbit1 j, Nat.testBit_two_pow]
  by_cases hj : j < i
  ·simp [hj, hl j hj]
   omega
  ·by_cases hji : j = i
   ·subst hji
    simp [hb, hi]
   ·simp [hj, hji]
    cases m.testBit j <;> (simp; exact fun e => hji e.symm)
 ·refine sorted_ext (elems_sorted m) ?_ ?_
  ·rw [List.pairwise_cons]
   refine ⟨fun j hj => ?_, elems_sorted _⟩
   have hj2 := (List.mem_filter.1 hj).2
   rw [Nat.testBit_and, hbit1 j] at hj2
   by_cases h1 : j < i
   ·simp [h1, hl j h1] at hj2
   ·by_cases h2 : j = i
    ·subst h2; simp at hj2
    ·omega
  ·intro j
   have hm3 : m &&& (m - 1) < 65536 := Nat.lt_of_le_of_lt Nat.and_le_left hm
   rw [List.mem_cons, mem_elems hm, mem_elems hm3, Nat.testBit_and, hbit1 j]
   by_cases h1 : j < i
   ·simp [h1, hl j h1]
    omega
   ·by_cases h2 : j = i
    ·subst h2; simp [hb]
    ·simp [h1, h2]

end Go.Proofs.YtkafmfabkbmpbaaDoor.C
/-! Plain lists and graphs: the greedy order of tasks, what is reached, and what is computed along the order. No program in sight. -/
namespace Go.Proofs.YtkafmfabkbmpbaaDoor.C

theorem snoc_ind {α : Type} {P : List α → Prop} (h0 : P []) (hs : ∀ l x, P l → P (l ++ [x])) : ∀ l, P l := by
 have key : ∀ (n : Nat) (l : List α), l.length = n → P l := by
  intro n
  induction n with
  | zero => intro l hl; rw [List.length_eq_zero_iff.1 hl]; exact h0
  | succ n ih =>
   intro l hl
   rcases List.eq_nil_or_concat l with rfl | ⟨l', x, rfl⟩
   ·exact h0
   ·rw [List.concat_eq_append]
    exact hs l' x (ih l' (by simpa using hl))
 exact fun l => key l.length l rfl

/-- The least task that isn't done and whose needs are. -/
def nextT (n : Nat) (nd : Nat → List Nat) (done : List Nat) : Option Nat :=
 (List.range n).find? (fun i => !done.contains i && (nd i).all (fun k => done.contains k))
def topoGo (n : Nat) (nd : Nat → List Nat) : Nat → List Nat → List Nat
 | 0, done => done
 | f + 1, done => match nextT n nd done with
  | none => done
  | some i => topoGo n nd f (done ++ [i])
def topo (n : Nat) (nd : Nat → List Nat) : List Nat := topoGo n nd n []

theorem find_range_some {n : Nat} {p : Nat → Bool} {i : Nat} (h : (List.range n).find? p = some i) : i < n ∧ p i = true ∧ ∀ j, j < i → p j = false := by
 rw [List.find?_range_eq_some] at h
 obtain ⟨h1, h2, h3⟩ := h
 exact ⟨by simpa using h2, h1, fun j hj => by simpa using h3 j hj⟩
theorem find_range_none {n : Nat} {p : Nat → Bool} (h : (List.range n).find? p = none) : ∀ j, j < n → p j = false := by
 intro j hj
 rw [List.find?_eq_none] at h
 simpa using h j (by simpa using hj)

theorem nextT_some {n : Nat} {nd : Nat → List Nat} {done : List Nat} {i : Nat} (h : nextT n nd done = some i) :
  i < n ∧ i ∉ done ∧ ∀ k, k ∈ nd i → k ∈ done := by
 obtain ⟨h1, h2, _⟩ := find_range_some h
 simp only [Bool.and_eq_true, Bool.not_eq_true', List.contains_eq_mem, decide_eq_false_iff_not, List.all_eq_true, decide_eq_true_eq] at h2
 exact ⟨h1, h2.1, h2.2⟩

/-- What holds of each stage of the order. -/
structure Pre (n : Nat) (nd : Nat → List Nat) (done : List Nat) : Prop where
 lt : ∀ i, i ∈ done → i < n
 nodup : done.Nodup
 needs : ∀ pre i post, done = pre ++ i :: post → ∀ k, k ∈ nd i → k ∈ pre
theorem Pre.nil (n : Nat) (nd : Nat → List Nat) : Pre n nd [] := ⟨by simp, by simp, fun pre i post h => by simp at h⟩
theorem Pre.snoc {n : Nat} {nd : Nat → List Nat} {done : List Nat} {i : Nat} (h : Pre n nd done) (hi : nextT n nd done = some i) : Pre n nd (done ++ [i]) := by
 obtain ⟨h1, h2, h3⟩ := nextT_some hi
 refine ⟨?_, ?_, ?_⟩
 ·intro j hj
  rcases List.mem_append.1 hj with hj | hj
  ·exact h.lt j hj
  ·rw [List.mem_singleton.1 hj]; exact h1
 ·rw [List.nodup_append]
  refine ⟨h.nodup, by simp, ?_⟩
  intro a ha b hb
  rw [List.mem_singleton.1 hb]
  rintro rfl
  exact h2 ha
 ·intro pre j post e k hk
  rcases List.eq_nil_or_concat post with rfl | ⟨post', x, rfl⟩
  ·have e' : done ++ [i] = pre ++ [j] := e
   obtain ⟨rfl, e2⟩ := List.append_inj' e' rfl
   obtain rfl : i = j := by simpa using e2
   exact h3 k hk
  ·have e' : done ++ [i] = (pre ++ j :: post') ++ [x] := by rw [e]; simp
   obtain ⟨e1, _⟩ := List.append_inj' e' rfl
   exact h.needs pre j post' e1 k hk
theorem topoGo_pre {n : Nat} {nd : Nat → List Nat} : ∀ (f : Nat) (done : List Nat), Pre n nd done → Pre n nd (topoGo n nd f done)
 | 0, done, h => h
 | f + 1, done, h => by
  unfold topoGo
  split
  ·exact h
  ·rename_i i hi
   exact topoGo_pre f _ (h.snoc hi)
theorem topo_pre (n : Nat) (nd : Nat → List Nat) : Pre n nd (topo n nd) := topoGo_pre n [] (Pre.nil n nd)

theorem nodup_length_le {l : List Nat} {n : Nat} (hn : l.Nodup) (h : ∀ i, i ∈ l → i < n) : l.length ≤ n := by
 have := List.Nodup.length_le_of_subset hn (l₂ := List.range n) (fun x hx => List.mem_range.2 (h x hx))
 simpa using this
theorem nodup_full {l : List Nat} {n : Nat} (hn : l.Nodup) (h : ∀ i, i ∈ l → i < n) (hl : l.length = n) : ∀ i, i < n → i ∈ l := by
 intro i hi
 apply Decidable.byContradiction
 intro hc
 have h2 : (i :: l).Nodup := List.nodup_cons.2 ⟨hc, hn⟩
 have h3 := nodup_length_le h2 (n := n) (by
  intro j hj
  rcases List.mem_cons.1 hj with rfl | hj
  ·exact hi
  ·exact h j hj)
 simp at h3
 omega
theorem Pre.length_le {n : Nat} {nd : Nat → List Nat} {done : List Nat} (h : Pre n nd done) : done.length ≤ n := nodup_length_le h.nodup h.lt

/-- With as many rounds as tasks the order is at its end. -/
theorem topoGo_end {n : Nat} {nd : Nat → List Nat} : ∀ (f : Nat) (done : List Nat), Pre n nd done → n ≤ f + done.length → nextT n nd (topoGo n nd f done) = none
 | 0, done, h, hl => by
  unfold topoGo
  have hle := h.length_le
  have hfull := nodup_full h.nodup h.lt (by omega)
  cases hc : nextT n nd done with
  | none => rfl
  | some i =>
   obtain ⟨h1, h2, _⟩ := nextT_some hc
   exact absurd (hfull i h1) h2
 | f + 1, done, h, hl => by
  unfold topoGo
  split
  ·assumption
  ·rename_i i hi
   exact topoGo_end f _ (h.snoc hi) (by simp; omega)
theorem topo_end (n : Nat) (nd : Nat → List Nat) : nextT n nd (topo n nd) = none := topoGo_end n [] (Pre.nil n nd) (by simp)
theorem topoGo_stop {n : Nat} {nd : Nat → List Nat} {done : List Nat} (h : nextT n nd done = none) : ∀ f, topoGo n nd f done = done
 | 0 => rfl
 | f + 1 => by unfold topoGo; rw [h]
/-- More rounds change nothing. -/
theorem topoGo_more {n : Nat} {nd : Nat → List Nat} : ∀ (f : Nat) (done : List Nat), Pre n nd done → n ≤ f + done.length → ∀ m, topoGo n nd (f + m) done = topoGo n nd f done
 | 0, done, h, hl, m => by
  have := topoGo_end 0 done h hl
  rw [topoGo_stop (by simpa [topoGo] using this), topoGo_stop (by simpa [topoGo] using this)]
 | f + 1, done, h, hl, m => by
  rw [show f + 1 + m = (f + m) + 1 by omega]
  unfold topoGo
  split
  ·rfl
  ·rename_i i hi
   exact topoGo_more f _ (h.snoc hi) (by simp; omega) m
theorem topoGo_step {n : Nat} {nd : Nat → List Nat} {done : List Nat} {i : Nat} (hi : nextT n nd done = some i) (f : Nat) : topoGo n nd (f + 1) done = topoGo n nd f (done ++ [i]) := by
 rw [topoGo, hi]

/-- A graph whose tasks can all be done. -/
def Full (n : Nat) (nd : Nat → List Nat) : Prop := (topo n nd).length = n
instance (n : Nat) (nd : Nat → List Nat) : Decidable (Full n nd) := by unfold Full; infer_instance
theorem Full.mem {n : Nat} {nd : Nat → List Nat} (h : Full n nd) {i : Nat} : i ∈ topo n nd ↔ i < n :=
 ⟨(topo_pre n nd).lt i, nodup_full (topo_pre n nd).nodup (topo_pre n nd).lt h i⟩
theorem Full.needs_lt {n : Nat} {nd : Nat → List Nat} (h : Full n nd) {i k : Nat} (hi : i < n) (hk : k ∈ nd i) : k < n := by
 obtain ⟨pre, post, e⟩ := List.append_of_mem (h.mem.2 hi)
 have := (topo_pre n nd).needs pre i post e k hk
 exact (topo_pre n nd).lt k (by rw [e]; simp [this])
/-- Along the order: what holds of a task if it holds of its needs holds of all. -/
theorem Full.ind {n : Nat} {nd : Nat → List Nat} (h : Full n nd) {P : Nat → Prop} (step : ∀ i, i < n → (∀ k, k ∈ nd i → P k) → P i) : ∀ i, i < n → P i := by
 have key : ∀ (pre : List Nat) (post : List Nat), topo n nd = pre ++ post → ∀ i, i ∈ pre → P i := by
  intro pre
  induction pre using snoc_ind with
  | h0 => intro _ _ i hi; simp at hi
  | hs pre x ih =>
   intro post e i hi
   have ih' := ih (x :: post) (by rw [e]; simp)
   rcases List.mem_append.1 hi with hi | hi
   ·exact ih' i hi
   ·obtain rfl := List.mem_singleton.1 hi
    exact step i ((topo_pre n nd).lt i (by rw [e]; simp)) (fun k hk => ih' k ((topo_pre n nd).needs pre i post (by rw [e]; simp) k hk))
 intro i hi
 exact key (topo n nd) [] (by simp) i (h.mem.2 hi)

/-- Task i needs task k, also by way of others. -/
inductive Reach (nd : Nat → List Nat) : Nat → Nat → Prop where
 | base {i k : Nat} : k ∈ nd i → Reach nd i k
 | step {i j k : Nat} : j ∈ nd i → Reach nd j k → Reach nd i k
theorem Reach.trans {nd : Nat → List Nat} {i j k : Nat} (h : Reach nd i j) (g : Reach nd j k) : Reach nd i k := by
 induction h with
 | base h => exact .step h g
 | step h _ ih => exact .step h (ih g)
theorem reach_iff {nd : Nat → List Nat} {i k : Nat} : Reach nd i k ↔ ∃ j, j ∈ nd i ∧ (k = j ∨ Reach nd j k) := by
 constructor
 ·intro h
  cases h with
  | base h => exact ⟨k, h, .inl rfl⟩
  | step h g => exact ⟨_, h, .inr g⟩
 ·rintro ⟨j, hj, rfl | h⟩
  ·exact .base hj
  ·exact .step hj h
theorem Pre.reach {n : Nat} {nd : Nat → List Nat} {done : List Nat} (h : Pre n nd done) {i k : Nat} (hr : Reach nd i k) : ∀ pre post, done = pre ++ i :: post → k ∈ pre := by
 induction hr with
 | base hk => intro pre post e; exact h.needs pre _ post e _ hk
 | @step i j k hj _ ih =>
  intro pre post e
  have hp := h.needs pre _ post e _ hj
  obtain ⟨p1, p2, rfl⟩ := List.append_of_mem hp
  have := ih p1 (p2 ++ i :: post) (by rw [e]; simp)
  simp [this]
theorem Full.reach_lt {n : Nat} {nd : Nat → List Nat} (h : Full n nd) {i k : Nat} (hi : i < n) (hr : Reach nd i k) : k < n := by
 obtain ⟨pre, post, e⟩ := List.append_of_mem (h.mem.2 hi)
 have := (topo_pre n nd).reach hr pre post e
 exact (topo_pre n nd).lt k (by rw [e]; simp [this])
theorem Full.irrefl {n : Nat} {nd : Nat → List Nat} (h : Full n nd) {i : Nat} (hi : i < n) : ¬ Reach nd i i := by
 intro hr
 obtain ⟨pre, post, e⟩ := List.append_of_mem (h.mem.2 hi)
 have h1 := (topo_pre n nd).reach hr pre post e
 have h2 := (topo_pre n nd).nodup
 rw [e, List.nodup_append] at h2
 exact h2.2.2 i h1 i (by simp) rfl

/-- What is computed along the order, each task's from its needs', is at the end what it was when it was computed. -/
theorem fold_fix {α : Type} {n : Nat} {nd : Nat → List Nat} (d : α) (f : List α → Nat → α)
  (hf : ∀ (o o' : List α) (i : Nat), (∀ k, k ∈ nd i → o.getD k d = o'.getD k d) → f o i = f o' i) (init : List α) (hl : init.length = n) :
  ∀ (done : List Nat), Pre n nd done →
   (done.foldl (fun o i => o.set i (f o i)) init).length = n ∧
   (∀ i, i ∈ done → (done.foldl (fun o i => o.set i (f o i)) init).getD i d = f (done.foldl (fun o i => o.set i (f o i)) init) i) ∧
   (∀ i, i ∉ done → (done.foldl (fun o i => o.set i (f o i)) init).getD i d = init.getD i d) := by
 intro done
 induction done using snoc_ind with
 | h0 => intro _; exact ⟨hl, fun i hi => by simp at hi, fun i _ => rfl⟩
 | hs pre x ih =>
  intro hp
  have hpre : Pre n nd pre := ⟨fun i hi => hp.lt i (by simp [hi]), (List.nodup_append.1 hp.nodup).1, fun a b c e k hk => hp.needs a b (c ++ [x]) (by rw [e]; simp) k hk⟩
  obtain ⟨h1, h2, h3⟩ := ih hpre
  have hx : x ∉ pre := fun hx => (List.nodup_append.1 hp.nodup).2.2 x hx x (by simp) rfl
  have hxn : x < n := hp.lt x (by simp)
  rw [List.foldl_append]
  generalize pre.foldl (fun o i => o.set i (f o i)) init = o at *
  simp only [List.foldl_cons, List.foldl_nil]
  have hget : ∀ i, (o.set x (f o x)).getD i d = if i = x then f o x else o.getD i d := by
   intro i
   rw [List.getD_eq_getElem?_getD, List.getElem?_set]
   by_cases e : x = i
   ·subst e
    rw [if_pos rfl, if_pos (by omega), if_pos rfl]
    rfl
   ·rw [if_neg e, if_neg (fun h => e h.symm), List.getD_eq_getElem?_getD]
  refine ⟨by simpa using h1, ?_, ?_⟩
  ·intro i hi
   rcases List.mem_append.1 hi with hi | hi
   ·have hne : i ≠ x := fun e => hx (e ▸ hi)
    rw [hget, if_neg hne, h2 i hi]
    refine hf _ _ _ (fun k hk => ?_)
    obtain ⟨p1, p2, rfl⟩ := List.append_of_mem hi
    have hkp := hpre.needs p1 i p2 rfl k hk
    rw [hget, if_neg (fun e => hx (by rw [← e]; simp [hkp]))]
   ·obtain rfl := List.mem_singleton.1 hi
    rw [hget, if_pos rfl]
    refine hf _ _ _ (fun k hk => ?_)
    have hkp := hp.needs pre i [] rfl k hk
    rw [hget, if_neg (fun e => hx (by rw [← e]; exact hkp))]
  ·intro i hi
   rw [hget, if_neg (fun e => hi (by simp [e]))]
   exact h3 i (fun h => hi (by simp [h]))

end Go.Proofs.YtkafmfabkbmpbaaDoor.C
/-! A graph's sets of needs and users, computed along an order: plain numbers. -/
namespace Go.Proofs.YtkafmfabkbmpbaaDoor.C

/-- As many sets as tasks, each of tasks. -/
structure Sets (n : Nat) (l : List Nat) : Prop where
 len : l.length = n
 lt : ∀ x, x ∈ l → x < 2 ^ n
theorem Sets.get {n : Nat} {l : List Nat} (h : Sets n l) (i : Nat) : l.getD i 0 < 2 ^ n := by
 rw [List.getD_eq_getElem?_getD]
 cases e : l[i]? with
 | none => simpa using Nat.two_pow_pos n
 | some x => simpa using h.lt x (List.mem_of_getElem? e)
theorem Sets.set {n : Nat} {l : List Nat} (h : Sets n l) (i : Nat) {v : Nat} (hv : v < 2 ^ n) : Sets n (l.set i v) :=
 ⟨by rw [List.length_set]; exact h.len, fun x hx => by
  rcases List.mem_or_eq_of_mem_set hx with hx | rfl
  ·exact h.lt x hx
  ·exact hv⟩
theorem Sets.zero (n : Nat) : Sets n (List.replicate n 0) := ⟨by simp, fun x hx => by rw [List.eq_of_mem_replicate hx]; exact Nat.two_pow_pos n⟩
theorem pow8 {n x : Nat} (hn : n ≤ 8) (hx : x < 2 ^ n) : x < 256 := Nat.lt_of_lt_of_le hx (by
 have : (2 : Nat) ^ n ≤ 2 ^ 8 := Nat.pow_le_pow_right (by decide) hn
 simpa using this)
theorem elems_lt {n x i : Nat} (hn : n ≤ 8) (hx : x < 2 ^ n) (hi : i ∈ elems x) : i < n := by
 have h1 := (mem_elems (Nat.lt_of_lt_of_le (pow8 hn hx) (by decide))).1 hi
 apply Decidable.byContradiction
 intro hc
 rw [Nat.testBit_lt_two_pow (Nat.lt_of_lt_of_le hx (Nat.pow_le_pow_right (by decide) (by omega)))] at h1
 cases h1
theorem pow_lt {n k : Nat} (hk : k < n) : 2 ^ k < 2 ^ n := Nat.pow_lt_pow_right (by decide) hk
/-- Task i needs k, and what k needs. -/
def orB (bl : List Nat) (i k : Nat) : List Nat := bl.set i (bl.getD i 0 ||| (bl.getD k 0 ||| 2 ^ k))
/-- Task k is needed by i. -/
def orA (ab : List Nat) (i k : Nat) : List Nat := ab.set k (ab.getD k 0 ||| 2 ^ i)
theorem Sets.orB {n : Nat} {l : List Nat} (h : Sets n l) (i : Nat) {k : Nat} (hk : k < n) : Sets n (orB l i k) :=
 h.set i (Nat.or_lt_two_pow (h.get i) (Nat.or_lt_two_pow (h.get k) (pow_lt hk)))
theorem Sets.orA {n : Nat} {l : List Nat} (h : Sets n l) {i : Nat} (hi : i < n) (k : Nat) : Sets n (orA l i k) :=
 h.set k (Nat.or_lt_two_pow (h.get k) (pow_lt hi))
def stepB (nd bl : List Nat) (i : Nat) : List Nat := (elems (nd.getD i 0)).foldl (fun b k => C.orB b i k) bl
def stepA (bl ab : List Nat) (i : Nat) : List Nat := (elems (bl.getD i 0)).foldl (fun a k => C.orA a i k) ab
theorem ok_foldB {n : Nat} (i : Nat) : ∀ (ks : List Nat) {l : List Nat}, Sets n l → (∀ k, k ∈ ks → k < n) → Sets n (ks.foldl (fun b k => C.orB b i k) l)
 | [], _, h, _ => h
 | k :: ks, _, h, hk => ok_foldB i ks (h.orB i (hk k List.mem_cons_self)) (fun x hx => hk x (List.mem_cons_of_mem _ hx))
theorem ok_foldA {n i : Nat} (hi : i < n) : ∀ (ks : List Nat) {l : List Nat}, Sets n l → Sets n (ks.foldl (fun a k => C.orA a i k) l)
 | [], _, h => h
 | k :: ks, _, h => ok_foldA hi ks (h.orA hi k)
/-- Behind the first tasks of an order: what each needs, and is needed by. -/
def gst (nd : List Nat) (n : Nat) (od : List Nat) : List Nat × List Nat :=
 od.foldl (fun s i => (stepB nd s.1 i, stepA (stepB nd s.1 i) s.2 i)) (List.replicate n 0, List.replicate n 0)
theorem gst_snoc (nd : List Nat) (n : Nat) (od : List Nat) (i : Nat) : gst nd n (od ++ [i]) = (stepB nd (gst nd n od).1 i, stepA (stepB nd (gst nd n od).1 i) (gst nd n od).2 i) := by
 unfold gst
 rw [List.foldl_append]
 rfl
theorem gst_ok {nd : List Nat} {n : Nat} (hn : n ≤ 8) (hnd : Sets n nd) : ∀ (od : List Nat), (∀ i, i ∈ od → i < n) → Sets n (gst nd n od).1 ∧ Sets n (gst nd n od).2 := by
 intro od
 induction od using snoc_ind with
 | h0 => intro _; exact ⟨Sets.zero n, Sets.zero n⟩
 | hs od i ih =>
  intro h
  obtain ⟨h1, h2⟩ := ih (fun i hi => h i (by simp [hi]))
  rw [gst_snoc]
  exact ⟨ok_foldB i _ h1 (fun k hk => elems_lt hn (hnd.get i) hk), ok_foldA (h i (by simp)) _ h2⟩
theorem take_snoc {od : List Nat} {j : Nat} (hj : j < od.length) : od.take (j + 1) = od.take j ++ [od.getD j 0] := by
 rw [List.take_add_one, List.getD_eq_getElem?_getD, List.getElem?_eq_getElem hj]
 rfl
end Go.Proofs.YtkafmfabkbmpbaaDoor.C
/-! What graphOf computes along the order: whom each task needs, and who needs it. -/
namespace Go.Proofs.YtkafmfabkbmpbaaDoor.C
set_option linter.unusedSimpArgs false

theorem getD_set {l : List Nat} {i j v : Nat} (hi : i < l.length) : (l.set i v).getD j 0 = if j = i then v else l.getD j 0 := by
 rw [List.getD_eq_getElem?_getD, List.getElem?_set]
 by_cases e : i = j
 ·subst e
  rw [if_pos rfl, if_pos hi, if_pos rfl]
  rfl
 ·rw [if_neg e, if_neg (fun h => e h.symm), List.getD_eq_getElem?_getD]
section
variable {n : Nat} {nd : Nat → List Nat} {ndl : List Nat}
/-- Behind some of x's needs. -/
theorem foldB_inv (hn : n ≤ 8) {x : Nat} {bl : List Nat} (hl : bl.length = n) (hx : x < n) : ∀ (ks : List Nat), (∀ k, k ∈ ks → k < n ∧ k ≠ x ∧ Bits (bl.getD k 0) (fun m => Reach nd k m)) → bl.getD x 0 = 0 →
  (ks.foldl (fun b k => orB b x k) bl).length = n ∧ (∀ j, j ≠ x → (ks.foldl (fun b k => orB b x k) bl).getD j 0 = bl.getD j 0) ∧ Bits ((ks.foldl (fun b k => orB b x k) bl).getD x 0) (fun m => ∃ k, k ∈ ks ∧ (m = k ∨ Reach nd k m)) := by
 intro ks
 induction ks using snoc_ind with
 | h0 => intro _ h0; exact ⟨hl, fun _ _ => rfl, by rw [List.foldl_nil, h0]; exact Bits.zero.congr (fun i => by simp)⟩
 | hs ks k ih =>
  intro hk h0
  obtain ⟨h1, h2, h3⟩ := ih (fun k hk' => hk k (by simp [hk'])) h0
  obtain ⟨k1, k2, k3⟩ := hk k (by simp)
  rw [List.foldl_append]
  simp only [List.foldl_cons, List.foldl_nil]
  generalize ks.foldl (fun b k => orB b x k) bl = b at h1 h2 h3 ⊢
  unfold orB
  refine ⟨by rw [List.length_set]; exact h1, fun j hj => ?_, ?_⟩
  ·rw [getD_set (by omega), if_neg hj]
   exact h2 j hj
  ·rw [getD_set (by omega), if_pos rfl, h2 k k2]
   refine (h3.or (k3.or (Bits.pow (k := k) (by omega)))).congr (fun m => ?_)
   constructor
   ·rintro (⟨k', hk', h⟩ | h | h)
    ·exact ⟨k', by simp [hk'], h⟩
    ·exact ⟨k, by simp, .inr h⟩
    ·exact ⟨k, by simp, .inl h⟩
   ·rintro ⟨k', hk', h⟩
    rcases List.mem_append.1 hk' with hk' | hk'
    ·exact .inl ⟨k', hk', h⟩
    ·obtain rfl := List.mem_singleton.1 hk'
     rcases h with h | h
     ·exact .inr (.inr h)
     ·exact .inr (.inl h)
theorem foldA_inv (hn : n ≤ 8) {x : Nat} {ab : List Nat} (hl : ab.length = n) (hx : x < n) {P : Nat → Nat → Prop} (hP : ∀ k, k < n → Bits (ab.getD k 0) (P k)) : ∀ (ks : List Nat), (∀ k, k ∈ ks → k < n) →
  (ks.foldl (fun a k => orA a x k) ab).length = n ∧ ∀ k, k < n → Bits ((ks.foldl (fun a k => orA a x k) ab).getD k 0) (fun i => P k i ∨ (i = x ∧ k ∈ ks)) := by
 intro ks
 induction ks using snoc_ind with
 | h0 => intro _; exact ⟨hl, fun k hk => (hP k hk).congr (fun i => by simp)⟩
 | hs ks k0 ih =>
  intro hk
  obtain ⟨h1, h2⟩ := ih (fun k hk' => hk k (by simp [hk']))
  have k1 := hk k0 (by simp)
  rw [List.foldl_append]
  simp only [List.foldl_cons, List.foldl_nil]
  generalize ks.foldl (fun a k => orA a x k) ab = a at h1 h2 ⊢
  unfold orA
  refine ⟨by rw [List.length_set]; exact h1, fun k hkn => ?_⟩
  rw [getD_set (by omega)]
  by_cases e : k = k0
  ·subst e
   rw [if_pos rfl]
   refine ((h2 k k1).or (Bits.pow (k := x) (by omega))).congr (fun i => ?_)
   simp
   constructor
   ·rintro ((h | h) | h)
    ·exact .inl h
    ·exact .inr h.1
    ·exact .inr h
   ·rintro (h | h)
    ·exact .inl (.inl h)
    ·exact .inr h
  ·rw [if_neg e]
   refine (h2 k hkn).congr (fun i => ?_)
   simp [e]
/-- The sets along the order. -/
theorem gst_inv (hn : n ≤ 8) (hnd : ∀ i, i < n → Bits (ndl.getD i 0) (fun k => k ∈ nd i)) : ∀ (done : List Nat), Pre n nd done →
  (gst ndl n done).1.length = n ∧ (gst ndl n done).2.length = n ∧ (∀ i, i ∈ done → Bits ((gst ndl n done).1.getD i 0) (fun k => Reach nd i k)) ∧ (∀ i, i < n → i ∉ done → (gst ndl n done).1.getD i 0 = 0) ∧ (∀ k, k < n → Bits ((gst ndl n done).2.getD k 0) (fun i => i ∈ done ∧ Reach nd i k)) := by
 intro done
 induction done using snoc_ind with
 | h0 =>
  intro _
  refine ⟨by simp [gst], by simp [gst], fun i hi => (by cases hi), fun i hi _ => ?_, fun k hk => ?_⟩
  ·simp [gst, List.getD_eq_getElem?_getD, List.getElem?_replicate, hi]
  ·have e : (gst ndl n []).2.getD k 0 = 0 := by simp [gst, List.getD_eq_getElem?_getD, List.getElem?_replicate, hk]
   rw [e]
   exact Bits.zero.congr (fun i => by simp)
 | hs pre x ih =>
  intro hp
  have hpre : Pre n nd pre := ⟨fun i hi => hp.lt i (by simp [hi]), (List.nodup_append.1 hp.nodup).1, fun a b c e k hk => hp.needs a b (c ++ [x]) (by rw [e]; simp) k hk⟩
  obtain ⟨h1, h2, h3, h4, h5⟩ := ih hpre
  have hx : x ∉ pre := fun hx => (List.nodup_append.1 hp.nodup).2.2 x hx x (by simp) rfl
  have hxn : x < n := hp.lt x (by simp)
  have hks : ∀ k, k ∈ nd x → k ∈ pre := fun k hk => hp.needs pre x [] rfl k hk
  rw [gst_snoc]
  generalize gst ndl n pre = s at h1 h2 h3 h4 h5 ⊢
  have hel : ∀ k, k ∈ elems (ndl.getD x 0) ↔ k ∈ nd x := fun k => by rw [mem_elems (hnd x hxn).lt, (hnd x hxn).iff]
  obtain ⟨b1, b2, b3⟩ := foldB_inv (nd := nd) hn h1 hxn (elems (ndl.getD x 0)) (fun k hk => by
   have hkp := hks k ((hel k).1 hk)
   exact ⟨hpre.lt k hkp, fun e => hx (e ▸ hkp), h3 k hkp⟩) (h4 x hxn hx)
  simp only
  change (stepB ndl s.1 x).length = n ∧ _
  have e1 : stepB ndl s.1 x = (elems (ndl.getD x 0)).foldl (fun b k => orB b x k) s.1 := rfl
  rw [← e1] at b1 b2 b3
  generalize stepB ndl s.1 x = bl at b1 b2 b3 ⊢
  have b4 : Bits (bl.getD x 0) (fun k => Reach nd x k) := b3.congr (fun m => by
   rw [reach_iff]
   constructor
   ·rintro ⟨k, hk, h⟩
    exact ⟨k, (hel k).1 hk, h⟩
   ·rintro ⟨k, hk, h⟩
    exact ⟨k, (hel k).2 hk, h⟩)
  have hrl : ∀ k, Reach nd x k → k < n := fun k hr => hpre.lt k (hp.reach hr pre [] rfl)
  obtain ⟨a1, a2⟩ := foldA_inv (x := x) hn h2 hxn (P := fun k i => i ∈ pre ∧ Reach nd i k) h5 (elems (bl.getD x 0)) (fun k hk => hrl k ((b4.iff k).1 ((mem_elems b4.lt).1 hk)))
  refine ⟨b1, a1, fun i hi => ?_, fun i hi hd => ?_, fun k hk => ?_⟩
  ·by_cases e : i = x
   ·rw [e]; exact b4
   ·rw [b2 i e]
    exact h3 i (by simpa [e] using hi)
  ·have e : i ≠ x := fun e => hd (by simp [e])
   rw [b2 i e]
   exact h4 i hi (fun h => hd (by simp [h]))
  ·refine (a2 k hk).congr (fun i => ?_)
   rw [mem_elems b4.lt, b4.iff]
   constructor
   ·rintro (⟨h, h'⟩ | ⟨h, h'⟩)
    ·exact ⟨by simp [h], h'⟩
    ·exact ⟨by simp [h], h ▸ h'⟩
   ·rintro ⟨h, h'⟩
    rcases List.mem_append.1 h with h | h
    ·exact .inl ⟨h, h'⟩
    ·obtain rfl := List.mem_singleton.1 h
     exact .inr ⟨rfl, h'⟩
end
end Go.Proofs.YtkafmfabkbmpbaaDoor.C
