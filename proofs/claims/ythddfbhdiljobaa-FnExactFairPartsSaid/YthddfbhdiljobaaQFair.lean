/-
  FairParts: what the program and the reference compute is the same list.
-/
import Derived.Test.YthddfbhdiljobaaQUsers
import Derived.Test.YthddfbhdiljobaaCFair
import Derived.Test.YthddfbhdiljobaaG0
import Derived.Test.YthddfbhdiljobaaG6
import Derived.Test.YthddfbhdiljobaaG7
import Derived.Test.YthddfbhdiljobaaG8
import Derived.Test.YthddfbhdiljobaaG9
namespace Go.Proofs.Ythddfbhdiljobaa.G
open Go.RowKit Go.Proofs.YthddfbhdiljobaaW.PrintWords C

def shares (l : List S38) : List Int := l.map fun u => u.f0
theorem shares_length (l : List S38) : (shares l).length = l.length := by simp [shares]
def fairP (l : List S38) (a : Int) : List Int := if vu l = true ∧ 0 ≤ a ∧ a ≤ 10000 then fair a (shares l) else []

theorem rd_getD (l : List Int) (i : Nat) : rd l (i : Int) = l.getD i 0 := rfl
theorem drop_shares (l : List S38) (i : Nat) (h : i < l.length) : shares (l.drop i) = l[i].f0 :: shares (l.drop (i + 1)) := by
  rw [List.drop_eq_getElem_cons h]
  rfl
theorem shares_bound {l : List S38} (h : ∀ u, u ∈ l → okU u) : (l.length : Int) ≤ (shares l).sum ∧ (shares l).sum ≤ 10 * l.length := by
  have h1 : ∀ s, s ∈ shares l → 1 ≤ s := by
    intro s hs
    obtain ⟨u, hu, rfl⟩ := List.mem_map.1 hs
    exact (h u hu).1.1
  have h2 : ∀ s, s ∈ shares l → s ≤ 10 := by
    intro s hs
    obtain ⟨u, hu, rfl⟩ := List.mem_map.1 hs
    exact (h u hu).1.2
  have := sum_pos h1
  have := sum_le h2
  rw [shares_length] at *
  omega
theorem shares_drop_bound {l : List S38} (h : ∀ u, u ∈ l → okU u) (i : Nat) : 0 ≤ (shares (l.drop i)).sum ∧ (shares (l.drop i)).sum ≤ 10 * l.length := by
  have := shares_bound (l := l.drop i) (fun u hu => h u (List.mem_of_mem_drop hu))
  rw [List.length_drop] at this
  omega
theorem quot_eq {a s S : Int} (ha : 0 ≤ a ∧ a ≤ 10000) (hs : 1 ≤ s ∧ s ≤ 10) (hS : 0 < S) : wrap64 (Int.tdiv (wrap64 (a * s)) S) = a * s / S ∧ 0 ≤ a * s / S ∧ a * s / S ≤ 100000 := by
  have h0 : 0 ≤ a * s := Int.mul_nonneg ha.1 (by omega)
  have h1 : a * s ≤ 10000 * 10 := Int.mul_le_mul ha.2 hs.2 (by omega) (by omega)
  have h2 : 0 ≤ a * s / S := Int.ediv_nonneg h0 (by omega)
  have h3 : a * s / S ≤ a * s := Int.ediv_le_self _ h0
  rw [w64 (x := a * s) (by omega) (by omega), Int.tdiv_eq_ediv_of_nonneg h0, w64 (by omega) (by omega)]
  exact ⟨rfl, h2, by omega⟩

theorem implFair_l0 (us : List S38) (a : Int) (hu : ∀ u, u ∈ us → okU u) (hl : us.length ≤ 5) : ∀ (d k i : Nat) (acc : Int), i + d = us.length → 0 ≤ acc → acc + 10 * d ≤ 1000 →
    impl_FairParts.l0 (k + d + 1) us a acc us (us.length : Int) (i : Int) = impl_FairParts.l1 k a (acc + (shares (us.drop i)).sum) [] a us (us.length : Int) 0 := by
  intro d
  induction d with
  | zero =>
    intro k i acc hi h0 h1
    simp only [impl_FairParts.l0]
    rw [if_neg (by omega), if_pos (by omega), if_pos (by omega), List.drop_of_length_le (by omega)]
    simp [shares]
  | succ d ih =>
    intro k i acc hi h0 h1
    have b0 : i < us.length := by omega
    have ho := (hu us[i] (List.getElem_mem _)).1
    rw [show k + (d + 1) + 1 = (k + d + 1) + 1 by omega]
    generalize hf : k + d + 1 = f
    simp only [impl_FairParts.l0]
    have hn : wrap64 ((i : Int) + 1) = ((i + 1 : Nat) : Int) := by rw [w64 (by omega) (by omega)]; omega
    rw [if_pos (by omega), if_pos (by omega), if_pos (by omega), rdU_nat us i (by omega), hn, w64 (x := acc + us[i].f0) (by omega) (by omega), drop_shares us i (by omega), List.sum_cons]
    subst hf
    rw [ih k (i + 1) (acc + us[i].f0) (by omega) (by omega) (by omega), Int.add_assoc]
def quots (a S : Int) (us : List S38) : List Int := us.map fun u => a * u.f0 / S
theorem drop_quots (a S : Int) (l : List S38) (i : Nat) (h : i < l.length) : quots a S (l.drop i) = a * l[i].f0 / S :: quots a S (l.drop (i + 1)) := by
  rw [List.drop_eq_getElem_cons h]
  rfl
theorem l1_side {left q : Int} {d : Nat} (q2 : 0 ≤ q) (q3 : q ≤ 100000) (h0 : left ≤ 1000000) (h1 : -1000000 + 100000 * ((d + 1 : Nat) : Int) ≤ left) :
    wrap64 (left - q) = left - q ∧ left - q ≤ 1000000 ∧ -1000000 + 100000 * (d : Int) ≤ left - q := by
  refine ⟨w64 (by omega) (by omega), by omega, by omega⟩
theorem implFair_l1 (us : List S38) (a S : Int) (hu : ∀ u, u ∈ us → okU u) (hl : us.length ≤ 5) (ha : 0 ≤ a ∧ a ≤ 10000) (hS : 0 < S) :
    ∀ (d k i : Nat) (out : List Int) (left : Int), i + d = us.length → out.length = i → left ≤ 1000000 → -1000000 + 100000 * d ≤ left →
    impl_FairParts.l1 (k + d + 1) a S out left us (us.length : Int) (i : Int) = impl_FairParts.l2 k (out ++ quots a S (us.drop i)) (left - (quots a S (us.drop i)).sum) 0 := by
  intro d
  induction d with
  | zero =>
    intro k i out left hi ho h0 h1
    simp only [impl_FairParts.l1]
    rw [if_neg (by omega), List.drop_of_length_le (by omega)]
    simp [quots]
  | succ d ih =>
    intro k i out left hi ho h0 h1
    have hok := (hu us[i] (List.getElem_mem _)).1
    have b0 : i < us.length := by omega
    have b1 : (i : Int) < (us.length : Int) := by omega
    have b2 : (0 : Int) ≤ (i : Int) := by omega
    have b3 : ¬ S = 0 := by omega
    have b4 : out.length < 17592186044416 := by omega
    have b5 : i + 1 + d = us.length := by omega
    have hn : wrap64 ((i : Int) + 1) = ((i + 1 : Nat) : Int) := by rw [w64 (by omega) (by omega)]; omega
    rw [show k + (d + 1) + 1 = (k + d + 1) + 1 by omega]
    obtain ⟨q1, q2, q3⟩ := quot_eq ha hok hS
    obtain ⟨s1, s2, s3⟩ := l1_side q2 q3 h0 h1
    generalize hf : k + d + 1 = f
    simp only [impl_FairParts.l1]
    rw [if_pos b1, if_pos b2, if_pos b1, if_neg b3, if_pos b4, rdU_nat us i b0, hn, q1, s1, drop_quots a S us i b0, List.sum_cons]
    subst hf
    rw [ih k (i + 1) _ _ b5 (by simp [ho]) s2 s3, List.append_assoc, Int.sub_sub]
    rfl
theorem implFair_l2 (base : List Int) (left : Int) (hl : base.length ≤ 5) (hb : ∀ x, x ∈ base → 0 ≤ x ∧ x ≤ 100000) (h1 : left < base.length) :
    ∀ (d k i : Nat), (i : Int) + d = left → impl_FairParts.l2 (k + d + 1) (incr i base) left (i : Int) = some (incr left.toNat base) := by
  intro d
  induction d with
  | zero =>
    intro k i hi
    simp only [impl_FairParts.l2]
    rw [if_neg (by omega), show left.toNat = i by omega]
  | succ d ih =>
    intro k i hi
    rw [show k + (d + 1) + 1 = (k + d + 1) + 1 by omega]
    generalize hf : k + d + 1 = f
    simp only [impl_FairParts.l2]
    have hn : wrap64 ((i : Int) + 1) = ((i + 1 : Nat) : Int) := by rw [w64 (by omega) (by omega)]; omega
    have hm : Int.tmod (i : Int) ((incr i base).length : Int) = i := by rw [incr_length, Int.tmod_eq_emod_of_nonneg (by omega), Int.emod_eq_of_lt (by omega) (by omega)]
    have hx := hb base[i] (List.getElem_mem _)
    have hg : (incr i base).getD i 0 = base.getD i 0 := by rw [incr_getD, if_pos (by omega), if_neg (by omega)]
    have hv : base.getD i 0 = base[i] := by rw [List.getD_eq_getElem?_getD, List.getElem?_eq_getElem (by omega)]; rfl
    rw [if_pos (by omega), if_neg (by rw [incr_length]; omega), hm, if_pos (by omega), if_pos (by rw [incr_length]; omega), rd_getD, hg, hn, Int.toNat_natCast, w64 (by omega) (by omega),
      incr_succ i base (by omega)]
    subst hf
    rw [ih k (i + 1) (by omega)]
theorem quots_parts (a : Int) (us : List S38) : quots a (shares us).sum us = parts a (shares us) := by
  unfold quots parts shares
  rw [List.map_map]
  rfl
theorem parts_each {a : Int} {us : List S38} (hu : ∀ u, u ∈ us → okU u) (hlen : 1 ≤ us.length) (ha : 0 ≤ a ∧ a ≤ 10000) : ∀ x, x ∈ parts a (shares us) → 0 ≤ x ∧ x ≤ 100000 := by
  intro x hx
  obtain ⟨s, hs, rfl⟩ := List.mem_map.1 hx
  obtain ⟨u, hu', rfl⟩ := List.mem_map.1 hs
  have h := shares_bound hu
  exact (quot_eq ha (hu u hu').1 (by omega)).2
theorem sum_bound {l : List Int} {c : Int} (h : ∀ x, x ∈ l → 0 ≤ x ∧ x ≤ c) : 0 ≤ l.sum ∧ l.sum ≤ c * l.length := by
  induction l with
  | nil => simp
  | cons x l ih =>
    have := ih (fun y hy => h y (by simp [hy]))
    have := h x (by simp)
    simp only [List.sum_cons, List.length_cons, Int.natCast_succ, Int.mul_add, Int.mul_one]
    omega
theorem implFair (us : List S38) (a : Int) (k : Nat) (hl : us.length < 4611686018427387904) (hk : us.length + 100 ≤ k) : impl_FairParts.f k us a = some (fairP us a) := by
  unfold impl_FairParts.f fairP
  rw [implVU us k hl (by omega), Option.bind_some]
  obtain ⟨k, rfl⟩ : ∃ m, k = m + 1 := ⟨k - 1, by omega⟩
  by_cases hv : vu us = true
  · rw [if_pos hv, within_eq, Option.bind_some]
    simp only [impl_FairParts.j0]
    by_cases ha : 0 ≤ a ∧ a ≤ 10000
    · rw [decide_eq_true ha, if_neg (by decide), if_pos ⟨hv, ha⟩]
      obtain ⟨h15, hu⟩ := (vu_iff us).1 hv
      have hsb := shares_bound hu
      obtain ⟨m, rfl⟩ : ∃ m, k = m + 5 + us.length + 1 + us.length + 1 := ⟨k - us.length - us.length - 7, by omega⟩
      have e0 := implFair_l0 us a hu (by omega) us.length (m + 5 + us.length + 1) 0 0 (by omega) (by omega) (by omega)
      simp only [Int.ofNat_zero, List.drop_zero, Int.zero_add] at e0
      rw [e0]
      have e1 := implFair_l1 us a (shares us).sum hu (by omega) ha (by omega) us.length (m + 5) 0 [] a (by omega) rfl (by omega) (by omega)
      simp only [Int.ofNat_zero, List.drop_zero, List.nil_append] at e1
      rw [e1, quots_parts]
      have hlb := left_bound a (shares us) (by omega) (by rw [shares_length]; omega)
      have hpe := parts_each hu (by omega) ha
      rw [shares_length] at hlb
      obtain ⟨d, hd⟩ := Int.eq_ofNat_of_zero_le hlb.1
      have e2 := implFair_l2 (parts a (shares us)) (a - (parts a (shares us)).sum) (by rw [parts_length, shares_length]; omega) hpe (by rw [parts_length, shares_length]; omega) d (m + 4 - d) 0 (by omega)
      rw [show m + 4 - d + d + 1 = m + 5 by omega, incr_zero] at e2
      exact e2
    · rw [decide_eq_false ha, if_pos (by decide), if_neg (fun h => ha h.2)]
  · rw [if_neg hv]
    simp only [impl_FairParts.j0]
    rw [if_pos trivial, if_neg (fun h => hv h.1)]

theorem specSum_l0 (l : List Int) (hl : l.length ≤ 1000) (hb : ∀ x, x ∈ l → -1000000 ≤ x ∧ x ≤ 1000000) : ∀ (d k i : Nat) (acc : Int), i + d = l.length → d < k → -1000000 * (i : Int) ≤ acc → acc ≤ 1000000 * (i : Int) →
    spec_sum.l0 k l acc (i : Int) = some (acc + (l.drop i).sum) := by
  intro d
  induction d with
  | zero =>
    intro k i acc hi hk h0 h1
    obtain ⟨k, rfl⟩ : ∃ m, k = m + 1 := ⟨k - 1, by omega⟩
    simp only [spec_sum.l0]
    rw [if_neg (by omega), List.drop_of_length_le (by omega)]
    simp
  | succ d ih =>
    intro k i acc hi hk h0 h1
    obtain ⟨k, rfl⟩ : ∃ m, k = m + 1 := ⟨k - 1, by omega⟩
    have hx := hb l[i] (List.getElem_mem _)
    have hv : rd l (i : Int) = l[i] := by rw [rd_getD, List.getD_eq_getElem?_getD, List.getElem?_eq_getElem (by omega)]; rfl
    simp only [spec_sum.l0]
    have hn : wrap64 ((i : Int) + 1) = ((i + 1 : Nat) : Int) := by rw [w64 (by omega) (by omega)]; omega
    rw [if_pos (by omega), if_pos (by omega), hv, hn, w64 (x := acc + l[i]) (by omega) (by omega), ih k (i + 1) _ (by omega) (by omega) (by omega) (by omega), List.drop_eq_getElem_cons (show i < l.length by omega), List.sum_cons, Int.add_assoc]
theorem specSum (l : List Int) (k : Nat) (hl : l.length ≤ 1000) (hb : ∀ x, x ∈ l → -1000000 ≤ x ∧ x ≤ 1000000) (hk : l.length < k) : spec_sum.f k l = some l.sum := by
  unfold spec_sum.f
  have h := specSum_l0 l hl hb l.length k 0 0 (by omega) hk (by omega) (by omega)
  simpa using h

theorem specFair_l0 (us : List S38) (a : Int) (out : List Int) (hu : ∀ u, u ∈ us → okU u) (hl : us.length ≤ 5) : ∀ (d k i : Nat) (acc : Int), i + d = us.length → 0 ≤ acc → acc + 10 * d ≤ 1000 →
    spec_FairParts.l0 (k + d + 1) us a out acc (i : Int) = spec_FairParts.l1 k us a out (acc + (shares (us.drop i)).sum) 0 := by
  intro d
  induction d with
  | zero =>
    intro k i acc hi h0 h1
    simp only [spec_FairParts.l0]
    rw [if_neg (by omega), List.drop_of_length_le (by omega)]
    simp [shares]
  | succ d ih =>
    intro k i acc hi h0 h1
    have b0 : i < us.length := by omega
    have ho := (hu us[i] (List.getElem_mem _)).1
    rw [show k + (d + 1) + 1 = (k + d + 1) + 1 by omega]
    generalize hf : k + d + 1 = f
    simp only [spec_FairParts.l0]
    have hn : wrap64 ((i : Int) + 1) = ((i + 1 : Nat) : Int) := by rw [w64 (by omega) (by omega)]; omega
    rw [if_pos (by omega), if_pos (by omega), rdU_nat us i (by omega), hn, w64 (x := acc + us[i].f0) (by omega) (by omega), drop_shares us i (by omega), List.sum_cons]
    subst hf
    rw [ih k (i + 1) (acc + us[i].f0) (by omega) (by omega) (by omega), Int.add_assoc]
theorem specFair_l1 (us : List S38) (a S : Int) (hu : ∀ u, u ∈ us → okU u) (hl : us.length ≤ 5) (ha : 0 ≤ a ∧ a ≤ 10000) (hS : 0 < S) :
    ∀ (d k i : Nat) (out : List Int), i + d = us.length → out.length = i →
    spec_FairParts.l1 (k + d + 1) us a out S (i : Int) = spec_FairParts.l2 k a (out ++ quots a S (us.drop i)) 0 := by
  intro d
  induction d with
  | zero =>
    intro k i out hi ho
    simp only [spec_FairParts.l1]
    rw [if_neg (by omega), List.drop_of_length_le (by omega)]
    simp [quots]
  | succ d ih =>
    intro k i out hi ho
    have hok := (hu us[i] (List.getElem_mem _)).1
    have b0 : i < us.length := by omega
    have b1 : (i : Int) < (us.length : Int) := by omega
    have b2 : (0 : Int) ≤ (i : Int) := by omega
    have b3 : ¬ S = 0 := by omega
    have b4 : out.length < 17592186044416 := by omega
    have b5 : i + 1 + d = us.length := by omega
    have hn : wrap64 ((i : Int) + 1) = ((i + 1 : Nat) : Int) := by rw [w64 (by omega) (by omega)]; omega
    rw [show k + (d + 1) + 1 = (k + d + 1) + 1 by omega]
    have q1 := (quot_eq ha hok hS).1
    generalize hf : k + d + 1 = f
    simp only [spec_FairParts.l1]
    rw [if_pos b1, if_pos b2, if_neg b3, if_pos b4, rdU_nat us i b0, hn, q1, drop_quots a S us i b0]
    subst hf
    rw [ih k (i + 1) _ b5 (by simp [ho]), List.append_assoc]
    rfl
theorem specFair_l2 (base : List Int) (a : Int) (hl : base.length ≤ 5) (hb : ∀ x, x ∈ base → 0 ≤ x ∧ x ≤ 100000) (h0 : 0 ≤ a - base.sum) (h1 : a - base.sum < base.length) :
    ∀ (d k i : Nat), (i : Int) + d = a - base.sum → spec_FairParts.l2 (k + 10 + d + 1) a (incr i base) (i : Int) = some (incr (a - base.sum).toNat base) := by
  have hib : ∀ (i : Nat) (x : Int), x ∈ incr i base → -1000000 ≤ x ∧ x ≤ 1000000 := by
    intro i x hx
    obtain ⟨j, hj, rfl⟩ := List.mem_iff_getElem.1 hx
    have hj' : j < base.length := by rw [incr_length] at hj; exact hj
    have h := hb base[j] (List.getElem_mem _)
    simp only [incr, List.getElem_mapIdx]
    split <;> omega
  intro d
  induction d with
  | zero =>
    intro k i hi
    simp only [spec_FairParts.l2]
    rw [specSum _ _ (by rw [incr_length]; omega) (hib i) (by rw [incr_length]; omega), Option.bind_some, incr_sum _ _ (by omega), if_neg (by omega), show (a - base.sum).toNat = i by omega]
  | succ d ih =>
    intro k i hi
    rw [show k + 10 + (d + 1) + 1 = (k + 10 + d + 1) + 1 by omega]
    generalize hf : k + 10 + d + 1 = f
    simp only [spec_FairParts.l2]
    have hn : wrap64 ((i : Int) + 1) = ((i + 1 : Nat) : Int) := by rw [w64 (by omega) (by omega)]; omega
    have hx := hb base[i] (List.getElem_mem _)
    have hg : (incr i base).getD i 0 = base.getD i 0 := by rw [incr_getD, if_pos (by omega), if_neg (by omega)]
    have hv : base.getD i 0 = base[i] := by rw [List.getD_eq_getElem?_getD, List.getElem?_eq_getElem (by omega)]; rfl
    rw [specSum _ _ (by rw [incr_length]; omega) (hib i) (by rw [incr_length]; omega), Option.bind_some, incr_sum _ _ (by omega), if_pos (by omega), if_pos (by omega), if_pos (by rw [incr_length]; omega), rd_getD, hg, hn, Int.toNat_natCast, w64 (by omega) (by omega),
      incr_succ i base (by omega)]
    subst hf
    rw [ih k (i + 1) (by omega)]
theorem specFair (us : List S38) (a : Int) (k : Nat) (hl : us.length < 4611686018427387904) (hk : us.length + 100 ≤ k) : spec_FairParts.f k us a = some (fairP us a) := by
  unfold spec_FairParts.f fairP
  rw [Option.bind_some, specVU' us k hl (by omega), Option.bind_some]
  obtain ⟨k, rfl⟩ : ∃ m, k = m + 1 := ⟨k - 1, by omega⟩
  by_cases hv : vu us = true
  · rw [if_pos hv, inRange_eq, Option.bind_some]
    simp only [spec_FairParts.j0]
    by_cases ha : 0 ≤ a ∧ a ≤ 10000
    · rw [decide_eq_true ha, if_neg (by decide), if_pos ⟨hv, ha⟩]
      obtain ⟨h15, hu⟩ := (vu_iff us).1 hv
      have hsb := shares_bound hu
      obtain ⟨m, rfl⟩ : ∃ m, k = m + 20 + us.length + 1 + us.length + 1 := ⟨k - us.length - us.length - 22, by omega⟩
      have e0 := specFair_l0 us a [] hu (by omega) us.length (m + 20 + us.length + 1) 0 0 (by omega) (by omega) (by omega)
      simp only [Int.ofNat_zero, List.drop_zero, Int.zero_add] at e0
      rw [e0]
      have e1 := specFair_l1 us a (shares us).sum hu (by omega) ha (by omega) us.length (m + 20) 0 [] (by omega) rfl
      simp only [Int.ofNat_zero, List.drop_zero, List.nil_append] at e1
      rw [e1, quots_parts]
      have hlb := left_bound a (shares us) (by omega) (by rw [shares_length]; omega)
      have hpe := parts_each hu (by omega) ha
      rw [shares_length] at hlb
      obtain ⟨d, hd⟩ := Int.eq_ofNat_of_zero_le hlb.1
      have e2 := specFair_l2 (parts a (shares us)) a (by rw [parts_length, shares_length]; omega) hpe hlb.1 (by rw [parts_length, shares_length]; omega) d (m + 9 - d) 0 (by omega)
      rw [show m + 9 - d + 10 + d + 1 = m + 20 by omega, incr_zero] at e2
      exact e2
    · rw [decide_eq_false ha, if_pos (by decide), if_neg (fun h => ha h.2)]
  · rw [if_neg hv]
    simp only [spec_FairParts.j0]
    rw [if_pos trivial, if_neg (fun h => hv h.1)]

theorem eqI_l0 (l : List Int) (hl : l.length ≤ 4611686018427387904) : ∀ (d k i : Nat), i + d = l.length → d < k → laws_equalInts.l0 k l l (i : Int) = some true := by
  intro d
  induction d with
  | zero =>
    intro k i hi hk
    obtain ⟨k, rfl⟩ : ∃ m, k = m + 1 := ⟨k - 1, by omega⟩
    simp only [laws_equalInts.l0]
    rw [if_neg (by omega)]
  | succ d ih =>
    intro k i hi hk
    obtain ⟨k, rfl⟩ : ∃ m, k = m + 1 := ⟨k - 1, by omega⟩
    simp only [laws_equalInts.l0]
    have hn : wrap64 ((i : Int) + 1) = ((i + 1 : Nat) : Int) := by rw [w64 (by omega) (by omega)]; omega
    rw [if_pos (by omega), if_pos (by omega), if_pos (by omega), if_pos trivial, hn]
    exact ih k (i + 1) (by omega) (by omega)
theorem eqI_refl (l : List Int) (k : Nat) (hl : l.length ≤ 4611686018427387904) (hk : l.length < k) : laws_equalInts.f k l l = some true := by
  unfold laws_equalInts.f
  rw [if_pos rfl]
  exact eqI_l0 l hl l.length k 0 (by omega) hk
theorem drawFair (l : List Int) (k : Nat) (hk : 20 ≤ k) (hw : ∀ x, x ∈ l → (Lit.int .u8 x).wf = true) : ∃ us a, spec_DrawFairParts.f k l = some (us, a) ∧ us.length ≤ 6 ∧ -1 ≤ a ∧ a ≤ 10001 := by
  unfold spec_DrawFairParts.f
  obtain ⟨b, hb, hr⟩ := newReader_ok l hw
  rw [hb, Option.bind_some]
  obtain ⟨⟨us, q⟩, hu, h1, h2, h3⟩ := anyUsers_ok hr k 0 hk (by omega) (by omega)
  simp only at h1 h2 h3
  simp only [hu, Option.bind_some]
  obtain ⟨⟨a, q'⟩, ha, h4, h5⟩ := one_ok hr k q [0, 1, 100, 10000, 10001, -1, 37] (by omega) h2 (by omega) (by simp) (by simp)
  simp only [ha, Option.bind_some]
  refine ⟨us, a, rfl, h1, ?_⟩
  simp at h5
  omega
end Go.Proofs.Ythddfbhdiljobaa.G
