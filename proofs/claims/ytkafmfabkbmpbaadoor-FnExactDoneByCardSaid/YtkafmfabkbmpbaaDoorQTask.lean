/-
 Several texts in one: QToInt, QTask.
-/
import Derived.Test.YtkafmfabkbmpbaaDoorQOk
import Derived.Test.YtkafmfabkbmpbaaDoorG0
import Derived.Test.YtkafmfabkbmpbaaDoorG1
import Derived.Test.YtkafmfabkbmpbaaDoorG4
import Derived.Test.YtkafmfabkbmpbaaDoorG5
/-! The exact laws' copy of an int slice. -/
namespace Go.Proofs.YtkafmfabkbmpbaaDoor.G
open Go.RowKit Go.Proofs.YtkafmfabkbmpbaaDoorW.PrintWords

theorem toIntS_l0 (l : List Int) (hl : l.length ≤ 1048576) : ∀ (d k i : Nat) (acc : List Int), i + d = l.length → acc.length = l.length → d < k →
  laws_toIntS.l0 k l acc (i : Int) = some (acc.take i ++ l.drop i) := by
 intro d
 induction d with
 | zero =>
  intro k i acc hi ha hk
  obtain ⟨k, rfl⟩ : ∃ m, k = m + 1 := ⟨k - 1, by omega⟩
  simp only [laws_toIntS.l0]
  rw [if_neg (by omega), List.take_of_length_le (by omega), List.drop_of_length_le (by omega)]
  simp
 | succ d ih =>
  intro k i acc hi ha hk
  have b0 : i < l.length := by omega
  obtain ⟨k, rfl⟩ : ∃ m, k = m + 1 := ⟨k - 1, by omega⟩
  simp only [laws_toIntS.l0]
  have hn : wrap64 ((i : Int) + 1) = ((i + 1 : Nat) : Int) := by rw [w64 (by omega) (by omega)]; omega
  have hv : rd l (i : Int) = l[i] := by
   unfold rd
   rw [List.getD_eq_getElem?_getD, Int.toNat_natCast, List.getElem?_eq_getElem b0]
   rfl
  have hs : (acc.set i l[i]).take (i + 1) = acc.take i ++ [l[i]] := by
   rw [List.take_succ_eq_append_getElem (by simpa using show i < acc.length by omega)]
   simp [List.take_set_of_le]
  rw [if_pos (by omega), if_pos (by omega), if_pos (by omega), hn, hv, Int.toNat_natCast, ih k (i + 1) _ (by omega) (by simpa using ha) (by omega), hs, List.drop_eq_getElem_cons b0, List.append_assoc]
  rfl
theorem toIntS_eq (l : List Int) (k : Nat) (hl : l.length ≤ 1048576) (hk : l.length < k) : laws_toIntS.f k l = some l := by
 unfold laws_toIntS.f
 rw [if_pos (by omega), if_pos (by omega)]
 have h := toIntS_l0 l hl l.length k 0 (List.replicate ((l.length : Int) : Int).toNat 0) (by omega) (by simp) hk
 simpa using h
end Go.Proofs.YtkafmfabkbmpbaaDoor.G
/-! The exact laws' helpers over tasks: the measure, the copy, the comparison. -/
namespace Go.Proofs.YtkafmfabkbmpbaaDoor.G
open Go.RowKit Go.Proofs.YtkafmfabkbmpbaaDoorW.PrintWords
set_option linter.unusedSimpArgs false

def cvT (t : S44) : S47 := ⟨t.f0, t.f1, t.f2, t.f3⟩
def toT (l : List S44) : List S47 := l.map cvT
theorem toT_length (l : List S44) : (toT l).length = l.length := by simp [toT]
theorem rdL_app (pre : List S44) (x : S44) (r : List S44) : rd_T44 (pre ++ x :: r) (pre.length : Int) = x := by
 unfold rd_T44
 simp
theorem rdI_app (pre : List S47) (x : S47) (r : List S47) : rd_T47 (pre ++ x :: r) (pre.length : Int) = x := by
 unfold rd_T47
 simp
def szGo : List S44 → Int → Int
 | [], x => x
 | t :: r, x => if x - (t.f1.length : Int) < 0 then -1 else szGo r (x - (t.f1.length : Int))
theorem szGo_small : ∀ (l : List S44) (x : Int), ¬ szGo l x < 0 → ∀ t, t ∈ l → (t.f1.length : Int) ≤ x
 | [], _, _, t, ht => by cases ht
 | u :: r, x, h, t, ht => by
  unfold szGo at h
  by_cases c : x - (u.f1.length : Int) < 0
  ·rw [if_pos c] at h
   exact absurd (by decide) h
  ·rw [if_neg c] at h
   rcases List.mem_cons.1 ht with rfl | ht
   ·omega
   ·have := szGo_small r _ h t ht
    omega
theorem sz_go {l : List S44} (hl : l.length ≤ 1048576) (hd : ∀ t, t ∈ l → t.f1.length ≤ 9223372036854775807) : ∀ (rest pre : List S44) (x : Int) (k : Nat), l = pre ++ rest → 0 ≤ x → x ≤ 1048576 → rest.length < k → laws_szTaskS.l0 k l x (pre.length : Int) = some (szGo rest x) := by
 intro rest
 induction rest with
 | nil =>
  intro pre x k e h0 h1 hk
  obtain ⟨k, rfl⟩ : ∃ m, k = m + 1 := ⟨k - 1, by omega⟩
  rw [laws_szTaskS.l0, if_neg (by rw [e]; simp)]
  rfl
 | cons t r ih =>
  intro pre x k e h0 h1 hk
  obtain ⟨k, rfl⟩ : ∃ m, k = m + 1 := ⟨k - 1, by omega⟩
  simp only [List.length_cons] at hk
  have hlt : pre.length < l.length := by rw [e]; simp
  have ht := hd t (by rw [e]; simp)
  have hn : wrap64 ((pre.length : Int) + 1) = ((pre ++ [t]).length : Int) := by rw [w64 (by omega) (by omega)]; simp
  rw [laws_szTaskS.l0, if_pos (by omega), if_pos (by omega), show rd_T44 l (pre.length : Int) = t by rw [e]; exact rdL_app _ _ _, hn]
  unfold laws_szTask.f laws_szIntS.f
  rw [w64 (by omega) (by omega)]
  unfold szGo
  by_cases c : x - (t.f1.length : Int) < 0
  ·rw [if_pos c, if_pos c]
   simp
  ·rw [if_neg c, if_neg c]
   simp only [Option.bind_some]
   rw [if_neg c]
   simp only [Option.bind_some]
   rw [if_neg c]
   exact ih (pre ++ [t]) _ k (by rw [e]; simp) (by omega) (by omega) (by omega)
theorem szTaskS_eq (l : List S44) (hl : l.length ≤ 9223372036854775807) (hd : ∀ t, t ∈ l → t.f1.length ≤ 9223372036854775807) (k : Nat) (hk : 1048577 < k) : ∃ s, laws_szTaskS.f k l 1048576 = some s ∧ (s < 0 ∨ (¬ s < 0 ∧ l.length ≤ 1048576 ∧ ∀ t, t ∈ l → t.f1.length ≤ 1048576)) := by
 unfold laws_szTaskS.f
 rw [w64 (by omega) (by omega)]
 by_cases h : (1048576 : Int) - (l.length : Int) < 0
 ·rw [if_pos h]
  exact ⟨-1, rfl, .inl (by decide)⟩
 ·rw [if_neg h]
  have hs := sz_go (l := l) (by omega) hd l [] (1048576 - (l.length : Int)) k rfl (by omega) (by omega) (by omega)
  refine ⟨_, hs, ?_⟩
  by_cases c : szGo l (1048576 - (l.length : Int)) < 0
  ·exact .inl c
  ·exact .inr ⟨c, by omega, fun t ht => by have := szGo_small l _ c t ht; omega⟩
theorem toTask_go {l : List S44} (hl : l.length ≤ 1048576) (hd : ∀ t, t ∈ l → t.f1.length ≤ 1048576) : ∀ (rest pre : List S44) (acc : List S47) (k : Nat), l = pre ++ rest → acc.length = l.length → acc.take pre.length = pre.map cvT → rest.length + 1048578 < k →
  laws_toTaskS.l0 k l acc (pre.length : Int) = some (toT l) := by
 intro rest
 induction rest with
 | nil =>
  intro pre acc k e ha ht hk
  obtain ⟨k, rfl⟩ : ∃ m, k = m + 1 := ⟨k - 1, by omega⟩
  rw [laws_toTaskS.l0, if_neg (by rw [e]; simp)]
  have e' : pre = l := by rw [e]; simp
  rw [e', List.take_of_length_le (by omega)] at ht
  rw [ht]
  rfl
 | cons t r ih =>
  intro pre acc k e ha ht hk
  obtain ⟨k, rfl⟩ : ∃ m, k = m + 1 := ⟨k - 1, by omega⟩
  simp only [List.length_cons] at hk
  have hlt : pre.length < l.length := by rw [e]; simp
  have htd := hd t (by rw [e]; simp)
  have hn : wrap64 ((pre.length : Int) + 1) = ((pre ++ [t]).length : Int) := by rw [w64 (by omega) (by omega)]; simp
  rw [laws_toTaskS.l0, if_pos (by omega), if_pos (by omega), show rd_T44 l (pre.length : Int) = t by rw [e]; exact rdL_app _ _ _, hn]
  unfold laws_toTask.f
  rw [toIntS_eq t.f1 k htd (by omega)]
  simp only [Option.bind_some]
  rw [if_pos (by omega), Int.toNat_natCast]
  refine ih (pre ++ [t]) _ k (by rw [e]; simp) (by simpa using ha) ?_ (by omega)
  rw [List.length_append, List.length_singleton, List.take_succ_eq_append_getElem (by simpa using show pre.length < acc.length by omega)]
  simp only [List.take_set_of_le (Nat.le_refl _), List.getElem_set_self, ht, List.map_append, List.map_cons, List.map_nil]
  rfl
theorem toTaskS_eq (l : List S44) (k : Nat) (hl : l.length ≤ 1048576) (hd : ∀ t, t ∈ l → t.f1.length ≤ 1048576) (hk : 2097160 < k) : laws_toTaskS.f k l = some (toT l) := by
 unfold laws_toTaskS.f
 rw [if_pos (by omega), if_pos (by omega)]
 exact toTask_go hl hd l [] _ k rfl (by simp) (by simp) (by omega)
theorem eqInt_go {l : List Int} (hl : l.length ≤ 1048576) : ∀ (d k i : Nat), i + d = l.length → d < k → laws_eqIntS.l0 k l l (i : Int) = some true := by
 intro d
 induction d with
 | zero =>
  intro k i hi hk
  obtain ⟨k, rfl⟩ : ∃ m, k = m + 1 := ⟨k - 1, by omega⟩
  rw [laws_eqIntS.l0, if_neg (by omega)]
 | succ d ih =>
  intro k i hi hk
  obtain ⟨k, rfl⟩ : ∃ m, k = m + 1 := ⟨k - 1, by omega⟩
  have hn : wrap64 ((i : Int) + 1) = ((i + 1 : Nat) : Int) := by rw [w64 (by omega) (by omega)]; rfl
  rw [laws_eqIntS.l0, if_pos (by omega), if_pos (by omega), if_pos (by omega), if_pos rfl, hn]
  exact ih k (i + 1) (by omega) (by omega)
theorem eqIntS_refl (l : List Int) (k : Nat) (hl : l.length ≤ 1048576) (hk : 1048577 < k) : laws_eqIntS.f k l l = some true := by
 unfold laws_eqIntS.f
 rw [if_pos rfl]
 exact eqInt_go hl l.length k 0 (by omega) (by omega)
theorem eqTask_go {l : List S47} (hl : l.length ≤ 1048576) (hd : ∀ t, t ∈ l → t.f1.length ≤ 1048576) : ∀ (rest pre : List S47) (k : Nat), l = pre ++ rest → rest.length + 1048578 < k → laws_eqTaskS.l0 k l l (pre.length : Int) = some true := by
 intro rest
 induction rest with
 | nil =>
  intro pre k e hk
  obtain ⟨k, rfl⟩ : ∃ m, k = m + 1 := ⟨k - 1, by omega⟩
  rw [laws_eqTaskS.l0, if_neg (by rw [e]; simp)]
 | cons t r ih =>
  intro pre k e hk
  obtain ⟨k, rfl⟩ : ∃ m, k = m + 1 := ⟨k - 1, by omega⟩
  simp only [List.length_cons] at hk
  have hlt : pre.length < l.length := by rw [e]; simp
  have htd := hd t (by rw [e]; simp)
  have hn : wrap64 ((pre.length : Int) + 1) = ((pre ++ [t]).length : Int) := by rw [w64 (by omega) (by omega)]; simp
  rw [laws_eqTaskS.l0, if_pos (by omega), if_pos (by omega), if_pos (by omega), show rd_T47 l (pre.length : Int) = t by rw [e]; exact rdI_app _ _ _, hn]
  unfold laws_eqTask.f
  rw [if_pos rfl, eqIntS_refl t.f1 k htd (by omega)]
  simp only [Option.bind_some, if_true]
  exact ih (pre ++ [t]) k (by rw [e]; simp) (by omega)
theorem eqTaskS_refl (l : List S47) (k : Nat) (hl : l.length ≤ 1048576) (hd : ∀ t, t ∈ l → t.f1.length ≤ 1048576) (hk : 2097160 < k) : laws_eqTaskS.f k l l = some true := by
 unfold laws_eqTaskS.f
 rw [if_pos rfl]
 exact eqTask_go hl hd l [] k rfl (by omega)
end Go.Proofs.YtkafmfabkbmpbaaDoor.G
