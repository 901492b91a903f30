/-
  The exact laws' helpers over users: the measure, the copy, the comparison.
-/
import Derived.Test.YtafiidbkkcaegaaQUsers
import Derived.Test.YtafiidbkkcaegaaG0
import Derived.Test.YtafiidbkkcaegaaG8
import Derived.Test.YtafiidbkkcaegaaG9
namespace Go.Proofs.Ytafiidbkkcaegaa.G
open Go.RowKit Go.Proofs.YtafiidbkkcaegaaW.PrintWords

def cvU (u : S50) : S27 := ⟨u.f0, u.f1, u.f2⟩
def toU (l : List S50) : List S27 := l.map cvU
theorem toU_length (l : List S50) : (toU l).length = l.length := by simp [toU]
theorem rdLU_nat (l : List S50) (i : Nat) (h : i < l.length) : rd_T50 l (i : Int) = l[i] := by
  unfold rd_T50
  rw [List.getD_eq_getElem?_getD, Int.toNat_natCast, List.getElem?_eq_getElem h]
  rfl
theorem szUserS_eq (l : List S50) (hl : l.length ≤ 9223372036854775807) : laws_szUserS.f l 1048576 = some (if (l.length : Int) ≤ 1048576 then 1048576 - (l.length : Int) else -1) := by
  unfold laws_szUserS.f
  rw [w64 (by omega) (by omega)]
  by_cases h : (l.length : Int) ≤ 1048576
  · rw [if_neg (by omega), if_pos h]
  · rw [if_pos (by omega), if_neg h]
theorem set_take_succ {α : Type} (acc : List α) (i : Nat) (v : α) (h : i < acc.length) : (acc.set i v).take (i + 1) = acc.take i ++ [v] := by
  rw [List.take_succ_eq_append_getElem (by simpa using h)]
  simp [List.take_set_of_le]
theorem toUserS_l0 (l : List S50) (hl : l.length ≤ 1048576) : ∀ (d k i : Nat) (acc : List S27), i + d = l.length → acc.length = l.length → d < k →
    laws_toUserS.l0 k l acc (i : Int) = some (acc.take i ++ (l.drop i).map cvU) := by
  intro d
  induction d with
  | zero =>
    intro k i acc hi ha hk
    obtain ⟨k, rfl⟩ : ∃ m, k = m + 1 := ⟨k - 1, by omega⟩
    simp only [laws_toUserS.l0]
    rw [if_neg (by omega), List.take_of_length_le (by omega), List.drop_of_length_le (by omega)]
    simp
  | succ d ih =>
    intro k i acc hi ha hk
    obtain ⟨k, rfl⟩ : ∃ m, k = m + 1 := ⟨k - 1, by omega⟩
    simp only [laws_toUserS.l0]
    have hn : wrap64 ((i : Int) + 1) = ((i + 1 : Nat) : Int) := by rw [w64 (by omega) (by omega)]; omega
    rw [if_pos (by omega), if_pos (by omega), rdLU_nat l i (by omega)]
    simp only [laws_toUser.f, Option.bind_some]
    rw [if_pos (by omega), hn, ih k (i + 1) _ (by omega) (by simpa using ha) (by omega), Int.toNat_natCast, set_take_succ acc i _ (by omega), List.drop_eq_getElem_cons (show i < l.length by omega), List.map_cons, List.append_assoc]
    rfl
theorem toUserS_eq (l : List S50) (k : Nat) (hl : l.length ≤ 1048576) (hk : l.length < k) : laws_toUserS.f k l = some (toU l) := by
  unfold laws_toUserS.f
  rw [if_pos (by omega), if_pos (by omega)]
  have h := toUserS_l0 l hl l.length k 0 (List.replicate ((l.length : Int) : Int).toNat z27) (by omega) (by simp) hk
  simp only [Int.ofNat_zero, List.take_zero, List.drop_zero, List.nil_append] at h
  exact h
theorem eqUserS_l0 (l : List S27) (hl : l.length ≤ 1048576) : ∀ (d k i : Nat), i + d = l.length → d < k → laws_eqUserS.l0 k l l (i : Int) = some true := by
  intro d
  induction d with
  | zero =>
    intro k i hi hk
    obtain ⟨k, rfl⟩ : ∃ m, k = m + 1 := ⟨k - 1, by omega⟩
    simp only [laws_eqUserS.l0]
    rw [if_neg (by omega)]
  | succ d ih =>
    intro k i hi hk
    obtain ⟨k, rfl⟩ : ∃ m, k = m + 1 := ⟨k - 1, by omega⟩
    simp only [laws_eqUserS.l0, laws_eqUser.f]
    have hn : wrap64 ((i : Int) + 1) = ((i + 1 : Nat) : Int) := by rw [w64 (by omega) (by omega)]; omega
    rw [if_pos (by omega), if_pos (by omega), if_pos (by omega), hn]
    simp only [if_true, Option.bind_some]
    exact ih k (i + 1) (by omega) (by omega)
theorem eqUserS_refl (l : List S27) (k : Nat) (hl : l.length ≤ 1048576) (hk : l.length < k) : laws_eqUserS.f k l l = some true := by
  unfold laws_eqUserS.f
  rw [if_pos rfl]
  exact eqUserS_l0 l hl l.length k 0 (by omega) hk
end Go.Proofs.Ytafiidbkkcaegaa.G
