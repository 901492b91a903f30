/-
  The exact laws' helpers over users: the measure, the copy, the comparison.
-/
import Derived.Test.YtacenlcdlopjbaaQUsers
import Derived.Test.YtacenlcdlopjbaaG0
import Derived.Test.YtacenlcdlopjbaaG7
import Derived.Test.YtacenlcdlopjbaaG8
import Derived.Test.YtacenlcdlopjbaaG9
namespace Go.Proofs.Ytacenlcdlopjbaa.G
open Go.RowKit Go.Proofs.YtacenlcdlopjbaaW.PrintWords

def cvU (u : S49) : S31 := ⟨u.f0, u.f1, u.f2⟩
def toU (l : List S49) : List S31 := l.map cvU
theorem toU_length (l : List S49) : (toU l).length = l.length := by simp [toU]
theorem rdLU_nat (l : List S49) (i : Nat) (h : i < l.length) : rd_T49 l (i : Int) = l[i] := by
  unfold rd_T49
  rw [List.getD_eq_getElem?_getD, Int.toNat_natCast, List.getElem?_eq_getElem h]
  rfl
theorem szUserS_eq (l : List S49) (hl : l.length ≤ 9223372036854775807) : laws_szUserS.f l 1048576 = some (if (l.length : Int) ≤ 1048576 then 1048576 - (l.length : Int) else -1) := by
  unfold laws_szUserS.f
  rw [w64 (by omega) (by omega)]
  by_cases h : (l.length : Int) ≤ 1048576
  · rw [if_neg (by omega), if_pos h]
  · rw [if_pos (by omega), if_neg h]
theorem set_take_succ {α : Type} (acc : List α) (i : Nat) (v : α) (h : i < acc.length) : (acc.set i v).take (i + 1) = acc.take i ++ [v] := by
  rw [List.take_succ_eq_append_getElem (by simpa using h)]
  simp [List.take_set_of_le]
theorem toUserS_l0 (l : List S49) (hl : l.length ≤ 1048576) : ∀ (d k i : Nat) (acc : List S31), i + d = l.length → acc.length = l.length → d < k →
    laws_toUserS.l0 k l acc (i : Int) = some (acc.take i ++ (l.drop i).map cvU) := by
  intro d
  induction d with
  | zero =>
    intro k i acc hi ha hk
    obtain ⟨k, rfl⟩ : ∃ m, k = m + 1 := ⟨k - 1, by omega⟩
    simp only [laws_toUserS.l0]
    rw [if_neg (by omega), List.take_of_length_le (by omega), List.drop_of_length_le (by omega)]
    simp
  | succ d ih =>
    intro k i acc hi ha hk
    obtain ⟨k, rfl⟩ : ∃ m, k = m + 1 := ⟨k - 1, by omega⟩
    simp only [laws_toUserS.l0]
    have hn : wrap64 ((i : Int) + 1) = ((i + 1 : Nat) : Int) := by rw [w64 (by omega) (by omega)]; omega
    rw [if_pos (by omega), if_pos (by omega), rdLU_nat l i (by omega)]
    simp only [laws_toUser.f, Option.bind_some]
    rw [if_pos (by omega), hn, ih k (i + 1) _ (by omega) (by simpa using ha) (by omega), Int.toNat_natCast, set_take_succ acc i _ (by omega), List.drop_eq_getElem_cons (show i < l.length by omega), List.map_cons, List.append_assoc]
    rfl
theorem toUserS_eq (l : List S49) (k : Nat) (hl : l.length ≤ 1048576) (hk : l.length < k) : laws_toUserS.f k l = some (toU l) := by
  unfold laws_toUserS.f
  rw [if_pos (by omega), if_pos (by omega)]
  have h := toUserS_l0 l hl l.length k 0 (List.replicate ((l.length : Int) : Int).toNat z31) (by omega) (by simp) hk
  simp only [Int.ofNat_zero, List.take_zero, List.drop_zero, List.nil_append] at h
  exact h
theorem eqUserS_l0 (l : List S31) (hl : l.length ≤ 1048576) : ∀ (d k i : Nat), i + d = l.length → d < k → laws_eqUserS.l0 k l l (i : Int) = some true := by
  intro d
  induction d with
  | zero =>
    intro k i hi hk
    obtain ⟨k, rfl⟩ : ∃ m, k = m + 1 := ⟨k - 1, by omega⟩
    simp only [laws_eqUserS.l0]
    rw [if_neg (by omega)]
  | succ d ih =>
    intro k i hi hk
    obtain ⟨k, rfl⟩ : ∃ m, k = m + 1 := ⟨k - 1, by omega⟩
    simp only [laws_eqUserS.l0, laws_eqUser.f]
    have hn : wrap64 ((i : Int) + 1) = ((i + 1 : Nat) : Int) := by rw [w64 (by omega) (by omega)]; omega
    rw [if_pos (by omega), if_pos (by omega), if_pos (by omega), hn]
    simp only [if_true, Option.bind_some]
    exact ih k (i + 1) (by omega) (by omega)
theorem eqUserS_refl (l : List S31) (k : Nat) (hl : l.length ≤ 1048576) (hk : l.length < k) : laws_eqUserS.f k l l = some true := by
  unfold laws_eqUserS.f
  rw [if_pos rfl]
  exact eqUserS_l0 l hl l.length k 0 (by omega) hk
theorem markUserS_l0 : ∀ (d k i : Nat) (c : Int) (l : List S31), l.length ≤ 1048576 → i + d = l.length → d < k → 0 ≤ c → c + 3 * d ≤ 1000000000 →
    ∃ l', laws_markUserS.l0 k l c (i : Int) = some (c + 3 * d, l') := by
  intro d
  induction d with
  | zero =>
    intro k i c l hl hi hk h0 h1
    obtain ⟨k, rfl⟩ : ∃ m, k = m + 1 := ⟨k - 1, by omega⟩
    simp only [laws_markUserS.l0]
    rw [if_neg (by omega)]
    exact ⟨l, by simp⟩
  | succ d ih =>
    intro k i c l hl hi hk h0 h1
    obtain ⟨k, rfl⟩ : ∃ m, k = m + 1 := ⟨k - 1, by omega⟩
    simp only [laws_markUserS.l0, Option.bind_some]
    have hn : wrap64 ((i : Int) + 1) = ((i + 1 : Nat) : Int) := by rw [w64 (by omega) (by omega)]; omega
    have h2 : wrap64 (wrap64 (wrap64 (c + 1) + 1) + 1) = c + 3 := by rw [w64 (x := c + 1) (by omega) (by omega), w64 (x := c + 1 + 1) (by omega) (by omega), w64 (by omega) (by omega)]; omega
    rw [if_pos (by omega), if_pos (by omega), hn, h2]
    have key : ∀ L : List S31, L.length = l.length → ∃ l', laws_markUserS.l0 k L (c + 3) ((i + 1 : Nat) : Int) = some (c + 3 * ((d + 1 : Nat) : Int), l') := by
      intro L hL
      obtain ⟨l', hl'⟩ := ih k (i + 1) (c + 3) L (by omega) (by omega) (by omega) (by omega) (by omega)
      exact ⟨l', by rw [hl', show c + 3 + 3 * (d : Int) = c + 3 * ((d + 1 : Nat) : Int) by omega]⟩
    exact key _ (by simp)
theorem markUserS_eq (l : List S31) (k : Nat) (hl : l.length ≤ 1048576) (hk : l.length < k) : ∃ c l', laws_markUserS.f k l 1 = some (c, l') ∧ 0 < c := by
  unfold laws_markUserS.f
  obtain ⟨l', h⟩ := markUserS_l0 l.length k 0 1 l hl (by omega) hk (by omega) (by omega)
  exact ⟨_, l', h, by omega⟩

end Go.Proofs.Ytacenlcdlopjbaa.G
