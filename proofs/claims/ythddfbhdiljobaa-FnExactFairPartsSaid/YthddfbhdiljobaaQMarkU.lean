/-
  Marking users: the count stays positive.
-/
import Derived.Test.YthddfbhdiljobaaQOk
import Derived.Test.YthddfbhdiljobaaG0
import Derived.Test.YthddfbhdiljobaaG11
namespace Go.Proofs.Ythddfbhdiljobaa.G
open Go.RowKit Go.Proofs.YthddfbhdiljobaaW.PrintWords

theorem markUserS_l0 : ∀ (d k i : Nat) (c : Int) (l : List S38), l.length ≤ 1048576 → i + d = l.length → d < k → 0 ≤ c → c + 3 * d ≤ 1000000000 →
    ∃ l', laws_markUserS.l0 k l c (i : Int) = some (c + 3 * d, l') := by
  intro d
  induction d with
  | zero =>
    intro k i c l hl hi hk h0 h1
    obtain ⟨k, rfl⟩ : ∃ m, k = m + 1 := ⟨k - 1, by omega⟩
    simp only [laws_markUserS.l0]
    rw [if_neg (by omega)]
    exact ⟨l, by simp⟩
  | succ d ih =>
    intro k i c l hl hi hk h0 h1
    obtain ⟨k, rfl⟩ : ∃ m, k = m + 1 := ⟨k - 1, by omega⟩
    simp only [laws_markUserS.l0, Option.bind_some]
    have hn : wrap64 ((i : Int) + 1) = ((i + 1 : Nat) : Int) := by rw [w64 (by omega) (by omega)]; omega
    have h2 : wrap64 (wrap64 (wrap64 (c + 1) + 1) + 1) = c + 3 := by rw [w64 (x := c + 1) (by omega) (by omega), w64 (x := c + 1 + 1) (by omega) (by omega), w64 (by omega) (by omega)]; omega
    rw [if_pos (by omega), if_pos (by omega), hn, h2]
    have key : ∀ L : List S38, L.length = l.length → ∃ l', laws_markUserS.l0 k L (c + 3) ((i + 1 : Nat) : Int) = some (c + 3 * ((d + 1 : Nat) : Int), l') := by
      intro L hL
      obtain ⟨l', hl'⟩ := ih k (i + 1) (c + 3) L (by omega) (by omega) (by omega) (by omega) (by omega)
      exact ⟨l', by rw [hl', show c + 3 + 3 * (d : Int) = c + 3 * ((d + 1 : Nat) : Int) by omega]⟩
    exact key _ (by simp)
theorem markUserS_eq (l : List S38) (k : Nat) (hl : l.length ≤ 1048576) (hk : l.length < k) : ∃ c l', laws_markUserS.f k l 1 = some (c, l') ∧ 0 < c := by
  unfold laws_markUserS.f
  obtain ⟨l', h⟩ := markUserS_l0 l.length k 0 1 l hl (by omega) hk (by omega) (by omega)
  exact ⟨_, l', h, by omega⟩
end Go.Proofs.Ythddfbhdiljobaa.G
