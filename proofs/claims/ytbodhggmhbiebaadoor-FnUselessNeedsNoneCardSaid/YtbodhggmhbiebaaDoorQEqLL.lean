/-
 The laws' comparison of lists of lists: a list equals itself.
-/
import Derived.Test.YtbodhggmhbiebaaDoorQEqualInts
import Derived.Test.YtbodhggmhbiebaaDoorQOk
import Derived.Test.YtbodhggmhbiebaaDoorG0
import Derived.Test.YtbodhggmhbiebaaDoorG8
namespace Go.Proofs.YtbodhggmhbiebaaDoor.G
open Go.RowKit Go.Proofs.YtbodhggmhbiebaaDoorW.PrintWords

theorem eqLL_l0 {l : List (List Int)} (hl : l.length ≤ 1000) (hd : ∀ x, x ∈ l → x.length ≤ 1000) : ∀ (d i k : Nat), i + d = l.length → d + 1010 ≤ k → laws_equalLists.l0 k l l (i : Int) = some true := by
 intro d
 induction d with
 | zero =>
  intro i k hi hk
  obtain ⟨k, rfl⟩ : ∃ m, k = m + 1 := ⟨k - 1, by omega⟩
  rw [laws_equalLists.l0, if_neg (by omega)]
 | succ d ih =>
  intro i k hi hk
  obtain ⟨k, rfl⟩ : ∃ m, k = m + 1 := ⟨k - 1, by omega⟩
  have hil : i < l.length := by omega
  have hx : (rd_L1 l (i : Int)).length ≤ 1000 := by
   unfold rd_L1
   rw [Int.toNat_natCast, List.getD_eq_getElem?_getD, List.getElem?_eq_getElem hil]
   exact hd _ (List.getElem_mem hil)
  rw [laws_equalLists.l0, if_pos (by omega), if_pos (by omega), if_pos (by omega), eqI_refl _ k (by omega) (by omega)]
  simp only [Option.bind_some, if_true]
  rw [show wrap64 ((i : Int) + 1) = ((i + 1 : Nat) : Int) by rw [w64 (by omega) (by omega)]; rfl]
  exact ih (i + 1) k (by omega) (by omega)
theorem eqLL_refl (l : List (List Int)) (k : Nat) (hl : l.length ≤ 1000) (hd : ∀ x, x ∈ l → x.length ≤ 1000) (hk : 2020 ≤ k) : laws_equalLists.f k l l = some true := by
 unfold laws_equalLists.f
 rw [if_pos rfl]
 exact eqLL_l0 hl hd l.length 0 k (by omega) (by omega)
end Go.Proofs.YtbodhggmhbiebaaDoor.G
