/-
 The head of an exact law on a log: sizes, copies.
-/
import Derived.Test.YtkafmfabkbmpbaaDoorQTask
import Derived.Test.YtkafmfabkbmpbaaDoorQLogS
import Derived.Test.YtkafmfabkbmpbaaDoorG0
import Derived.Test.YtkafmfabkbmpbaaDoorG1
namespace Go.Proofs.YtkafmfabkbmpbaaDoor.G
open Go.RowKit Go.Proofs.YtkafmfabkbmpbaaDoorW.PrintWords

theorem szGo_le : ∀ (l : List S44) (x : Int), x ≤ 1048576 → szGo l x ≤ 1048576
 | [], x, h => h
 | t :: r, x, h => by
  unfold szGo
  split
  ·decide
  ·exact szGo_le r _ (by omega)
theorem szTaskS_le (l : List S44) (hl : l.length ≤ 9223372036854775807) (hd : ∀ t, t ∈ l → t.f1.length ≤ 9223372036854775807) (k : Nat) (hk : 1048577 < k) : ∃ s, laws_szTaskS.f k l 1048576 = some s ∧ (s < 0 ∨ ((0 ≤ s ∧ s ≤ 1048576) ∧ l.length ≤ 1048576 ∧ ∀ t, t ∈ l → t.f1.length ≤ 1048576)) := by
 unfold laws_szTaskS.f
 rw [w64 (by omega) (by omega)]
 by_cases h : (1048576 : Int) - (l.length : Int) < 0
 ·rw [if_pos h]
  exact ⟨-1, rfl, .inl (by decide)⟩
 ·rw [if_neg h]
  have hs := sz_go (l := l) (by omega) hd l [] (1048576 - (l.length : Int)) k rfl (by omega) (by omega) (by omega)
  refine ⟨_, hs, ?_⟩
  by_cases c : szGo l (1048576 - (l.length : Int)) < 0
  ·exact .inl c
  ·exact .inr ⟨⟨by omega, szGo_le l _ (by omega)⟩, by omega, fun t ht => by have := szGo_small l _ c t ht; omega⟩
theorem small_toT {l : List S44} (hl : l.length ≤ 1048576) (hd : ∀ t, t ∈ l → t.f1.length ≤ 1048576) : Small 1048576 (toT l) :=
 ⟨by rw [toT_length]; exact hl, fun t ht => by
  obtain ⟨u, hu, rfl⟩ := List.mem_map.1 ht
  exact hd u hu⟩
end Go.Proofs.YtkafmfabkbmpbaaDoor.G
