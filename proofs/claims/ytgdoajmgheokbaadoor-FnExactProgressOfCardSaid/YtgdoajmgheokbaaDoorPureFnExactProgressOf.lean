/- FnExactProgressOf: for every list of tasks and changes the program's ProgressOf answers what the reference answers, and leaves its arguments alone. Nothing is assumed. -/
import Derived.Test.YtgdoajmgheokbaaDoorQProg
import Derived.Test.YtgdoajmgheokbaaDoorQTask
import Derived.Test.YtgdoajmgheokbaaDoorLFnExactProgressOf
import Derived.Test.YtgdoajmgheokbaaDoorG0
import Derived.Test.YtgdoajmgheokbaaDoorLFnExactProgressOf
namespace Go.Proofs.YtgdoajmgheokbaaDoor.G
open Go.RowKit Go.Proofs.YtgdoajmgheokbaaDoorW.PrintWords

theorem small_toT {l : List S73} (hl : l.length ≤ 1048576) (hd : ∀ t, t ∈ l → t.f1.length ≤ 1048576) : Small 1048576 (toT l) :=
 ⟨by rw [toT_length]; exact hl, fun t ht => by
  obtain ⟨u, hu, rfl⟩ := List.mem_map.1 ht
  exact hd u hu⟩
theorem pureFnExactProgressOf (l : List S73) (l1 : List Int) (hl : l.length ≤ 9223372036854775807) (hd : ∀ t, t ∈ l → t.f1.length ≤ 9223372036854775807) (hl1 : l1.length ≤ 9223372036854775807) : ∃ k, laws_FnExactProgressOf.f k l l1 = some true := by
 obtain ⟨k, hk⟩ : ∃ k, 3000000 ≤ k := ⟨3000000, Nat.le_refl _⟩
 refine ⟨k, ?_⟩
 unfold laws_FnExactProgressOf.f
 by_cases h1 : (l1.length : Int) > 1048576
 ·rw [if_pos h1]
 ·rw [if_neg h1]
  obtain ⟨s, hs, hs2⟩ := szTaskS_eq l hl hd k (by omega)
  rw [hs]
  simp only [Option.bind_some]
  rcases hs2 with c | ⟨c, c1, c2⟩
  ·rw [if_pos c]
  ·rw [if_neg c]
   have hsm := small_toT c1 c2
   obtain ⟨r, hr⟩ : ∃ r, impl_ProgressOf.f (toT l) l1 = some r := ⟨_, rfl⟩
   simp only [toTaskS_eq l k c1 c2 (by omega), toIntS_eq l1 k (by omega) (by omega), Option.bind_some, specProgress_eq (B := 1048576) (by omega) hsm (show l1.length ≤ 1048576 by omega) k (by omega), hr, eqTaskS_refl (toT l) k hsm.len hsm.nd (by omega), eqIntS_refl l1 k (by omega) (by omega), if_true]
end Go.Proofs.YtgdoajmgheokbaaDoor.G
