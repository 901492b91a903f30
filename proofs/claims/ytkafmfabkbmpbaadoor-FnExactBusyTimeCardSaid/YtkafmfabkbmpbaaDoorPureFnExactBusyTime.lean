/- FnExactBusyTime: for every list of tasks and every log the program's BusyTime answers what the reference answers, and leaves its arguments alone. Nothing is assumed. -/
import Derived.Test.YtkafmfabkbmpbaaDoorQLogE
import Derived.Test.YtkafmfabkbmpbaaDoorLFnExactBusyTime
import Derived.Test.YtkafmfabkbmpbaaDoorG0
import Derived.Test.YtkafmfabkbmpbaaDoorLFnExactBusyTime
namespace Go.Proofs.YtkafmfabkbmpbaaDoor.G
open Go.RowKit Go.Proofs.YtkafmfabkbmpbaaDoorW.PrintWords

set_option linter.unusedSimpArgs false
theorem pureFnExactBusyTime (l : List S44) (l1 : List S50) (hl : l.length ≤ 9223372036854775807) (hd : ∀ t, t ∈ l → t.f1.length ≤ 9223372036854775807) (hl1 : l1.length ≤ 9223372036854775807) : ∃ k, laws_FnExactBusyTime.f k l l1 = some true := by
 obtain ⟨k, hk⟩ : ∃ k, 3000000 ≤ k := ⟨3000000, Nat.le_refl _⟩
 refine ⟨k, ?_⟩
 unfold laws_FnExactBusyTime.f
 obtain ⟨s, hs, hs2⟩ := szTaskS_le l hl hd k (by omega)
 rw [hs]
 simp only [Option.bind_some]
 rcases hs2 with c | ⟨c, c1, c2⟩
 ·rw [if_pos c]
 ·rw [if_neg (by omega)]
  rcases szEventS_eq l1 s c hl1 with h | ⟨s2, h, h1, h2⟩
  ·rw [h, Option.bind_some, if_pos (by decide)]
  ·have hsm := small_toT c1 c2
   obtain ⟨r, hr⟩ : ∃ r, impl_BusyTime.f (toT l) (toEv l1) = some r := ⟨_, rfl⟩
   rw [h, Option.bind_some, if_neg h1]
   simp only [toTaskS_eq l k c1 c2 (by omega), toEventS_eq l1 k h2 (by omega), Option.bind_some, specBusy_eq (B := 1048576) (by omega) hsm k (by omega), hr, eqTaskS_refl (toT l) k hsm.len hsm.nd (by omega), eqEventS_refl (toEv l1) k (by rw [toEv_length]; exact h2) (by rw [toEv_length]; omega), if_true, bne_self_eq_false, Bool.false_eq_true, if_false]
end Go.Proofs.YtkafmfabkbmpbaaDoor.G
