/- FnBlamedForSelf: for every code, who is to blame is in the failing set, and a task without needs can blame itself alone. Nothing is assumed. -/
import Derived.Test.YtmfbhcooldngoaaDoorQBl
import Derived.Test.YtmfbhcooldngoaaDoorQAny
import Derived.Test.YtmfbhcooldngoaaDoorQEqualInts
import Derived.Test.YtmfbhcooldngoaaDoorLFnBlamedForSelf
import Derived.Test.YtmfbhcooldngoaaDoorG0
import Derived.Test.YtmfbhcooldngoaaDoorG4
import Derived.Test.YtmfbhcooldngoaaDoorLFnBlamedForSelf
namespace Go.Proofs.YtmfbhcooldngoaaDoor.G
open Go.RowKit Go.Proofs.YtmfbhcooldngoaaDoorW.PrintWords Go.Proofs.YtmfbhcooldngoaaDoorW.PrintLast Go.Proofs.YtmfbhcooldngoaaDoorW.PrintMore C
set_option linter.unusedVariables false
set_option linter.unusedSimpArgs false

theorem pureFnBlamedForSelf : laws_FnBlamedForSelf.Pure := by
 intro l hm hl hw
 obtain ⟨k, hk⟩ : ∃ k, 2000 ≤ k := ⟨2000, Nat.le_refl _⟩
 refine ⟨k, ?_⟩
 unfold laws_FnBlamedForSelf.f
 by_cases h1 : (l.length : Int) > 1048576
 ·rw [if_pos h1]
 rw [if_neg h1]
 obtain ⟨g, s, a, hd, hsm, hsl⟩ := drawBlamed l hw
 have hsmall : Small 100 g := ⟨Nat.le_trans hsm.len (by decide), fun t ht => Nat.le_trans (hsm.nd t ht) (by decide)⟩
 obtain ⟨m, rfl⟩ : ∃ m, k = m + 1 := ⟨k - 1, by omega⟩
 obtain ⟨v, hv, hcase⟩ := blamed_val g s a
 have hspec : ∀ k, 950 ≤ k → spec_BlamedFor.f k g s a = some v := fun k hk => (specBlamed_eq (B := 100) (by decide) hsmall (by omega) a k (by omega)).trans hv
 have htriv : laws_FnBlamedForSelf.j0 (m + 1) g s a v true = some true := by
  rw [laws_FnBlamedForSelf.j0, if_pos rfl, hspec m (by omega)]
  simp
 simp only [hd, Option.bind_some, hv, hspec (m + 1) (by omega), if_true]
 by_cases q : v < 0
 ·rw [show decide (v < 0) = true from decide_eq_true q]
  exact htriv
 ·rw [show decide (v < 0) = false from decide_eq_false q, laws_FnBlamedForSelf.j0, if_neg (by decide)]
  rcases hcase with ⟨c, i, rfl, hi, rfl⟩ | ⟨hno, rfl⟩
  ·have hg := (sok_partsO c).1
   have h8 := gok8 hg
   rcases blame_cases g s i with ⟨e, hall⟩ | ⟨x, hx, h1x, e⟩
   ·rw [e] at q
    exact absurd (by decide) q
   ·have hxn := elems_lt h8 (blm_lt hg hi) hx
    have hx' := (mem_blm hg hi).1 hx
    have hin := blame_in c hxn h1x
    rw [e, lIsInO_eq (by omega) _ _ (by omega)]
    simp only [Option.bind_some]
    rw [if_pos (by simpa using hin), if_pos (by omega), if_pos (by omega)]
    by_cases z : (((rd_T40 g (i : Int)).f1.length : Nat) : Int) > 0
    ·rw [if_pos z]
    ·rw [if_neg z]
     rcases hx' with rfl | hr
     ·simp
     ·obtain ⟨j, hj, _⟩ := reach_iff.1 hr
      unfold nds at hj
      have hz : (rd_T40 g (i : Int)).f1 = [] := List.length_eq_zero_iff.1 (by omega)
      rw [hz] at hj
      cases hj
  ·exact absurd (by decide) q
end Go.Proofs.YtmfbhcooldngoaaDoor.G
