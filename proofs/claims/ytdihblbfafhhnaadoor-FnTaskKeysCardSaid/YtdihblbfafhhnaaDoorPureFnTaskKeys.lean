/- FnTaskKeys: for every code, there is a key for each task, and each lies in 0 to 10006. Nothing is assumed. -/
import Derived.Test.YtdihblbfafhhnaaDoorQKeys
import Derived.Test.YtdihblbfafhhnaaDoorQAny
import Derived.Test.YtdihblbfafhhnaaDoorQEqualInts
import Derived.Test.YtdihblbfafhhnaaDoorLFnTaskKeys
import Derived.Test.YtdihblbfafhhnaaDoorG0
import Derived.Test.YtdihblbfafhhnaaDoorG4
import Derived.Test.YtdihblbfafhhnaaDoorLFnTaskKeys
namespace Go.Proofs.YtdihblbfafhhnaaDoor.G
open Go.RowKit Go.Proofs.YtdihblbfafhhnaaDoorW.PrintWords Go.Proofs.YtdihblbfafhhnaaDoorW.PrintLast Go.Proofs.YtdihblbfafhhnaaDoorW.PrintMore C
set_option linter.unusedVariables false
set_option linter.unusedSimpArgs false

theorem tk_l0 {g : List S31} {r : List Int} (hb : Kb r) (h8 : r.length ≤ 8) (hl : r.length = g.length) : ∀ (d i k : Nat), i + d = r.length → d + 5 ≤ k → laws_FnTaskKeys.l0 k g r (i : Int) = some true := by
 intro d
 induction d with
 | zero =>
  intro i k hi hk
  obtain ⟨k, rfl⟩ : ∃ m, k = m + 1 := ⟨k - 1, by omega⟩
  rw [laws_FnTaskKeys.l0, if_neg (by omega), hl]
  simp
 | succ d ih =>
  intro i k hi hk
  obtain ⟨k, rfl⟩ : ∃ m, k = m + 1 := ⟨k - 1, by omega⟩
  have := hb i
  rw [laws_FnTaskKeys.l0, if_pos (by omega), if_pos (by omega), rd_nat, if_neg (by omega), if_neg (by omega), nx (m := 8) (by omega) (by omega)]
  exact ih (i + 1) k (by omega) (by omega)
theorem pureFnTaskKeys : laws_FnTaskKeys.Pure := by
 intro l hm hl hw
 obtain ⟨k, hk⟩ : ∃ k, 2000 ≤ k := ⟨2000, Nat.le_refl _⟩
 refine ⟨k, ?_⟩
 unfold laws_FnTaskKeys.f
 by_cases h1 : (l.length : Int) > 1048576
 ·rw [if_pos h1]
 rw [if_neg h1]
 obtain ⟨g, s, hd, hsm, hsl⟩ := drawTaskKeys l hw
 have hsmall : Small 100 g := ⟨Nat.le_trans hsm.len (by decide), fun t ht => Nat.le_trans (hsm.nd t ht) (by decide)⟩
 obtain ⟨m, rfl⟩ : ∃ m, k = m + 1 := ⟨k - 1, by omega⟩
 obtain ⟨r, hv, h8, hb, hcase⟩ := keys_val g s
 have hspec : ∀ k, 950 ≤ k → spec_TaskKeys.f k g s = some r := fun k hk => (specKeys_eq (B := 100) (by decide) hsmall (by omega) k (by omega)).trans hv
 simp only [hd, Option.bind_some, hv, hspec (m + 1) (by omega), eqI_refl r (m + 1) (by omega) (by omega), if_true]
 cases e : ((r.length : Int) == 0) with
 | true =>
  rw [laws_FnTaskKeys.j0, if_pos rfl]
  simp only [hspec m (by omega), Option.bind_some, eqI_refl r m (by omega) (by omega)]
 | false =>
  rw [laws_FnTaskKeys.j0, if_neg (by decide)]
  rcases hcase with ⟨c, _, hl⟩ | rfl
  ·exact tk_l0 hb h8 hl r.length 0 m (by omega) (by omega)
  ·exact absurd e (by decide)
end Go.Proofs.YtdihblbfafhhnaaDoor.G
