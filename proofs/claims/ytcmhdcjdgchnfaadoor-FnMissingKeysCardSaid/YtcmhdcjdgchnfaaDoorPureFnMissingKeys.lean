/- FnMissingKeys: for every code, a task's key is missing just if it is not stored, and with all keys stored none is missing. Nothing is assumed. -/
import Derived.Test.YtcmhdcjdgchnfaaDoorQDrawM
import Derived.Test.YtcmhdcjdgchnfaaDoorQStaleL
import Derived.Test.YtcmhdcjdgchnfaaDoorQEqualInts
import Derived.Test.YtcmhdcjdgchnfaaDoorLFnMissingKeys
import Derived.Test.YtcmhdcjdgchnfaaDoorG0
import Derived.Test.YtcmhdcjdgchnfaaDoorG5
import Derived.Test.YtcmhdcjdgchnfaaDoorLFnMissingKeys
namespace Go.Proofs.YtcmhdcjdgchnfaaDoor.G
open Go.RowKit Go.Proofs.YtcmhdcjdgchnfaaDoorW.PrintWords Go.Proofs.YtcmhdcjdgchnfaaDoorW.PrintLast Go.Proofs.YtcmhdcjdgchnfaaDoorW.PrintMore C
set_option linter.unusedVariables false
set_option linter.unusedSimpArgs false

theorem mk_l0 {g : List S69} {s st ks : List Int} (h8 : ks.length ≤ 8) (hst : st.length ≤ 21) (hend : ∃ e, impl_MissingKeys.f g s ks = some e ∧ e.length = 0) : ∀ (d i k : Nat), i + d = ks.length → d + 60 ≤ k → laws_FnMissingKeys.l0 k g s st (miss ks st) ks (i : Int) = some true := by
 intro d
 induction d with
 | zero =>
  intro i k hi hk
  obtain ⟨k, rfl⟩ : ∃ m, k = m + 1 := ⟨k - 1, by omega⟩
  obtain ⟨e, he, h0⟩ := hend
  rw [laws_FnMissingKeys.l0, if_neg (by omega), he]
  simp only [Option.bind_some, h0]
  rfl
 | succ d ih =>
  intro i k hi hk
  obtain ⟨k, rfl⟩ : ∃ m, k = m + 1 := ⟨k - 1, by omega⟩
  have hml : (miss ks st).length ≤ 8 := by
   unfold miss
   rw [castL_length]
   have := missTo_len ks st ks.length
   omega
  rw [laws_FnMissingKeys.l0, if_pos (by omega), lIsIn_eq (by omega) _ _ (by omega)]
  simp only [Option.bind_some]
  rw [if_pos (by omega), rd_nat, lIsIn_eq (by omega) _ _ (by omega), miss_mem (by omega)]
  simp only [Option.bind_some]
  rw [if_neg (by cases st.contains (ks.getD i 0) <;> decide), nx (m := 8) (by omega) (by omega)]
  exact ih (i + 1) k (by omega) (by omega)
theorem pureFnMissingKeys : laws_FnMissingKeys.Pure := by
 intro l hm hl hw
 obtain ⟨k, hk⟩ : ∃ k, 2000 ≤ k := ⟨2000, Nat.le_refl _⟩
 refine ⟨k, ?_⟩
 unfold laws_FnMissingKeys.f
 by_cases h1 : (l.length : Int) > 1048576
 ·rw [if_pos h1]
 rw [if_neg h1]
 obtain ⟨g, s, st, hd, hsm, hsl, hst⟩ := drawMissingKeys l hw
 have hsmall : Small 100 g := ⟨Nat.le_trans hsm.len (by decide), fun t ht => Nat.le_trans (hsm.nd t ht) (by decide)⟩
 obtain ⟨m, rfl⟩ : ∃ m, k = m + 1 := ⟨k - 1, by omega⟩
 obtain ⟨r, hv, h8⟩ := missing_val g s st
 have hk8 := keysOr_len g s
 have hspec : ∀ k, 950 ≤ k → spec_MissingKeys.f k g s st = some r := fun k hk => (specMissing_eq (B := 100) (by decide) hsmall (by omega) k (by omega)).trans hv
 simp only [hd, Option.bind_some, hv, keysOr_val, hspec (m + 1) (by omega), eqI_refl r (m + 1) (by omega) (by omega), if_true]
 have hout : laws_FnMissingKeys.j0 (m + 1) g s st r (keysOr g s) true = some true := by
  rw [laws_FnMissingKeys.j0, if_pos rfl]
  simp only [hspec m (by omega), Option.bind_some, eqI_refl r m (by omega) (by omega)]
 by_cases c : ((keysOr g s).length : Int) = (g.length : Int)
 ·rw [if_pos c]
  by_cases c2 : st.length ≤ 20
  ·rw [decide_eq_false (by omega), laws_FnMissingKeys.j0, if_neg (by decide)]
   have hg : gok g = true := by
    by_cases cv : vin g s = true
    ·exact (vin_parts cv).1
    ·refine gok_nil ?_
     have : keysOr g s = [] := by unfold keysOr; rw [if_neg cv]
     rw [this] at c
     simp at c
     omega
   have hr : r = miss (keysOr g s) st := by
    unfold impl_MissingKeys.f at hv
    rw [if_pos ⟨by omega, c2, hg⟩] at hv
    injection hv with hv
    exact hv.symm
   rw [hr]
   refine mk_l0 hk8 hst ⟨[], ?_, rfl⟩ (keysOr g s).length 0 m (by omega) (by omega)
   unfold impl_MissingKeys.f
   rw [if_pos ⟨by omega, by omega, hg⟩, miss_self]
  ·rw [decide_eq_true (by omega)]
   exact hout
 ·rw [if_neg c]
  exact hout
end Go.Proofs.YtcmhdcjdgchnfaaDoor.G
