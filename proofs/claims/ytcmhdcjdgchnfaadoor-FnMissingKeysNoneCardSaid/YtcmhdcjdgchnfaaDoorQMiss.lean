/-
 MissingKeys: the reference answers what the program answers.
-/
import Derived.Test.YtcmhdcjdgchnfaaDoorHMiss
import Derived.Test.YtcmhdcjdgchnfaaDoorQKeys
import Derived.Test.YtcmhdcjdgchnfaaDoorG0
import Derived.Test.YtcmhdcjdgchnfaaDoorG2
import Derived.Test.YtcmhdcjdgchnfaaDoorG5
namespace Go.Proofs.YtcmhdcjdgchnfaaDoor.G
open Go.RowKit Go.Proofs.YtcmhdcjdgchnfaaDoorW.PrintWords Go.Proofs.YtcmhdcjdgchnfaaDoorW.PrintLast Go.Proofs.YtcmhdcjdgchnfaaDoorW.PrintMore C
set_option linter.unusedVariables false
set_option linter.unusedSimpArgs false

theorem missing_l0 {g : List S69} {ks l2 : List Int} (h8 : g.length ≤ 8) (hks : ks.length = g.length) (hl2 : l2.length ≤ 20) : ∀ (d i k : Nat), i + d = g.length → d + 30 ≤ k →
  spec_MissingKeys.l0 k g l2 (castL (missTo ks l2 i)) ks (i : Int) = some (castL (missTo ks l2 g.length)) := by
 intro d
 induction d with
 | zero =>
  intro i k hi hk
  obtain ⟨k, rfl⟩ : ∃ m, k = m + 1 := ⟨k - 1, by omega⟩
  rw [spec_MissingKeys.l0, if_neg (by omega), show i = g.length by omega]
 | succ d ih =>
  intro i k hi hk
  obtain ⟨k, rfl⟩ : ∃ m, k = m + 1 := ⟨k - 1, by omega⟩
  have hs := missTo_succ ks l2 i
  have hl := missTo_len ks l2 i
  rw [spec_MissingKeys.l0, if_pos (by omega), if_pos (by omega), if_pos (by omega), rd_nat, isIn_eq (by omega) _ _ (by omega)]
  simp only [Option.bind_some]
  have hih := ih (i + 1) k (by omega) (by omega)
  by_cases c : l2.contains (ks.getD i 0) = true
  ·rw [if_pos c, nx (m := 8) (by omega) (by omega)]
   rw [hs, if_pos c] at hih
   exact hih
  ·rw [if_neg c, if_pos (by rw [castL_length]; omega), nx (m := 8) (by omega) (by omega)]
   rw [hs, if_neg c, castL_snoc] at hih
   exact hih
theorem specMissing_eq {g : List S69} {inp st : List Int} {B : Nat} (hB : B ≤ 4611686018427387904) (hs : Small B g) (hl : inp.length ≤ B) (k : Nat) (hk : 2 * B + 700 < k) : spec_MissingKeys.f k g inp st = impl_MissingKeys.f g inp st := by
 unfold spec_MissingKeys.f impl_MissingKeys.f
 simp only [Option.bind_some]
 rw [validInputs_eq hB hs hl k (by omega)]
 simp only [Option.bind_some]
 obtain ⟨k, rfl⟩ : ∃ m, k = m + 1 := ⟨k - 1, by omega⟩
 by_cases c : vin g inp = true
 ·obtain ⟨h1, h2, h3⟩ := vin_parts c
  have h8 := gok8 h1
  have hol := ord_len h1
  have hkl := keysN_len (ndm g) inp g.length (ord g)
  have hko : keysOr g inp = keysN (ndm g) inp g.length (ord g) := by unfold keysOr; rw [if_pos c]
  rw [if_pos c, hko, spec_MissingKeys.j0]
  by_cases d : st.length ≤ 20
  ·rw [if_neg (by simp; omega), if_pos ⟨hkl, d, h1⟩]
   have hkeys : spec_keys.f k g inp = some (keysN (ndm g) inp g.length (ord g)) := by
    unfold spec_keys.f
    rw [if_pos (by omega), if_pos (by omega), topOrder_eq (gok_fine h1) k (by omega)]
    simp only [Option.bind_some]
    rw [Int.toNat_natCast]
    have h := keys_l0 h1 h2 h3 (ord g) [] k rfl (by omega)
    rw [show keysN (ndm g) inp g.length [] = List.replicate g.length 0 from rfl, show ((([] : List Nat).length : Nat) : Int) = 0 from rfl] at h
    exact h
   rw [hkeys]
   simp only [Option.bind_some]
   have h := missing_l0 (l2 := st) h8 hkl d g.length 0 k (by omega) (by omega)
   unfold miss
   rw [hkl]
   exact h
  ·rw [if_pos (by simp; omega), if_neg (fun h => d h.2.1)]
 ·have hko : keysOr g inp = [] := by unfold keysOr; rw [if_neg c]
  rw [if_neg c, hko, spec_MissingKeys.j0, if_pos rfl]
  split
  ·rfl
  ·rfl
theorem missing_val (g : List S69) (inp st : List Int) : ∃ r, impl_MissingKeys.f g inp st = some r ∧ r.length ≤ 8 := by
 unfold impl_MissingKeys.f
 refine ⟨_, rfl, ?_⟩
 split
 ·unfold miss
  rw [castL_length]
  have := missTo_len (keysOr g inp) st (keysOr g inp).length
  have := keysOr_len g inp
  omega
 ·simp
end Go.Proofs.YtcmhdcjdgchnfaaDoor.G
