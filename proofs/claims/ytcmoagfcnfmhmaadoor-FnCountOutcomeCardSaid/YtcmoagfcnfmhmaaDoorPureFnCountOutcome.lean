/- FnCountOutcome: for every code, the numbers of tasks of all outcomes add up to that of all tasks. Nothing is assumed. -/
import Derived.Test.YtcmoagfcnfmhmaaDoorQOutL
import Derived.Test.YtcmoagfcnfmhmaaDoorQAny
import Derived.Test.YtcmoagfcnfmhmaaDoorLFnCountOutcome
import Derived.Test.YtcmoagfcnfmhmaaDoorG0
import Derived.Test.YtcmoagfcnfmhmaaDoorG5
import Derived.Test.YtcmoagfcnfmhmaaDoorLFnCountOutcome
namespace Go.Proofs.YtcmoagfcnfmhmaaDoor.G
open Go.RowKit Go.Proofs.YtcmoagfcnfmhmaaDoorW.PrintWords Go.Proofs.YtcmoagfcnfmhmaaDoorW.PrintLast Go.Proofs.YtcmoagfcnfmhmaaDoorW.PrintMore C
set_option linter.unusedVariables false
set_option linter.unusedSimpArgs false

theorem cnt_step {g : List S53} {s : List Int} {kp x7 : Int} {i a c : Nat} (hi : i ≤ 3) (ha : a ≤ 100) (hc : c ≤ 100) (e : impl_CountOutcome.f g s kp (i : Int) = some (c : Int)) (k : Nat) :
  laws_FnCountOutcome.l0 (k + 1) g s kp x7 (a : Int) (i : Int) = laws_FnCountOutcome.l0 k g s kp x7 ((a + c : Nat) : Int) ((i + 1 : Nat) : Int) := by
 have h1 : wrap64 ((a : Int) + (c : Int)) = ((a + c : Nat) : Int) := by rw [w64 (by omega) (by omega), Int.natCast_add]
 have h2 : wrap64 ((i : Int) + 1) = ((i + 1 : Nat) : Int) := nx (m := 10) (by omega) (by omega)
 rw [laws_FnCountOutcome.l0, if_pos (by omega), e]
 simp only [Option.bind_some]
 rw [h1, h2]
theorem cnt_end {g : List S53} {s : List Int} {kp x7 : Int} {a : Nat} (ha : a = g.length) (hx : x7 ≤ (g.length : Int)) (k : Nat) : laws_FnCountOutcome.l0 (k + 1) g s kp x7 (a : Int) ((4 : Nat) : Int) = some true := by
 rw [laws_FnCountOutcome.l0, if_neg (by omega), if_pos (by omega), decide_eq_true (by omega)]
theorem pureFnCountOutcome : laws_FnCountOutcome.Pure := by
 intro l hm hl hw
 obtain ⟨k, hk⟩ : ∃ k, 2000 ≤ k := ⟨2000, Nat.le_refl _⟩
 refine ⟨k, ?_⟩
 unfold laws_FnCountOutcome.f
 by_cases h1 : (l.length : Int) > 1048576
 ·rw [if_pos h1]
 rw [if_neg h1]
 obtain ⟨g, s, kp, kd, hd, hsm, hsl, hkp0, hkp9⟩ := drawCount l hw
 have hsmall : Small 100 g := ⟨Nat.le_trans hsm.len (by decide), fun t ht => Nat.le_trans (hsm.nd t ht) (by decide)⟩
 obtain ⟨m, rfl⟩ : ∃ m, k = m + 1 := ⟨k - 1, by omega⟩
 obtain ⟨v, hv, hcase⟩ := count_val g s kp kd
 have hspec : ∀ k, 1000 ≤ k → spec_CountOutcome.f k g s kp kd = some v := fun k hk => (specCount_eq (B := 100) (by decide) hsmall (by omega) k (by omega)).trans hv
 simp only [hd, Option.bind_some, hv, hspec (m + 1) (by omega), if_true]
 rcases hcase with ⟨c, d1, d2, q1, q2, rfl⟩ | rfl
 ·have hg := (sok_partsO c).1
  have h8 := gok8 hg
  have hlen := outL_len (l1 := s) (kI := kp) hg
  have h4 := cntK_four (outL g s kp) (outL_rng c d1)
  have e0 := count_of c ⟨d1, d2⟩ (show (0 : Int) ≤ 0 ∧ (0 : Int) ≤ 3 by decide)
  have e1 := count_of c ⟨d1, d2⟩ (show (0 : Int) ≤ 1 ∧ (1 : Int) ≤ 3 by decide)
  have e2 := count_of c ⟨d1, d2⟩ (show (0 : Int) ≤ 2 ∧ (2 : Int) ≤ 3 by decide)
  have e3 := count_of c ⟨d1, d2⟩ (show (0 : Int) ≤ 3 ∧ (3 : Int) ≤ 3 by decide)
  have hle := cntK_le (outL g s kp) kd
  rw [decide_eq_false (by omega), laws_FnCountOutcome.j0, if_neg (by decide)]
  have l0 := cntK_le (outL g s kp) 0
  have l1 := cntK_le (outL g s kp) 1
  have l2 := cntK_le (outL g s kp) 2
  have l3 := cntK_le (outL g s kp) 3
  obtain ⟨q, hq⟩ : ∃ q, m = q + 5 := ⟨m - 5, by omega⟩
  rw [hq]
  have s0 := cnt_step (x7 := ((cntK (outL g s kp) kd : Nat) : Int)) (i := 0) (a := 0) (by decide) (by decide) (by omega) e0 (q + 4)
  have s1 := cnt_step (x7 := ((cntK (outL g s kp) kd : Nat) : Int)) (i := 1) (a := 0 + cntK (outL g s kp) 0) (by decide) (by omega) (by omega) e1 (q + 3)
  have s2 := cnt_step (x7 := ((cntK (outL g s kp) kd : Nat) : Int)) (i := 2) (a := 0 + cntK (outL g s kp) 0 + cntK (outL g s kp) 1) (by decide) (by omega) (by omega) e2 (q + 2)
  have s3 := cnt_step (x7 := ((cntK (outL g s kp) kd : Nat) : Int)) (i := 3) (a := 0 + cntK (outL g s kp) 0 + cntK (outL g s kp) 1 + cntK (outL g s kp) 2) (by decide) (by omega) (by omega) e3 (q + 1)
  have s4 := cnt_end (g := g) (s := s) (kp := kp) (x7 := ((cntK (outL g s kp) kd : Nat) : Int)) (a := 0 + cntK (outL g s kp) 0 + cntK (outL g s kp) 1 + cntK (outL g s kp) 2 + cntK (outL g s kp) 3) (by omega) (by omega) q
  exact s0.trans (s1.trans (s2.trans (s3.trans s4)))
 ·rw [decide_eq_true (by decide), laws_FnCountOutcome.j0, if_pos rfl]
  simp only [hspec m (by omega), Option.bind_some]
  rfl
end Go.Proofs.YtcmoagfcnfmhmaaDoor.G
