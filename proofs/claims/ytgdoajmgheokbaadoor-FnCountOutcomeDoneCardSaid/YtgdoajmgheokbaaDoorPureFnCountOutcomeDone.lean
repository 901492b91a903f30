/- FnCountOutcomeDone: for every code, the tasks that come out done are a valid done set, as many as counted. Nothing is assumed. -/
import Derived.Test.YtgdoajmgheokbaaDoorQOutL
import Derived.Test.YtgdoajmgheokbaaDoorQDone
import Derived.Test.YtgdoajmgheokbaaDoorQAny
import Derived.Test.YtgdoajmgheokbaaDoorLFnCountOutcomeDone
import Derived.Test.YtgdoajmgheokbaaDoorG0
import Derived.Test.YtgdoajmgheokbaaDoorG8
import Derived.Test.YtgdoajmgheokbaaDoorLFnCountOutcomeDone
namespace Go.Proofs.YtgdoajmgheokbaaDoor.G
open Go.RowKit Go.Proofs.YtgdoajmgheokbaaDoorW.PrintWords Go.Proofs.YtgdoajmgheokbaaDoorW.PrintLast Go.Proofs.YtgdoajmgheokbaaDoorW.PrintMore C
set_option linter.unusedVariables false
set_option linter.unusedSimpArgs false

theorem cd_l0 {g : List S74} {s : List Int} {kI : Int} {out : List Int} (h8 : out.length ≤ 8) : ∀ (d i k : Nat), i + d = out.length → d + 30 ≤ k →
  laws_FnCountOutcomeDone.l0 k g s kI out (castL (upto (fun j => decide (out.getD j 0 = 0)) i)) (i : Int) = laws_FnCountOutcomeDone.l0 (k - d) g s kI out (castL (upto (fun j => decide (out.getD j 0 = 0)) out.length)) (out.length : Int) := by
 intro d
 induction d with
 | zero =>
  intro i k hi hk
  obtain rfl : i = out.length := by omega
  rfl
 | succ d ih =>
  intro i k hi hk
  obtain ⟨k, rfl⟩ : ∃ m, k = m + 1 := ⟨k - 1, by omega⟩
  have hl := upto_len (fun j => decide (out.getD j 0 = 0)) i
  have hn := upto_succ (fun j => decide (out.getD j 0 = 0)) i
  have hih := ih (i + 1) k (by omega) (by omega)
  rw [laws_FnCountOutcomeDone.l0, if_pos (by omega), if_pos (by omega), rd_nat, nx (m := 8) (by omega) (by omega), show k + 1 - (d + 1) = k - d by omega]
  by_cases c : out.getD i 0 = 0
  ·rw [if_pos c, castL_length, if_pos (by omega), ← castL_snoc]
   rw [if_pos (decide_eq_true c)] at hn
   rw [hn] at hih
   exact hih
  ·rw [if_neg c]
   rw [if_neg (by simpa using c)] at hn
   rw [hn] at hih
   exact hih
theorem upto_cnt (l : List Int) (c : Int) : (upto (fun j => decide (l.getD j 0 = c)) l.length).length = cntK l c := by
 have e : (List.range l.length).map (fun j => l.getD j 0) = l := by
  refine List.ext_getElem (by simp) (fun i h1 h2 => ?_)
  simp [List.getElem?_eq_getElem h2]
 unfold cntK upto
 conv => rhs; rw [← e, List.filter_map, List.length_map]
 congr 1
theorem pureFnCountOutcomeDone : laws_FnCountOutcomeDone.Pure := by
 intro l hm hl hw
 obtain ⟨k, hk⟩ : ∃ k, 2000 ≤ k := ⟨2000, Nat.le_refl _⟩
 refine ⟨k, ?_⟩
 unfold laws_FnCountOutcomeDone.f
 by_cases h1 : (l.length : Int) > 1048576
 ·rw [if_pos h1]
 rw [if_neg h1]
 obtain ⟨g, s, kp, kd, hd, hsm, hsl, hkp0, hkp9⟩ := drawCount l hw
 have hsmall : Small 100 g := ⟨Nat.le_trans hsm.len (by decide), fun t ht => Nat.le_trans (hsm.nd t ht) (by decide)⟩
 obtain ⟨m, rfl⟩ : ∃ m, k = m + 1 := ⟨k - 1, by omega⟩
 obtain ⟨v, hv, hcase⟩ := count_val g s kp kd
 have hspec : ∀ k, 1000 ≤ k → spec_CountOutcome.f k g s kp kd = some v := fun k hk => (specCount_eq (B := 100) (by decide) hsmall (by omega) k (by omega)).trans hv
 simp only [hd, Option.bind_some, hv, hspec (m + 1) (by omega), if_true]
 rcases hcase with ⟨c, d1, d2, q1, q2, rfl⟩ | rfl
 ·have hg := (sok_partsO c).1
  have h8 := gok8 hg
  have hlen := outL_len (l1 := s) (kI := kp) hg
  have e0 := count_of c ⟨d1, d2⟩ (show (0 : Int) ≤ 0 ∧ (0 : Int) ≤ 3 by decide)
  have eo : impl_Outcomes.f g s kp = some (outL g s kp) := by
   unfold impl_Outcomes.f ook
   rw [c, decide_eq_true ⟨d1, d2⟩]
   rfl
  rw [decide_eq_false (by omega), laws_FnCountOutcomeDone.j0, if_neg (by decide), eo]
  simp only [Option.bind_some]
  refine (cd_l0 (g := g) (s := s) (kI := kp) (out := outL g s kp) (by omega) (outL g s kp).length 0 m (by omega) (by omega)).trans ?_
  obtain ⟨q, hq⟩ : ∃ q, m - (outL g s kp).length = q + 1 := ⟨m - (outL g s kp).length - 1, by omega⟩
  rw [hq, laws_FnCountOutcomeDone.l0, if_neg (by omega), e0]
  simp only [Option.bind_some]
  rw [castL_length, upto_cnt, if_pos rfl]
  show some (dok g (castL _)) = some true
  congr 1
  refine dok_mk hg (upto_sorted _ _) (fun i hi => by have := (mem_upto.1 hi).1; omega) (fun i hi j hj => ?_)
  obtain ⟨hin, hp⟩ := mem_upto.1 hi
  have hjn := nds_lt (gok_fine hg) (show i < g.length by omega) hj
  refine mem_upto.2 ⟨by omega, decide_eq_true ?_⟩
  have h0 := of_decide_eq_true hp
  rcases outL_val c d1 (show i < g.length by omega) with ⟨a, b, _⟩ | ⟨a, _⟩ | ⟨a, _⟩ | ⟨a, _⟩
  ·exact b j hj
  ·rw [a] at h0; cases h0
  ·rw [a] at h0; cases h0
  ·rw [a] at h0; cases h0
 ·rw [decide_eq_true (by decide), laws_FnCountOutcomeDone.j0, if_pos rfl]
  simp only [hspec m (by omega), Option.bind_some]
  rfl
end Go.Proofs.YtgdoajmgheokbaaDoor.G
