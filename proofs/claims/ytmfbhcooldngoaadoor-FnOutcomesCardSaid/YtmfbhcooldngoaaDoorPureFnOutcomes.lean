/- FnOutcomes: for every code, a task that is done or fails has only done needs, and a skipped one has another one. Nothing is assumed. -/
import Derived.Test.YtmfbhcooldngoaaDoorQOutL
import Derived.Test.YtmfbhcooldngoaaDoorQAny
import Derived.Test.YtmfbhcooldngoaaDoorQEqualInts
import Derived.Test.YtmfbhcooldngoaaDoorLFnOutcomes
import Derived.Test.YtmfbhcooldngoaaDoorG0
import Derived.Test.YtmfbhcooldngoaaDoorG3
import Derived.Test.YtmfbhcooldngoaaDoorG5
import Derived.Test.YtmfbhcooldngoaaDoorLFnOutcomes
namespace Go.Proofs.YtmfbhcooldngoaaDoor.G
open Go.RowKit Go.Proofs.YtmfbhcooldngoaaDoorW.PrintWords Go.Proofs.YtmfbhcooldngoaaDoorW.PrintLast Go.Proofs.YtmfbhcooldngoaaDoorW.PrintMore C
set_option linter.unusedVariables false
set_option linter.unusedSimpArgs false

theorem oc_l1 {g : List S40} {s out : List Int} (hg : gok g = true) (hlo : out.length = g.length) {i : Nat} (hi : i < g.length) : ∀ (rest pre : List Int) (b : Bool) (k : Nat), (rd_T40 g (i : Int)).f1 = pre ++ rest → rest.length < k →
  laws_FnOutcomes.l1 k g s out (i : Int) b (pre.length : Int) = laws_FnOutcomes.l1 (k - rest.length) g s out (i : Int) (b && rest.all (fun x => decide (out.getD x.toNat 0 = 0))) ((rd_T40 g (i : Int)).f1.length : Int) := by
 have h8 := gok8 hg
 obtain ⟨hn8, h0⟩ := needs_len (gok_fine hg) hi
 intro rest
 induction rest with
 | nil =>
  intro pre b k e hk
  have : pre = (rd_T40 g (i : Int)).f1 := by rw [e]; simp
  rw [← this]
  simp
 | cons x r ih =>
  intro pre b k e hk
  obtain ⟨k, rfl⟩ : ∃ m, k = m + 1 := ⟨k - 1, by omega⟩
  simp only [List.length_cons] at hk
  have hlt : pre.length < (rd_T40 g (i : Int)).f1.length := by rw [e]; simp
  have hx0 := h0 x (by rw [e]; simp)
  have hxn := nds_lt (gok_fine hg) hi (k := x.toNat) (List.mem_map.2 ⟨x, by rw [e]; simp, rfl⟩)
  have hrd : rd (rd_T40 g (i : Int)).f1 (pre.length : Int) = x := by rw [e]; exact rd_app _ _ _
  have hih := fun b => ih (pre ++ [x]) b k (by rw [e]; simp) (by omega)
  have ek : k + 1 - (x :: r).length = k - r.length := by simp only [List.length_cons]; omega
  rw [laws_FnOutcomes.l1, if_pos (by omega), if_pos (by omega), if_pos (by omega), hrd, nx (m := 8) (by omega) (by omega), show pre.length + 1 = (pre ++ [x]).length by simp, ek, List.all_cons]
  cases b with
  | true =>
   have hb : (rd out x == 0) = decide (out.getD x.toNat 0 = 0) := by
    show (out.getD x.toNat 0 == 0) = _
    by_cases q : out.getD x.toNat 0 = 0
    ·rw [q]; rfl
    ·rw [decide_eq_false q]
     exact beq_eq_false_iff_ne.2 q
   rw [if_pos rfl, if_pos (by omega), if_pos (by omega), if_pos (by omega), hih, hb, Bool.true_and]
  | false =>
   rw [if_neg (by decide), hih]
   rfl
theorem oc_end {g : List S40} {s out : List Int} {kI : Int} (c : sok g s = true) (hk1 : 1 ≤ kI) (ho : out = outL g s kI) (hlo : out.length = g.length) {i : Nat} (hi : i < g.length) (k : Nat) (hk : 20 ≤ k) (b : Bool) (hb : b = true ↔ ∀ j, j ∈ nds g i → out.getD j 0 = 0) :
  laws_FnOutcomes.l1 (k + 1) g s out (i : Int) b ((rd_T40 g (i : Int)).f1.length : Int) = laws_FnOutcomes.l0 k g s out ((i + 1 : Nat) : Int) := by
 have hg := (sok_partsO c).1
 have h8 := gok8 hg
 have hsl := asc_len8O c
 have hin : laws_isIn.f k s (i : Int) = some (s.contains (i : Int)) := lIsInO_eq (by omega) _ _ (by omega)
 have hro : rd out (i : Int) = out.getD i 0 := rd_nat _ _
 rw [laws_FnOutcomes.l1, if_pos (by omega), if_pos (by omega), if_neg (by omega), if_pos (by omega), hro, nx (m := 8) (by omega) (by omega), hin]
 simp only [Option.bind_some]
 have hv := outL_val c hk1 hi
 rw [← ho] at hv
 rcases hv with ⟨a, b1, b2⟩ | ⟨a, b1, b2⟩ | ⟨a, j, b1, b2⟩ | ⟨a, b1⟩
 ·rw [a, if_pos rfl, if_pos (hb.2 b1), if_neg (by simpa using b2), if_neg (by decide), if_neg (by decide)]
 ·rw [a, if_neg (by decide), if_pos rfl, if_pos (hb.2 b1), if_pos (by simpa using b2), if_neg (by decide)]
 ·rw [a, if_neg (by decide), if_neg (by decide), if_pos rfl, if_neg (fun e => b2 (hb.1 e j b1))]
 ·rw [a, if_neg (by decide), if_neg (by decide), if_neg (by decide)]
theorem oc_l0 {g : List S40} {s out : List Int} {kI : Int} (c : sok g s = true) (hk1 : 1 ≤ kI) (ho : out = outL g s kI) (hlo : out.length = g.length) : ∀ (d i k : Nat), i + d = g.length → d * 20 + 50 ≤ k → laws_FnOutcomes.l0 k g s out (i : Int) = some true := by
 have hg := (sok_partsO c).1
 have h8 := gok8 hg
 intro d
 induction d with
 | zero =>
  intro i k hi hk
  obtain ⟨k, rfl⟩ : ∃ m, k = m + 1 := ⟨k - 1, by omega⟩
  rw [laws_FnOutcomes.l0, if_neg (by omega)]
 | succ d ih =>
  intro i k hi hk
  obtain ⟨k, rfl⟩ : ∃ m, k = m + 1 := ⟨k - 1, by omega⟩
  have hin : i < g.length := by omega
  obtain ⟨hn8, h0⟩ := needs_len (gok_fine hg) hin
  rw [laws_FnOutcomes.l0, if_pos (by omega)]
  have h := oc_l1 (s := s) hg hlo hin (rd_T40 g (i : Int)).f1 [] true k rfl (by omega)
  rw [show ((([] : List Int).length : Nat) : Int) = 0 from rfl] at h
  rw [h]
  obtain ⟨q, hq⟩ : ∃ q, k - (rd_T40 g (i : Int)).f1.length = q + 1 := ⟨k - (rd_T40 g (i : Int)).f1.length - 1, by omega⟩
  rw [hq, oc_end c hk1 ho hlo hin q (by omega) _ (by
   rw [Bool.true_and, List.all_eq_true]
   unfold nds
   constructor
   ·intro h j hj
    obtain ⟨x, hx, rfl⟩ := List.mem_map.1 hj
    simpa using h x hx
   ·intro h x hx
    simpa using h _ (List.mem_map.2 ⟨x, hx, rfl⟩))]
  exact ih (i + 1) q (by omega) (by omega)
theorem pureFnOutcomes : laws_FnOutcomes.Pure := by
 intro l hm hl hw
 obtain ⟨k, hk⟩ : ∃ k, 2000 ≤ k := ⟨2000, Nat.le_refl _⟩
 refine ⟨k, ?_⟩
 unfold laws_FnOutcomes.f
 by_cases h1 : (l.length : Int) > 1048576
 ·rw [if_pos h1]
 rw [if_neg h1]
 obtain ⟨g, s, kp, hd, hsm, hsl, _⟩ := drawOutcomes l hw
 have hsmall : Small 100 g := ⟨Nat.le_trans hsm.len (by decide), fun t ht => Nat.le_trans (hsm.nd t ht) (by decide)⟩
 obtain ⟨m, rfl⟩ : ∃ m, k = m + 1 := ⟨k - 1, by omega⟩
 obtain ⟨out, hv, hlen, hcase⟩ := outcomes_val g s kp
 have hspec : ∀ k, 900 ≤ k → spec_Outcomes.f k g s kp = some out := fun k hk => (specOutcomes_eq (B := 100) (by decide) hsmall (by omega) k (by omega)).trans hv
 simp only [hd, Option.bind_some, hv, hspec (m + 1) (by omega), eqI_refl out (m + 1) (by omega) (by omega), if_true]
 rcases hcase with ⟨c, d1, d2, ho, hlo⟩ | ho
 ·have e : ((out.length : Int) != (g.length : Int)) = false := by rw [hlo]; simp
  rw [e, laws_FnOutcomes.j0, if_neg (by decide)]
  exact oc_l0 c d1 ho hlo g.length 0 m (by omega) (by have := gok8 (sok_partsO c).1; omega)
 ·subst ho
  cases e : ((([] : List Int).length : Int) != (g.length : Int)) with
  | true =>
   rw [laws_FnOutcomes.j0, if_pos rfl]
   simp only [hspec m (by omega), Option.bind_some, eqI_refl [] m (by simp) (by simp; omega)]
  | false =>
   have hz : g.length = 0 := by
    have h : (0 : Int) = (g.length : Int) := bne_eq_false_iff_eq.1 e
    omega
   rw [laws_FnOutcomes.j0, if_neg (by decide)]
   obtain ⟨q, rfl⟩ : ∃ q, m = q + 1 := ⟨m - 1, by omega⟩
   rw [laws_FnOutcomes.l0, if_neg (by omega)]
end Go.Proofs.YtmfbhcooldngoaaDoor.G
