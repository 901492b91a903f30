/-
 ProgressOf: the reference answers what the program answers.
-/
import Derived.Test.YtgdoajmgheokbaaDoorQDone
import Derived.Test.YtgdoajmgheokbaaDoorHProg
import Derived.Test.YtgdoajmgheokbaaDoorQSpec
import Derived.Test.YtgdoajmgheokbaaDoorG0
import Derived.Test.YtgdoajmgheokbaaDoorG1
import Derived.Test.YtgdoajmgheokbaaDoorG4
import Derived.Test.YtgdoajmgheokbaaDoorG9
namespace Go.Proofs.YtgdoajmgheokbaaDoor.G
open Go.RowKit Go.Proofs.YtgdoajmgheokbaaDoorW.PrintWords Go.Proofs.YtgdoajmgheokbaaDoorW.PrintLast Go.Proofs.YtgdoajmgheokbaaDoorW.PrintMore C
set_option linter.unusedVariables false
set_option linter.unusedSimpArgs false

theorem allDoneL_go {l0 l1 : List Int} (hl : l0.length ≤ 4611686018427387904) (hl1 : l1.length ≤ 4611686018427387904) : ∀ (rest pre : List Int) (k : Nat), l0 = pre ++ rest → rest.length + l1.length < k → spec_allDone.l0 k l0 l1 (pre.length : Int) = some (rest.all (fun x => l1.contains x)) := by
 intro rest
 induction rest with
 | nil =>
  intro pre k e hk
  obtain ⟨k, rfl⟩ : ∃ m, k = m + 1 := ⟨k - 1, by omega⟩
  rw [spec_allDone.l0, if_neg (by rw [e]; simp)]
  rfl
 | cons x r ih =>
  intro pre k e hk
  obtain ⟨k, rfl⟩ : ∃ m, k = m + 1 := ⟨k - 1, by omega⟩
  simp only [List.length_cons] at hk
  have hlt : pre.length < l0.length := by rw [e]; simp
  rw [spec_allDone.l0, if_pos (by omega), if_pos (by omega), show rd l0 (pre.length : Int) = x by rw [e]; exact rd_app _ _ _, nx hl hlt, isIn_eq hl1 _ _ (by omega)]
  simp only [Option.bind_some]
  have hih := ih (pre ++ [x]) k (by rw [e]; simp) (by omega)
  rw [List.length_append, List.length_singleton] at hih
  cases c : l1.contains x with
  | true => rw [if_pos rfl, hih, List.all_cons, c, Bool.true_and]
  | false => rw [if_neg (by decide), List.all_cons, c, Bool.false_and]
theorem allDoneL_eq {l0 l1 : List Int} (hl : l0.length ≤ 4611686018427387904) (hl1 : l1.length ≤ 4611686018427387904) (k : Nat) (hk : l0.length + l1.length < k) : spec_allDone.f k l0 l1 = some (l0.all (fun x => l1.contains x)) := allDoneL_go hl hl1 l0 [] k rfl hk
/-- The needs of x lie in the set. -/
def inN (l0 : List S74) (l1 : List Int) (x : Int) : Bool := (rd_T74 l0 x).f1.all (fun y => l1.contains y)
theorem validDone_go {l0 : List S74} {l1 : List Int} (hf : fine l0 = true) (ha : ascB l0.length (-1) l1 = true) (hl : l1.length ≤ 8) : ∀ (rest pre : List Int) (k : Nat), l1 = pre ++ rest → rest.length + 40 < k → spec_validDone.l0 k l0 l1 (pre.length : Int) = some (rest.all (fun x => inN l0 l1 x)) := by
 intro rest
 induction rest with
 | nil =>
  intro pre k e hk
  obtain ⟨k, rfl⟩ : ∃ m, k = m + 1 := ⟨k - 1, by omega⟩
  rw [spec_validDone.l0, if_neg (by rw [e]; simp)]
  rfl
 | cons x r ih =>
  intro pre k e hk
  obtain ⟨k, rfl⟩ : ∃ m, k = m + 1 := ⟨k - 1, by omega⟩
  simp only [List.length_cons] at hk
  have hlt : pre.length < l1.length := by rw [e]; simp
  have hx := ascB_mem ha x (by rw [e]; simp)
  obtain ⟨n1, n2⟩ := needs_len hf (show x.toNat < l0.length by omega)
  have hxe : ((x.toNat : Nat) : Int) = x := by omega
  rw [hxe] at n1
  rw [spec_validDone.l0, if_pos (by omega), if_pos (by omega), show rd l1 (pre.length : Int) = x by rw [e]; exact rd_app _ _ _, if_pos (by omega), if_pos (by omega), nx (m := 8) (by omega) (by omega), allDoneL_eq (by omega) (by omega) _ (by omega)]
  simp only [Option.bind_some]
  have hih := ih (pre ++ [x]) k (by rw [e]; simp) (by omega)
  rw [List.length_append, List.length_singleton] at hih
  show (if inN l0 l1 x = true then _ else _) = _
  cases c : inN l0 l1 x with
  | true => rw [if_pos rfl, hih, List.all_cons, c, Bool.true_and]
  | false => rw [if_neg (by decide), List.all_cons, c, Bool.false_and]
theorem asc_len8D {l0 : List S74} {l1 : List Int} (hg : gok l0 = true) (ha : ascB l0.length (-1) l1 = true) : l1.length ≤ 8 := by
 have h8 := gok8 hg
 rcases asc_short _ _ ha (by omega) with e | e
 ·rw [e]; simp
 ·omega
theorem validDone_eq {l0 : List S74} {l1 : List Int} {B : Nat} (hB : B ≤ 4611686018427387904) (hs : Small B l0) (hl : l1.length ≤ B) (k : Nat) (hk : 2 * B + 500 < k) : spec_validDone.f k l0 l1 = some (dok l0 l1) := by
 unfold spec_validDone.f
 rw [validGraph_eq hB hs k (by omega)]
 simp only [Option.bind_some]
 obtain ⟨k, rfl⟩ : ∃ m, k = m + 1 := ⟨k - 1, by omega⟩
 by_cases c : gok l0 = true
 ·obtain ⟨b, hb, hb2⟩ := needs_eq (l := l1) l0.length (by omega) (k + 1) (by omega)
  have hdk : dok l0 l1 = (ascB l0.length (-1) l1 && clo (ndm l0) (maskGo 0 l1)) := by
   unfold dok sok
   rw [c, Bool.true_and]
  rw [if_pos c, hb, hdk, w64 (by have := hs.len; omega) (by have := hs.len; omega)]
  simp only [Option.bind_some]
  cases b with
  | true =>
   rw [if_pos rfl, allIn_eq (by omega) _ _ _ (by omega)]
   simp only [Option.bind_some]
   rw [Bool.and_true] at hb2
   rw [hb2, spec_validDone.j0]
   cases a : ascB l0.length (-1) l1 with
   | false => rw [if_pos (by decide), Bool.false_and]
   | true =>
    have h8 := asc_len8D c a
    rw [if_neg (by decide), Bool.true_and]
    refine (validDone_go (gok_fine c) a h8 l1 [] k rfl (by omega)).trans ?_
    congr 1
    rw [Bool.eq_iff_iff, clo_iff c a, List.all_eq_true]
    have hm := ascB_mem a
    constructor
    ·intro h i hi j hj
     have h1 := h _ hi
     unfold inN at h1
     rw [List.all_eq_true] at h1
     unfold nds at hj
     obtain ⟨y, hy, rfl⟩ := List.mem_map.1 hj
     have hin := hm _ hi
     have h0 := (needs_len (gok_fine c) (show i < l0.length by omega)).2 y hy
     have h2 := h1 y hy
     rw [List.contains_iff_mem] at h2
     rwa [show ((y.toNat : Nat) : Int) = y by omega]
    ·intro h x hx
     have hin := hm _ hx
     have hxe : ((x.toNat : Nat) : Int) = x := by omega
     unfold inN
     rw [List.all_eq_true]
     intro y hy
     rw [← hxe] at hy hx
     have h0 := (needs_len (gok_fine c) (show x.toNat < l0.length by omega)).2 y hy
     have h2 := h x.toNat hx y.toNat (by unfold nds; exact List.mem_map.2 ⟨y, hy, rfl⟩)
     rw [List.contains_iff_mem]
     rwa [show ((y.toNat : Nat) : Int) = y by omega] at h2
  | false =>
   rw [Bool.and_false] at hb2
   rw [if_neg (by decide), ← hb2, spec_validDone.j0, if_pos rfl, Bool.false_and]
 ·have hdk : dok l0 l1 = false := by
   unfold dok sok
   rw [Bool.eq_false_iff.2 c]
   rfl
  rw [if_neg c, spec_validDone.j0, if_pos rfl, hdk]
theorem tsum_snocD (l0 : List S74) (L : List Nat) (x : Nat) : tsum l0 (L ++ [x]) = tsum l0 L + (rd_T74 l0 (x : Int)).f0 := tsum_snoc l0 L x
theorem progress_l0 {l0 : List S74} {l1 : List Int} (hg : gok l0 = true) (hl : l1.length ≤ 8) : ∀ (d i k : Nat), i + d = l0.length → d + 30 ≤ k →
  spec_ProgressOf.l0 k l0 l1 (tsum l0 (upto (fun j => l1.contains (j : Int)) i)) (tsum l0 (List.range i)) (i : Int) =
   some (if tsum l0 (List.range l0.length) = 0 then 1000 else wrap64 (Int.tdiv (wrap64 (1000 * tsum l0 (upto (fun j => l1.contains (j : Int)) l0.length))) (tsum l0 (List.range l0.length)))) := by
 have h8 := gok8 hg
 intro d
 induction d with
 | zero =>
  intro i k hi hk
  obtain ⟨k, rfl⟩ : ∃ m, k = m + 1 := ⟨k - 1, by omega⟩
  obtain rfl : i = l0.length := by omega
  rw [spec_ProgressOf.l0, if_neg (by omega)]
  by_cases c : tsum l0 (List.range l0.length) = 0
  ·rw [if_pos c, if_pos c]
  ·rw [if_neg c, if_neg c]
 | succ d ih =>
  intro i k hi hk
  obtain ⟨k, rfl⟩ : ∃ m, k = m + 1 := ⟨k - 1, by omega⟩
  have hin : i < l0.length := by omega
  have ht := fine_time (gok_fine hg) hin
  have hb1 := tsum_bdD (gok_fine hg) (upto (fun j => l1.contains (j : Int)) i) 0 (fun j hj => by have := (mem_upto.1 hj).1; omega)
  have hb2 := tsum_bdD (gok_fine hg) (List.range i) 0 (fun j hj => by have := List.mem_range.1 hj; omega)
  have hu := upto_len (fun j => l1.contains (j : Int)) i
  have e1 : tsum l0 (upto (fun j => l1.contains (j : Int)) i) = (upto (fun j => l1.contains (j : Int)) i).foldl (fun (s : Int) (i : Nat) => s + (rd_T74 l0 (i : Int)).f0) 0 := rfl
  have e2 : tsum l0 (List.range i) = (List.range i).foldl (fun (s : Int) (i : Nat) => s + (rd_T74 l0 (i : Int)).f0) 0 := rfl
  rw [← e1] at hb1
  rw [← e2, List.length_range] at hb2
  have hn := upto_succ (fun j => l1.contains (j : Int)) i
  have hr : tsum l0 (List.range (i + 1)) = tsum l0 (List.range i) + (rd_T74 l0 (i : Int)).f0 := by rw [List.range_succ, tsum_snoc]
  have hih := ih (i + 1) k (by omega) (by omega)
  rw [spec_ProgressOf.l0, if_pos (by omega), if_pos (by omega), isIn_eq (by omega) _ _ (by omega), nx (m := 8) (by omega) (by omega)]
  simp only [Option.bind_some, spec_toInt.f]
  have w2 : wrap64 (tsum l0 (List.range i) + (rd_T74 l0 (i : Int)).f0) = tsum l0 (List.range (i + 1)) := by rw [hr, w64 (by omega) (by omega)]
  rw [w2]
  cases c : l1.contains (i : Int) with
  | true =>
   rw [if_pos rfl]
   simp only [Option.bind_some]
   rw [c, if_pos rfl] at hn
   have h1 : tsum l0 (upto (fun j => l1.contains (j : Int)) (i + 1)) = tsum l0 (upto (fun j => l1.contains (j : Int)) i) + (rd_T74 l0 (i : Int)).f0 := by rw [hn, tsum_snoc]
   rw [Int.mul_one, w64 (x := (rd_T74 l0 (i : Int)).f0) (by omega) (by omega), w64 (by omega) (by omega), ← h1]
   exact hih
  | false =>
   rw [if_neg (by decide)]
   simp only [Option.bind_some]
   rw [c, if_neg (by decide)] at hn
   rw [hn] at hih
   rw [Int.mul_zero, w64 (x := 0) (by decide) (by decide), Int.add_zero, w64 (by omega) (by omega)]
   exact hih
theorem specProgress_eq {l0 : List S74} {l1 : List Int} {B : Nat} (hB : B ≤ 4611686018427387904) (hs : Small B l0) (hl : l1.length ≤ B) (k : Nat) (hk : 2 * B + 600 < k) : spec_ProgressOf.f k l0 l1 = impl_ProgressOf.f l0 l1 := by
 unfold spec_ProgressOf.f impl_ProgressOf.f
 rw [validDone_eq hB hs hl k (by omega)]
 simp only [Option.bind_some]
 by_cases c : dok l0 l1 = true
 ·rw [if_pos c, if_pos c]
  have hg : gok l0 = true ∧ ascB l0.length (-1) l1 = true := by
   unfold dok sok at c
   simp only [Bool.and_eq_true] at c
   exact c.1
  have h8 := gok8 hg.1
  have hl8 := asc_len8D hg.1 hg.2
  have hm := ascB_mem hg.2
  have hb : Bits (maskGo 0 l1) (fun i => (i : Int) ∈ l1) := (maskGo_bits h8 l1 0 _ Bits.zero (fun x hx => ⟨by have := hm x hx; omega, (hm x hx).2⟩)).congr (fun i => by simp)
  have em : elems (maskGo 0 l1) = upto (fun j => l1.contains (j : Int)) l0.length := hb.elems_eq (upto_sorted _ _) (fun i => by
   rw [mem_upto, List.contains_iff_mem]
   exact ⟨fun h => h.2, fun h => ⟨by have := hm _ h; omega, h⟩⟩)
  refine (progress_l0 hg.1 hl8 l0.length 0 k (by omega) (by omega)).trans ?_
  unfold prog
  rw [em, full_elems h8]
  have hb1 := tsum_bdD (gok_fine hg.1) (upto (fun j => l1.contains (j : Int)) l0.length) 0 (fun j hj => (mem_upto.1 hj).1)
  have hb2 := tsum_bdD (gok_fine hg.1) (List.range l0.length) 0 (fun j hj => List.mem_range.1 hj)
  have hu := upto_len (fun j => l1.contains (j : Int)) l0.length
  have e1 : tsum l0 (upto (fun j => l1.contains (j : Int)) l0.length) = (upto (fun j => l1.contains (j : Int)) l0.length).foldl (fun (s : Int) (i : Nat) => s + (rd_T74 l0 (i : Int)).f0) 0 := rfl
  have e2 : tsum l0 (List.range l0.length) = (List.range l0.length).foldl (fun (s : Int) (i : Nat) => s + (rd_T74 l0 (i : Int)).f0) 0 := rfl
  rw [← e1] at hb1
  rw [← e2, List.length_range] at hb2
  generalize tsum l0 (upto (fun j => l1.contains (j : Int)) l0.length) = S at hb1 ⊢
  generalize tsum l0 (List.range l0.length) = T at hb2 ⊢
  congr 1
  by_cases z : l0.length = 0
  ·rw [if_pos z, if_pos (by omega)]
  ·have hT : 1 ≤ T := by omega
   have hp0 : 0 ≤ 1000 * S ∧ 1000 * S ≤ 320000 := by omega
   rw [if_neg z, if_neg (by omega), w64 (x := 1000 * S) (by omega) (by omega), Int.tdiv_eq_ediv_of_nonneg hp0.1]
   have h1 : 0 ≤ 1000 * S / T := Int.ediv_nonneg hp0.1 (by omega)
   have h2 : 1000 * S / T ≤ 1000 * S := Int.ediv_le_self T hp0.1
   exact w64 (by omega) (by omega)
 ·rw [if_neg c, if_neg c]
end Go.Proofs.YtgdoajmgheokbaaDoor.G
