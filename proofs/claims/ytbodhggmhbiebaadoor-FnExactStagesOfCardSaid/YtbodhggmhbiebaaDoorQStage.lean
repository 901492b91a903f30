/-
 StageOf: the reference answers what the program answers.
-/
import Derived.Test.YtbodhggmhbiebaaDoorHStage
import Derived.Test.YtbodhggmhbiebaaDoorQSpec
import Derived.Test.YtbodhggmhbiebaaDoorG0
import Derived.Test.YtbodhggmhbiebaaDoorG2
import Derived.Test.YtbodhggmhbiebaaDoorG4
namespace Go.Proofs.YtbodhggmhbiebaaDoor.G
open Go.RowKit Go.Proofs.YtbodhggmhbiebaaDoorW.PrintWords Go.Proofs.YtbodhggmhbiebaaDoorW.PrintLast Go.Proofs.YtbodhggmhbiebaaDoorW.PrintMore C
set_option linter.unusedVariables false
set_option linter.unusedSimpArgs false

theorem ascS_sorted {n : Nat} : ∀ (l : List Int) (a : Int), -1 ≤ a → ascB n a l = true → (l.map Int.toNat).Pairwise (· < ·)
 | [], _, _, _ => List.Pairwise.nil
 | x :: r, a, ha, h => by
  simp only [ascB, Bool.and_eq_true, decide_eq_true_eq] at h
  rw [List.map_cons]
  refine List.pairwise_cons.2 ⟨fun y hy => ?_, ascS_sorted r x (by omega) h.2⟩
  obtain ⟨z, hz, rfl⟩ := List.mem_map.1 hy
  have := ascB_mem h.2 z hz
  omega
theorem ndsS_elems {l0 : List S29} (hf : fine l0 = true) {i : Nat} (hi : i < l0.length) : elems ((ndm l0).getD i 0) = nds l0 i :=
 (ndm_bits hf hi).elems_eq (ascS_sorted _ _ (by omega) (fine_needs hf hi)) (fun j => Iff.rfl)
theorem levels_l1 {g : List S29} {o : List Int} {od : List Nat} (hf : fine g = true) (ho : Sb 8 o) (hlo : o.length = g.length) {i : Nat} (hi : i < g.length) (hir : ∀ k, k ∈ nds g i → k ≠ i) (x5 : Int) : ∀ (rest pre : List Int) (a : Int) (k : Nat), (rd_T29 g (i : Int)).f1 = pre ++ rest → rest.length < k → 0 ≤ a → a ≤ 9 →
  spec_levels.l1 k g (o.set i a) (castL od) x5 (i : Int) (pre.length : Int) = spec_levels.l1 (k - rest.length) g (o.set i ((rest.map Int.toNat).foldl (sgk o) a)) (castL od) x5 (i : Int) ((rd_T29 g (i : Int)).f1.length : Int) := by
 have h8 := (fine_task hf).1
 obtain ⟨hn8, h0⟩ := needs_len hf hi
 intro rest
 induction rest with
 | nil =>
  intro pre a k e hk _ _
  have : pre = (rd_T29 g (i : Int)).f1 := by rw [e]; simp
  rw [← this]
  simp
 | cons x r ih =>
  intro pre a k e hk k0 k1
  obtain ⟨k, rfl⟩ : ∃ m, k = m + 1 := ⟨k - 1, by omega⟩
  simp only [List.length_cons] at hk
  have hlt : pre.length < (rd_T29 g (i : Int)).f1.length := by rw [e]; simp
  have hx0 := h0 x (by rw [e]; simp)
  have hxm : x.toNat ∈ nds g i := List.mem_map.2 ⟨x, by rw [e]; simp, rfl⟩
  have hxn := nds_lt hf hi (k := x.toNat) hxm
  have hxi := hir _ hxm
  have hrd : rd (rd_T29 g (i : Int)).f1 (pre.length : Int) = x := by rw [e]; exact rd_app _ _ _
  have hb := ho x.toNat
  have hs := mx_bd (a := a) (b := o.getD x.toNat 0 + 1) (c := 9) ⟨k0, k1⟩ ⟨by omega, by omega⟩
  have hih := ih (pre ++ [x]) (sgk o a x.toNat) k (by rw [e]; simp) (by omega) hs.1 hs.2
  have ek : k + 1 - (x :: r).length = k - r.length := by simp only [List.length_cons]; omega
  have ero : rd (o.set i a) x = o.getD x.toNat 0 := by
   show (o.set i a).getD x.toNat 0 = _
   exact getD_setS _ _ _ _ hxi
  have eri : rd (o.set i a) (i : Int) = a := by
   show (o.set i a).getD i 0 = a
   rw [List.getD_eq_getElem?_getD, List.getElem?_set_self (by omega)]
   rfl
  have hls : (o.set i a).length = g.length := by rw [List.length_set]; exact hlo
  rw [spec_levels.l1, if_pos (by omega), if_pos (by omega), if_pos (by omega), if_pos (by omega), if_pos (by omega), hrd, if_pos (by omega), if_pos (by omega), ero, eri, nx (m := 8) (by omega) (by omega), ek, Int.toNat_natCast, List.set_set]
  rw [w64 (x := o.getD x.toNat 0 + 1) (by omega) (by omega), List.map_cons, List.foldl_cons]
  rw [List.length_append, List.length_singleton] at hih
  exact hih
theorem levels_l0 {g : List S29} (hg : gok g = true) : ∀ (rest pre : List Nat) (k : Nat), ord g = pre ++ rest → rest.length * 20 + 30 ≤ k →
  spec_levels.l0 k g (stagesN (ndm g) g.length pre) (castL (ord g)) (pre.length : Int) = some (stg g) := by
 have hf := gok_fine hg
 have h8 := gok8 hg
 have hol := ord_len hg
 intro rest
 induction rest with
 | nil =>
  intro pre k e hk
  obtain ⟨k, rfl⟩ : ∃ m, k = m + 1 := ⟨k - 1, by omega⟩
  have hp : pre = ord g := by rw [e]; simp
  rw [spec_levels.l0, if_neg (by rw [castL_length, e]; simp), hp]
  rfl
 | cons x r ih =>
  intro pre k e hk
  obtain ⟨k, rfl⟩ : ∃ m, k = m + 1 := ⟨k - 1, by omega⟩
  simp only [List.length_cons] at hk
  have hlt : pre.length < (ord g).length := by rw [e]; simp
  have hxe : (ord g).getD pre.length 0 = x := by rw [e]; simp
  have hxn : x < g.length := (ord_mem hg).1 (by rw [e]; simp)
  have hcl := castL_length (ord g)
  have hb : Sb 8 (stagesN (ndm g) g.length pre) := (stagesN_bd (ndm g) g.length pre).mono (by omega)
  have hlen := stagesN_len (ndm g) g.length pre
  obtain ⟨n1, _⟩ := needs_len hf hxn
  rw [spec_levels.l0, if_pos (by omega), if_pos (by omega), rd_castL, hxe]
  have hbx := hb x
  have h1 := levels_l1 (od := ord g) hf hb hlen hxn (fun k hk e => (gok_full hg).irrefl hxn (.base (e ▸ hk))) (pre.length : Int) (rd_T29 g (x : Int)).f1 [] ((stagesN (ndm g) g.length pre).getD x 0) k rfl (by omega) hbx.1 (by omega)
  rw [set_self, show ((([] : List Int).length : Nat) : Int) = 0 from rfl] at h1
  rw [h1]
  obtain ⟨q, hq⟩ : ∃ q, k - (rd_T29 g (x : Int)).f1.length = q + 1 := ⟨k - (rd_T29 g (x : Int)).f1.length - 1, by omega⟩
  have ekey : ((rd_T29 g (x : Int)).f1.map Int.toNat).foldl (sgk (stagesN (ndm g) g.length pre)) ((stagesN (ndm g) g.length pre).getD x 0) = stgAt (ndm g) (stagesN (ndm g) g.length pre) x := by
   unfold stgAt
   rw [ndsS_elems hf hxn]
   rfl
  rw [hq, ekey, spec_levels.l1, if_pos (by omega), if_pos (by omega), if_neg (by omega), ← stagesN_snoc, nx (m := 8) (by omega) (by omega)]
  have hih := ih (pre ++ [x]) q (by rw [e]; simp) (by omega)
  rw [List.length_append, List.length_singleton] at hih
  exact hih
theorem levels_eq {g : List S29} (hg : gok g = true) (k : Nat) (hk : 500 ≤ k) : spec_levels.f k g = some (stg g) := by
 have h8 := gok8 hg
 have hol := ord_len hg
 unfold spec_levels.f
 rw [if_pos (by omega), if_pos (by omega), topOrder_eq (gok_fine hg) k (by omega)]
 simp only [Option.bind_some]
 rw [Int.toNat_natCast]
 have h := levels_l0 hg (ord g) [] k rfl (by omega)
 rw [show stagesN (ndm g) g.length [] = List.replicate g.length 0 from rfl, show ((([] : List Nat).length : Nat) : Int) = 0 from rfl] at h
 exact h
theorem specStage_eq {g : List S29} {B : Nat} (hB : B ≤ 4611686018427387904) (hs : Small B g) (k : Nat) (hk : 2 * B + 600 < k) : spec_StageOf.f k g = impl_StageOf.f g := by
 unfold spec_StageOf.f impl_StageOf.f
 rw [validGraph_eq hB hs k (by omega)]
 simp only [Option.bind_some]
 by_cases c : gok g = true
 ·rw [if_pos c, if_pos c, levels_eq c k (by omega)]
  rfl
 ·rw [if_neg c, if_neg c]
theorem stage_val (g : List S29) : ∃ r, impl_StageOf.f g = some r ∧ r.length ≤ 8 ∧ ((gok g = true ∧ r = stg g ∧ r.length = g.length) ∨ (gok g = false ∧ r = [])) := by
 unfold impl_StageOf.f
 by_cases c : gok g = true
 ·have hl := stg_len g
  have h8 := gok8 c
  exact ⟨_, by rw [if_pos c], by omega, .inl ⟨c, rfl, hl⟩⟩
 ·exact ⟨[], by rw [if_neg c], by simp, .inr ⟨Bool.eq_false_iff.2 c, rfl⟩⟩
end Go.Proofs.YtbodhggmhbiebaaDoor.G
