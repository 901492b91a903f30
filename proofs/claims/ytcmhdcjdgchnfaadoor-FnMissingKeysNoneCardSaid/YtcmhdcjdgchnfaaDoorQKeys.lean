/-
 TaskKeys: the reference answers what the program answers.
-/
import Derived.Test.YtcmhdcjdgchnfaaDoorHKeys
import Derived.Test.YtcmhdcjdgchnfaaDoorQSpec
import Derived.Test.YtcmhdcjdgchnfaaDoorG0
import Derived.Test.YtcmhdcjdgchnfaaDoorG2
import Derived.Test.YtcmhdcjdgchnfaaDoorG6
namespace Go.Proofs.YtcmhdcjdgchnfaaDoor.G
open Go.RowKit Go.Proofs.YtcmhdcjdgchnfaaDoorW.PrintWords Go.Proofs.YtcmhdcjdgchnfaaDoorW.PrintLast Go.Proofs.YtcmhdcjdgchnfaaDoorW.PrintMore C
set_option linter.unusedVariables false
set_option linter.unusedSimpArgs false

theorem asc_sorted {n : Nat} : ∀ (l : List Int) (a : Int), -1 ≤ a → ascB n a l = true → (l.map Int.toNat).Pairwise (· < ·)
 | [], _, _, _ => List.Pairwise.nil
 | x :: r, a, ha, h => by
  simp only [ascB, Bool.and_eq_true, decide_eq_true_eq] at h
  rw [List.map_cons]
  refine List.pairwise_cons.2 ⟨fun y hy => ?_, asc_sorted r x (by omega) h.2⟩
  obtain ⟨z, hz, rfl⟩ := List.mem_map.1 hy
  have := ascB_mem h.2 z hz
  omega
theorem nds_elems {l0 : List S69} (hf : fine l0 = true) {i : Nat} (hi : i < l0.length) : elems ((ndm l0).getD i 0) = nds l0 i :=
 (ndm_bits hf hi).elems_eq (asc_sorted _ _ (by omega) (fine_needs hf hi)) (fun j => Iff.rfl)
theorem keys_l1 {g : List S69} {inp out : List Int} {od : List Nat} (hf : fine g = true) (ho : Kb out) (hlo : out.length = g.length) {i : Nat} (hi : i < g.length) (x7 : Int) : ∀ (rest pre : List Int) (key : Int) (k : Nat), (rd_T69 g (i : Int)).f1 = pre ++ rest → rest.length < k → 0 ≤ key → key ≤ 10006 →
  spec_keys.l1 k g inp out (castL od) x7 (i : Int) key (pre.length : Int) = spec_keys.l1 (k - rest.length) g inp out (castL od) x7 (i : Int) ((rest.map Int.toNat).foldl (kstep out) key) ((rd_T69 g (i : Int)).f1.length : Int) := by
 have h8 := (fine_task hf).1
 obtain ⟨hn8, h0⟩ := needs_len hf hi
 intro rest
 induction rest with
 | nil =>
  intro pre key k e hk _ _
  have : pre = (rd_T69 g (i : Int)).f1 := by rw [e]; simp
  rw [← this]
  simp
 | cons x r ih =>
  intro pre key k e hk k0 k1
  obtain ⟨k, rfl⟩ : ∃ m, k = m + 1 := ⟨k - 1, by omega⟩
  simp only [List.length_cons] at hk
  have hlt : pre.length < (rd_T69 g (i : Int)).f1.length := by rw [e]; simp
  have hx0 := h0 x (by rw [e]; simp)
  have hxn := nds_lt hf hi (k := x.toNat) (List.mem_map.2 ⟨x, by rw [e]; simp, rfl⟩)
  have hrd : rd (rd_T69 g (i : Int)).f1 (pre.length : Int) = x := by rw [e]; exact rd_app _ _ _
  have hb := ho x.toNat
  have hs := tm_bd (a := 131 * key + out.getD x.toNat 0 + 1) (by omega)
  have hih := ih (pre ++ [x]) (kstep out key x.toNat) k (by rw [e]; simp) (by omega) hs.1 hs.2
  have ek : k + 1 - (x :: r).length = k - r.length := by simp only [List.length_cons]; omega
  have ero : rd out x = out.getD x.toNat 0 := rfl
  rw [spec_keys.l1, if_pos (by omega), if_pos (by omega), if_pos (by omega), if_pos (by omega), hrd, if_pos (by omega), if_pos (by omega), ero, nx (m := 8) (by omega) (by omega), ek]
  rw [w64 (x := 131 * key) (by omega) (by omega), w64 (x := 131 * key + out.getD x.toNat 0) (by omega) (by omega), w64 (x := 131 * key + out.getD x.toNat 0 + 1) (by omega) (by omega), List.map_cons, List.foldl_cons]
  rw [List.length_append, List.length_singleton] at hih
  exact hih
theorem keys_l0 {g : List S69} {inp : List Int} (hg : gok g = true) (hl : inp.length = g.length) (hin : ∀ i : Nat, 0 ≤ inp.getD i 0 ∧ inp.getD i 0 ≤ 1000) : ∀ (rest pre : List Nat) (k : Nat), ord g = pre ++ rest → rest.length * 20 + 30 ≤ k →
  spec_keys.l0 k g inp (keysN (ndm g) inp g.length pre) (castL (ord g)) (pre.length : Int) = some (keysN (ndm g) inp g.length (ord g)) := by
 have hf := gok_fine hg
 have h8 := gok8 hg
 have hol := ord_len hg
 intro rest
 induction rest with
 | nil =>
  intro pre k e hk
  obtain ⟨k, rfl⟩ : ∃ m, k = m + 1 := ⟨k - 1, by omega⟩
  have hp : pre = ord g := by rw [e]; simp
  rw [spec_keys.l0, if_neg (by rw [castL_length, e]; simp), hp]
 | cons x r ih =>
  intro pre k e hk
  obtain ⟨k, rfl⟩ : ∃ m, k = m + 1 := ⟨k - 1, by omega⟩
  simp only [List.length_cons] at hk
  have hlt : pre.length < (ord g).length := by rw [e]; simp
  have hxe : (ord g).getD pre.length 0 = x := by rw [e]; simp
  have hxn : x < g.length := (ord_mem hg).1 (by rw [e]; simp)
  have hcl := castL_length (ord g)
  have hb := keysN_bd (nd := ndm g) (n := g.length) (fun i => (hin i).1) pre
  have hlen := keysN_len (ndm g) inp g.length pre
  have hxb := hin x
  obtain ⟨n1, _⟩ := needs_len hf hxn
  have erx : rd inp (x : Int) = inp.getD x 0 := rd_nat _ _
  rw [spec_keys.l0, if_pos (by omega), if_pos (by omega), rd_castL, hxe, if_pos (by omega), if_pos (by omega), erx]
  have hkb := kbeg_bd hxb.1
  have e1 : Int.tmod (wrap64 (wrap64 (131 * wrap64 ((x : Int) + 1)) + inp.getD x 0)) 10007 = kbeg inp x := by
   rw [w64 (x := (x : Int) + 1) (by omega) (by omega), w64 (x := 131 * ((x : Int) + 1)) (by omega) (by omega), w64 (by omega) (by omega)]
   rfl
  rw [e1]
  have h1 := keys_l1 (inp := inp) (od := ord g) hf hb hlen hxn (pre.length : Int) (rd_T69 g (x : Int)).f1 [] (kbeg inp x) k rfl (by omega) hkb.1 hkb.2
  rw [show ((([] : List Int).length : Nat) : Int) = 0 from rfl] at h1
  rw [h1]
  obtain ⟨q, hq⟩ : ∃ q, k - (rd_T69 g (x : Int)).f1.length = q + 1 := ⟨k - (rd_T69 g (x : Int)).f1.length - 1, by omega⟩
  have ekey : ((rd_T69 g (x : Int)).f1.map Int.toNat).foldl (kstep (keysN (ndm g) inp g.length pre)) (kbeg inp x) = keyN (ndm g) inp (keysN (ndm g) inp g.length pre) x := by
   unfold keyN
   rw [nds_elems hf hxn]
   rfl
  rw [hq, ekey, spec_keys.l1, if_pos (by omega), if_pos (by omega), if_neg (by omega), if_pos (by omega), Int.toNat_natCast, ← keysN_snoc, nx (m := 8) (by omega) (by omega)]
  have hih := ih (pre ++ [x]) q (by rw [e]; simp) (by omega)
  rw [List.length_append, List.length_singleton] at hih
  exact hih
theorem validInputs_eq {g : List S69} {inp : List Int} {B : Nat} (hB : B ≤ 4611686018427387904) (hs : Small B g) (hl : inp.length ≤ B) (k : Nat) (hk : 2 * B + 400 < k) : spec_validInputs.f k g inp = some (vin g inp) := by
 unfold spec_validInputs.f vin
 rw [validGraph_eq hB hs k hk]
 simp only [Option.bind_some]
 by_cases c : gok g = true
 ·rw [if_pos c, c, Bool.true_and]
  by_cases d : inp.length = g.length
  ·rw [if_pos (by omega), decide_eq_true d, Bool.true_and, allIn_eq (by omega) _ _ _ (by omega)]
   rfl
  ·rw [if_neg (by omega), decide_eq_false d, Bool.false_and]
 ·rw [if_neg c, Bool.eq_false_iff.2 c, Bool.false_and]
theorem specKeys_eq {g : List S69} {inp : List Int} {B : Nat} (hB : B ≤ 4611686018427387904) (hs : Small B g) (hl : inp.length ≤ B) (k : Nat) (hk : 2 * B + 600 < k) : spec_TaskKeys.f k g inp = impl_TaskKeys.f g inp := by
 unfold spec_TaskKeys.f impl_TaskKeys.f
 rw [validInputs_eq hB hs hl k (by omega)]
 simp only [Option.bind_some]
 by_cases c : vin g inp = true
 ·obtain ⟨h1, h2, h3⟩ := vin_parts c
  have h8 := gok8 h1
  have hol := ord_len h1
  rw [if_pos c, if_pos c]
  unfold spec_keys.f
  rw [if_pos (by omega), if_pos (by omega), topOrder_eq (gok_fine h1) k (by omega)]
  simp only [Option.bind_some]
  rw [Int.toNat_natCast]
  have h := keys_l0 h1 h2 h3 (ord g) [] k rfl (by omega)
  rw [show keysN (ndm g) inp g.length [] = List.replicate g.length 0 from rfl, show ((([] : List Nat).length : Nat) : Int) = 0 from rfl] at h
  rw [h]
  rfl
 ·rw [if_neg c, if_neg c]
theorem keys_val (g : List S69) (inp : List Int) : ∃ r, impl_TaskKeys.f g inp = some r ∧ r.length ≤ 8 ∧ Kb r ∧ ((vin g inp = true ∧ r = keysN (ndm g) inp g.length (ord g) ∧ r.length = g.length) ∨ r = []) := by
 unfold impl_TaskKeys.f
 by_cases c : vin g inp = true
 ·obtain ⟨h1, h2, h3⟩ := vin_parts c
  have hl := keysN_len (ndm g) inp g.length (ord g)
  have h8 := gok8 h1
  exact ⟨_, by rw [if_pos c], by omega, keysN_bd (fun i => (h3 i).1) _, .inl ⟨c, rfl, hl⟩⟩
 ·exact ⟨[], by rw [if_neg c], by simp, fun i => by simp, .inr rfl⟩
end Go.Proofs.YtcmhdcjdgchnfaaDoor.G
