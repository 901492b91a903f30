/-
 Marks on a list of lists: markIntSS by hand, and what heldIntSS then answers.
-/
import Derived.Test.YtbodhggmhbiebaaDoorHMark
import Derived.Test.YtbodhggmhbiebaaDoorQTask
import Derived.Test.YtbodhggmhbiebaaDoorG0
import Derived.Test.YtbodhggmhbiebaaDoorG6
import Derived.Test.YtbodhggmhbiebaaDoorG9
namespace Go.Proofs.YtbodhggmhbiebaaDoor.G
open Go.RowKit Go.Proofs.YtbodhggmhbiebaaDoorW.PrintWords Go.Proofs.YtbodhggmhbiebaaDoorW.PrintLast Go.Proofs.YtbodhggmhbiebaaDoorW.PrintMore C
set_option linter.unusedVariables false
set_option linter.unusedSimpArgs false

/-- m numbers from c on. -/
def mrow (c : Int) (m : Nat) : List Int := (List.range m).map (fun (j : Nat) => c + (j : Int))
theorem mrow_len (c : Int) (m : Nat) : (mrow c m).length = m := by simp [mrow]
theorem mrow_marked (c : Int) (m : Nat) : MarkedI (mrow c m) c m := fun j hj => by
 unfold mrow
 rw [List.getD_eq_getElem?_getD, List.getElem?_map, List.getElem?_range hj]
 rfl
theorem mrow_of {l : List Int} {c : Int} {m : Nat} (hl : l.length = m) (h : MarkedI l c m) : l = mrow c m := by
 apply List.ext_getElem?
 intro j
 by_cases hj : j < m
 ·have h1 := h j hj
  have h2 := mrow_marked c m j hj
  rw [List.getD_eq_getElem?_getD, List.getElem?_eq_getElem (by omega)] at h1
  rw [List.getD_eq_getElem?_getD, List.getElem?_eq_getElem (by rw [mrow_len]; exact hj)] at h2
  rw [List.getElem?_eq_getElem (by omega), List.getElem?_eq_getElem (by rw [mrow_len]; exact hj)]
  simp only [Option.getD_some] at h1 h2
  rw [h1, h2]
 ·rw [List.getElem?_eq_none (by omega), List.getElem?_eq_none (by rw [mrow_len]; omega)]
/-- How many numbers lie in the first q lists. -/
def totQ (xs : List (List Int)) (q : Nat) : Nat := ((xs.take q).map List.length).sum
theorem totQ_succ {xs : List (List Int)} {q : Nat} (h : q < xs.length) : totQ xs (q + 1) = totQ xs q + (xs.getD q []).length := by
 unfold totQ
 rw [List.take_succ_eq_append_getElem h, List.map_append, List.sum_append, List.getD_eq_getElem?_getD, List.getElem?_eq_getElem h]
 simp
theorem totQ_le {xs : List (List Int)} {B : Nat} (h : ∀ x, x ∈ xs → x.length ≤ B) : ∀ q, q ≤ xs.length → totQ xs q ≤ B * q
 | 0, _ => by simp [totQ]
 | q + 1, hq => by
  have ih := totQ_le h q (by omega)
  have hm : xs.getD q [] ∈ xs := by
   rw [List.getD_eq_getElem?_getD, List.getElem?_eq_getElem (by omega)]
   exact List.getElem_mem _
  have := h _ hm
  rw [totQ_succ (by omega), Nat.mul_succ]
  omega
/-- The lists behind the marks of the first q. -/
def mkR (xs : List (List Int)) : Nat → List (List Int)
 | 0 => xs
 | q + 1 => (mkR xs q).set q (mrow (1 + (totQ xs q : Int)) (xs.getD q []).length)
theorem mkR_len (xs : List (List Int)) : ∀ q, (mkR xs q).length = xs.length
 | 0 => rfl
 | q + 1 => by rw [mkR, List.length_set, mkR_len xs q]
theorem mkR_rest (xs : List (List Int)) : ∀ q j, q ≤ j → (mkR xs q).getD j [] = xs.getD j []
 | 0, _, _ => rfl
 | q + 1, j, h => by
  rw [mkR, List.getD_eq_getElem?_getD, List.getElem?_set_ne (by omega), ← List.getD_eq_getElem?_getD]
  exact mkR_rest xs q j (by omega)
theorem mkR_done (xs : List (List Int)) : ∀ q j, j < q → q ≤ xs.length → (mkR xs q).getD j [] = mrow (1 + (totQ xs j : Int)) (xs.getD j []).length
 | 0, j, h, _ => by omega
 | q + 1, j, h, hq => by
  rw [mkR, List.getD_eq_getElem?_getD]
  by_cases e : j = q
  ·subst e
   rw [List.getElem?_set_self (by rw [mkR_len]; omega)]
   rfl
  ·rw [List.getElem?_set_ne (fun h => e h.symm), ← List.getD_eq_getElem?_getD]
   exact mkR_done xs q j (by omega) (by omega)
theorem heldSS_l0 {xs : List (List Int)} (hn : xs.length ≤ 1000) (hx : ∀ x, x ∈ xs → x.length ≤ 1000) : ∀ (d i k : Nat), i + d = xs.length → d + 1010 ≤ k →
  laws_heldIntSS.l0 k (mkR xs xs.length) (1 + (totQ xs i : Int)) (i : Int) = some (1 + (totQ xs xs.length : Int)) := by
 intro d
 induction d with
 | zero =>
  intro i k hi hk
  obtain ⟨k, rfl⟩ : ∃ m, k = m + 1 := ⟨k - 1, by omega⟩
  rw [laws_heldIntSS.l0, if_neg (by rw [mkR_len]; omega), show i = xs.length by omega]
 | succ d ih =>
  intro i k hi hk
  obtain ⟨k, rfl⟩ : ∃ m, k = m + 1 := ⟨k - 1, by omega⟩
  have hil : i < xs.length := by omega
  have hrow : rd_L1 (mkR xs xs.length) (i : Int) = mrow (1 + (totQ xs i : Int)) (xs.getD i []).length := mkR_done xs xs.length i hil (Nat.le_refl _)
  have hm : xs.getD i [] ∈ xs := by
   rw [List.getD_eq_getElem?_getD, List.getElem?_eq_getElem hil]
   exact List.getElem_mem _
  have hxl := hx _ hm
  have htq := totQ_le hx i (by omega)
  have hmr := mrow_len (1 + (totQ xs i : Int)) (xs.getD i []).length
  have hheld := heldI_eq (mrow (1 + (totQ xs i : Int)) (xs.getD i []).length) (1 + (totQ xs i : Int)) k ⟨by omega, by omega⟩ (by omega) (by rw [hmr]; exact mrow_marked _ _) (by omega)
  rw [laws_heldIntSS.l0, if_pos (by rw [mkR_len]; omega), if_pos (by omega), hrow, hheld]
  simp only [Option.bind_some]
  have hts := totQ_succ hil
  rw [hmr, if_neg (by omega), show (1 + (totQ xs i : Int) + ((xs.getD i []).length : Int)) = 1 + (totQ xs (i + 1) : Int) by rw [hts]; omega]
  rw [show wrap64 ((i : Int) + 1) = ((i + 1 : Nat) : Int) by rw [w64 (by omega) (by omega)]; rfl]
  exact ih (i + 1) k (by omega) (by omega)
theorem heldSS_eq {xs : List (List Int)} (hn : xs.length ≤ 1000) (hx : ∀ x, x ∈ xs → x.length ≤ 1000) (k : Nat) (hk : 2020 ≤ k) : laws_heldIntSS.f k (mkR xs xs.length) 1 = some (1 + (totQ xs xs.length : Int)) := by
 unfold laws_heldIntSS.f
 exact heldSS_l0 hn hx xs.length 0 k (by omega) (by omega)
theorem eqSS_l0 {l : List (List Int)} (hl : l.length ≤ 1000) (hd : ∀ x, x ∈ l → x.length ≤ 1000) : ∀ (d i k : Nat), i + d = l.length → d + 1048580 ≤ k → laws_eqIntSS.l0 k l l (i : Int) = some true := by
 intro d
 induction d with
 | zero =>
  intro i k hi hk
  obtain ⟨k, rfl⟩ : ∃ m, k = m + 1 := ⟨k - 1, by omega⟩
  rw [laws_eqIntSS.l0, if_neg (by omega)]
 | succ d ih =>
  intro i k hi hk
  obtain ⟨k, rfl⟩ : ∃ m, k = m + 1 := ⟨k - 1, by omega⟩
  have hil : i < l.length := by omega
  have hx : (rd_L1 l (i : Int)).length ≤ 1000 := by
   unfold rd_L1
   rw [Int.toNat_natCast, List.getD_eq_getElem?_getD, List.getElem?_eq_getElem hil]
   exact hd _ (List.getElem_mem hil)
  rw [laws_eqIntSS.l0, if_pos (by omega), if_pos (by omega), if_pos (by omega), eqIntS_refl _ k (by omega) (by omega)]
  simp only [Option.bind_some, if_true]
  rw [show wrap64 ((i : Int) + 1) = ((i + 1 : Nat) : Int) by rw [w64 (by omega) (by omega)]; rfl]
  exact ih (i + 1) k (by omega) (by omega)
theorem eqSS_refl (l : List (List Int)) (k : Nat) (hl : l.length ≤ 1000) (hd : ∀ x, x ∈ l → x.length ≤ 1000) (hk : 1050000 ≤ k) : laws_eqIntSS.f k l l = some true := by
 unfold laws_eqIntSS.f
 rw [if_pos rfl]
 exact eqSS_l0 hl hd l.length 0 k (by omega) (by omega)
set_option maxHeartbeats 8000000 in
set_option maxRecDepth 1000000 in
theorem markSS_calls {w0 w : World} {A : Option Addr} {n c : Nat} {ok : Nat → Prop} {xs : List (List Int)} (hB : Below w0.heap.size w0 w) (hS : Kd.S (Kd.slice 3 (Kd.int .i64)) 25 w w0.heap.size ok (.slice A n c) xs) (hxn : xs.length ≤ 1000) (hx : ∀ x, x ∈ xs → x.length ≤ 1000) :
  Calls Tryd.prog 30 #[.slice A n c, .int .i64 1] w fun e w' => e = .returned (.int .i64 (1 + (totQ xs xs.length : Int))) ∧ Kd.S (Kd.slice 3 (Kd.int .i64)) 25 w' w0.heap.size ok (.slice A n c) (mkR xs xs.length) ∧ Below w0.heap.size w0 w' ∧ Kept w w' ok := by
 have hn := (Kd.S_reads' hS).1
 have HS := Aside0.mk hS
 have HB := Aside0.mk hB
 have HX := Aside0.mk (show xs.length = n ∧ n ≤ 1000 ∧ ∀ x, x ∈ xs → x.length ≤ 1000 from ⟨hn.symm, by omega, hx⟩)
 rw [← hn]
 clear hB hS hxn hx hn
 go_enter Tryd.func30, Tryd.ntmps30
 go_wp2
 go_loopw [1, 5] (fun v1 v5 W => ∃ (j : Nat), v5 = .int .i64 (j : Nat) ∧ v1 = .int .i64 (1 + (totQ xs j : Int)) ∧ Aside0 (j ≤ n) ∧ Aside0 (Kd.S (Kd.slice 3 (Kd.int .i64)) 25 W w0.heap.size ok (.slice A n c) (mkR xs j)) ∧ Aside0 (Below w0.heap.size w0 W) ∧ Aside0 (Kept w W ok)) (fun _ v5 _ => n - (intOf v5).toNat)
 case atStart => exact ⟨0, rfl, rfl, ⟨Nat.zero_le _⟩, HS, HB, ⟨Kept.refl _ _⟩⟩
 case round =>
  obtain ⟨j, rfl, rfl, HJ, HSJ, HBW, HKW⟩ := hrel
  have hj := HJ.out
  have hxl := HX.out.1
  have hn := HX.out.2.1
  by_cases hlt : j < n
  ·obtain ⟨go, cap, ev, hgo, hgl, cells, hcells⟩ := Kd.S_form HSJ.out (by rw [mkR_len]; omega)
   injection ev with e1 e2 e3
   subst e1
   obtain ⟨oki, cc, hcl, hM, hcc, hfr, hoki, hH⟩ := Kd.S_elem HSJ.out [] (j : Int) (by omega) (by omega)
   rw [Int.toNat_natCast, mkR_rest xs j j (Nat.le_refl _)] at hM
   have hmem : xs.getD j [] ∈ xs := by
    rw [List.getD_eq_getElem?_getD, List.getElem?_eq_getElem (by omega)]
    exact List.getElem_mem _
   have hx8 := HX.out.2.2 _ hmem
   have htq := totQ_le HX.out.2.2 j (by omega)
   have hts := totQ_succ (xs := xs) (q := j) (by omega)
   have hmk : mkR xs (j + 1) = (mkR xs j).set j (mrow (1 + (totQ xs j : Int)) (xs.getD j []).length) := rfl
   obtain ⟨x0, hx0⟩ : ∃ x, xs.getD j [] = x := ⟨_, rfl⟩
   rw [hx0] at hM hx8 hts hmk
   obtain ⟨v, ecc, hRv⟩ := hM
   subst ecc
   obtain ⟨A', c', ev'⟩ := Kd.R_slice hRv
   subst ev'
   have cs := hcc 0 _ rfl
   rw [show (j : Int).toNat * (Kd.slice 3 (Kd.int .i64)).sz + 0 = j from by show j * 1 + 0 = j; omega] at cs
   obtain ⟨l', hm1, hm2, hm3⟩ := markI_eq x0 (1 + (totQ xs j : Int)) 1001 ⟨by omega, by omega⟩ (by omega) (by omega)
   rw [mrow_of hm2 hm3] at hm1
   rw [show (1 + (totQ xs j : Int)) + (x0.length : Int) = 1 + (totQ xs (j + 1) : Int) by rw [hts]; omega] at hm1
   have HMI := Aside0.mk (laws_markIntS.calls 1001 _ _ x0 _ _ _ w0 _ HBW.out hRv hm1)
   have HHH := Aside0.mk hH
   have HRV := Aside0.mk hRv
   have HOKI := Aside0.mk hoki
   have HMK := Aside0.mk hmk
   have HLT := Aside0.mk hlt
   have qj : (j : Int) < (n : Int) := by omega
   have hj8 : (j : Int) < 1001 := by omega
   obtain ⟨t0, ht0⟩ : ∃ t, 1 + (totQ xs j : Int) = t := ⟨_, rfl⟩
   have HT0 := Aside0.mk ht0
   rw [ht0] at HMI ⊢
   clear hj hxl hn hlt hgo hgl hcells hcl hcc hfr hoki hH hmem hx8 htq hts hmk hx0 hRv hm1 hm2 hm3 e2 e3 ht0
   go_wp2_with (first | (go_at_call 27; refine HMI.out.mono ?_; rintro e w2 ⟨rfl, hR2, hB2, hK2⟩; have hR2' := Kd.R_mono (Kd.R_tight rfl hR2) (ok' := oki) (fun k hk => HRV.out.1 k hk.symm); have hS2 := Kd.H_back (Kd.H_kept HHH.out hK2 (fun k h1 h2 h3 => h2 h3)) (Kd.M_row hR2') (fun k hk => hk); rw [Int.toNat_natCast, HT0.out.symm, ← HMK.out] at hS2; have HS2 := Aside0.mk hS2; have HB2 := Aside0.mk hB2; have HK2 := Aside0.mk (HKW.out.then_ hK2 (fun k hk => .inl (HOKI.out k hk).1)); clear hR2 hR2' hS2 hB2 hK2))
   go_roundw
   case measure =>
    have := HLT.out
    simp [intOf]
    omega
   case rel => exact ⟨j + 1, by rw [Int.natCast_succ], rfl, ⟨HLT.out⟩, HS2, HB2, HK2⟩
  ·obtain rfl : j = n := by omega
   clear hj hn hlt
   go_wp2
   go_ret
   rw [← hxl]
   exact ⟨rfl, by rw [hxl]; exact HSJ.out, HBW.out, HKW.out⟩
theorem heldSS_calls {K n c : Nat} {A : Option Addr} {l : List (List Int)} {mm : Int} {W : World} (hn : l.length = n) (hc : n ≤ c) (hr : Kd.C (Kd.slice 3 (Kd.int .i64)) W A l.length l) (h : laws_heldIntSS.f K l 1 = some mm) :
  Calls Tryd.prog 31 #[.slice A n c, .int .i64 1] W fun e w' => e = .returned (.int .i64 mm) ∧ Drawn0 W w' := by
 subst hn
 exact laws_heldIntSS.calls K A c l 1 mm W hr hc h
end Go.Proofs.YtbodhggmhbiebaaDoor.G
