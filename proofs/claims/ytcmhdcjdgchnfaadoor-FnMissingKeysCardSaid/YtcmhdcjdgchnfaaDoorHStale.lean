/-
 staleIn, StaleTasks, StaleTime by hand. (total: HTotal.)
-/
import Derived.Test.YtcmhdcjdgchnfaaDoorHGOf
import Derived.Test.YtcmhdcjdgchnfaaDoorG0
import Derived.Test.YtcmhdcjdgchnfaaDoorG11
namespace Go.Proofs.YtcmhdcjdgchnfaaDoor.G
open Go.RowKit Go.Proofs.YtcmhdcjdgchnfaaDoorW.PrintWords Go.Proofs.YtcmhdcjdgchnfaaDoorW.PrintLast Go.Proofs.YtcmhdcjdgchnfaaDoorW.PrintMore C
set_option linter.unusedVariables false
set_option linter.unusedSimpArgs false

/-- What has changed, and what needs some of it, along the order. -/
def staleN (nd od : List Nat) (s : Nat) : Nat := od.foldl (fun s i => if nd.getD i 0 &&& s = 0 then s else s ||| 2 ^ i) s
theorem staleN_snoc (nd od : List Nat) (i s : Nat) : staleN nd (od ++ [i]) s = if nd.getD i 0 &&& staleN nd od s = 0 then staleN nd od s else staleN nd od s ||| 2 ^ i := by
 unfold staleN
 rw [List.foldl_append]
 rfl
theorem staleN_lt {n : Nat} {nd : List Nat} : ∀ (od : List Nat) {s : Nat}, s < 2 ^ n → (∀ i, i ∈ od → i < n) → staleN nd od s < 2 ^ n := by
 intro od
 induction od using snoc_ind with
 | h0 => intro s hs _; exact hs
 | hs od i ih =>
  intro s hs h
  rw [staleN_snoc]
  have := ih hs (fun i hi => h i (by simp [hi]))
  split
  ·exact this
  ·exact Nat.or_lt_two_pow this (pow_lt (h i (by simp)))
def stN (l0 : List S69) (l1 : List Int) : Nat := staleN (ndm l0) (ord l0) (maskGo 0 l1)
theorem stN_lt {l0 : List S69} {l1 : List Int} (h : sok l0 l1 = true) : stN l0 l1 < 2 ^ l0.length := by
 unfold sok at h
 simp only [Bool.and_eq_true] at h
 exact staleN_lt _ (maskGo_lt (gok8 h.1) h.2) (fun i hi => (ord_mem h.1).1 hi)
set_option maxHeartbeats 8000000 in
set_option maxRecDepth 1000000 in
theorem staleIn_yes {A0 A1 : Option Addr} {c0 c1 : Nat} {l0 : List S69} {l1 : List Int} {w : World} (h : sok l0 l1 = true) (hr0 : Kd.C k69 w A0 l0.length l0) (hc0 : l0.length ≤ c0) (hr1 : Kd.C (Kd.int .i64) w A1 l1.length l1) (hc1 : l1.length ≤ c1) (ht : Tab w) :
  Calls Tryd.prog 37 #[.slice A0 l0.length c0, .slice A1 l1.length c1] w fun e w' => ∃ g, e = .returned (.tuple #[.pointer (some ⟨g, 0, none⟩), .int .u16 (stN l0 l1 : Nat), .bool true]) ∧ IsG w.heap.size w' g l0.length l0 (ndm l0) (ord l0) (bel l0) (abv l0) ∧ Below w.heap.size w w' := by
 have h' := h
 unfold sok at h'
 simp only [Bool.and_eq_true] at h'
 have h8 := gok8 h'.1
 have HGO := Aside0.mk (graphOf_yes h'.1 hr0 hc0 ht)
 have HSO := Aside0.mk (show impl_setOf.f 200 l1 (l0.length : Int) = some (((maskGo 0 l1 : Nat) : Int), true) by rw [setOf_eq h8 _ _ (by decide), if_pos h'.2])
 have HR1 := Aside0.mk hr1
 have HC1 := Aside0.mk hc1
 have HMS := Aside0.mk (maskGo_lt h8 h'.2)
 have HND := Aside0.mk (ndm_sets (gok_fine h'.1))
 have HOM := Aside0.mk (fun i => (ord_mem h'.1 (i := i)).1)
 have HOL := Aside0.mk (ord_len h'.1)
 obtain ⟨st, hst⟩ : ∃ s, maskGo 0 l1 = s := ⟨_, rfl⟩
 have HST := Aside0.mk (show stN l0 l1 = staleN (ndm l0) (ord l0) st by unfold stN; rw [hst])
 rw [hst] at HSO HMS
 obtain ⟨n, hn⟩ : ∃ n, l0.length = n := ⟨_, rfl⟩
 obtain ⟨nd, hnd⟩ : ∃ n, ndm l0 = n := ⟨_, rfl⟩
 obtain ⟨od, hod⟩ : ∃ n, ord l0 = n := ⟨_, rfl⟩
 rw [hn] at HGO HND HOM HOL HSO HMS ⊢
 rw [hnd] at HGO HST HND ⊢
 rw [hod] at HGO HST HOM HOL ⊢
 have H8 := Aside0.mk (hn ▸ h8)
 clear h h' hr0 hc0 hr1 hc1 ht h8 hst hn hnd hod
 go_enter Tryd.func37, Tryd.ntmps37
 go_wp2_with (first | (go_at_call 31; refine HGO.out.mono ?_; rintro e w1 ⟨g, rfl, hG, hB⟩; have HG := Aside0.mk hG; have HB := Aside0.mk hB; clear hG hB) | (go_at_call 33; refine (size_calls HG.out).mono ?_; rintro e w2 ⟨rfl, hw2⟩; rw [hw2]; clear hw2 w2) | (go_at_call 59; refine (impl_setOf.calls 200 A1 c1 l1 _ _ _ w1 (Kd.C_below HR1.out HB.out) HC1.out HSO.out).mono ?_; rintro e w3 ⟨rfl, hD⟩; have HD := Aside0.mk hD; obtain ⟨Aa, ca, An, cn, Ao, co, Pb, Pa, hg, hca, hCt, hCn, hRo, hCb, hCa⟩ := HG.out.drawn hD; have hx2 : w3.cell? ⟨g, 2, none⟩ = some (.slice Ao n co) := (cell_blk hg 2).trans rfl; have HGB := Aside0.mk hg; have HCN := Aside0.mk hCn; have HCO := Aside0.mk (Kd.R_reads' hRo).2.2; clear hg hca hCt hCn hRo hCb hCa hD))
 go_loopw [9, 33] (fun v9 v33 w' => ∃ (j s : Nat), v33 = .int .i64 (j : Nat) ∧ v9 = .int .u16 (s : Nat) ∧ Aside0 (j ≤ n) ∧ Aside0 (staleN nd (od.take j) st = s) ∧ Aside0 (Drawn0 w3 w')) (fun _ v33 _ => n - (intOf v33).toNat)
 case atStart => exact ⟨0, st, rfl, rfl, ⟨Nat.zero_le _⟩, ⟨rfl⟩, ⟨Drawn0.refl _⟩⟩
 case round =>
  obtain ⟨j, s, rfl, rfl, HJ, HS, HDW⟩ := hrel
  have hB := HDW.out.below
  have hx1 := (drawn_cell HDW.out ⟨g, 1, none⟩).trans ((cell_blk HGB.out 1).trans (rfl : _ = some (Value.slice An n cn)))
  by_cases hlt : j < n
  ·obtain ⟨i, hi⟩ : ∃ i, od.getD j 0 = i := ⟨_, rfl⟩
   have hcl : (castL od).length = n := by rw [castL_length]; exact HOL.out
   obtain ⟨ad1, e1, cj⟩ := Kd.at_int (Kd.C_below HCO.out hB) (j : Int) (by omega) (by rw [hcl]; omega)
   rw [Int.toNat_natCast, rd_castL, hi] at cj
   subst e1
   have hin : i < n := HOM.out i (by rw [← hi, List.getD_eq_getElem?_getD, List.getElem?_eq_getElem (by have := HOL.out; omega)]; exact List.getElem_mem _)
   obtain ⟨ad2, e2, ci⟩ := Kd.at_int (Kd.C_below HCN.out hB) (i : Int) (by omega) (by omega)
   rw [Int.toNat_natCast, rd_castL] at ci
   subst e2
   obtain ⟨mi, hmi⟩ : ∃ m, nd.getD i 0 = m := ⟨_, rfl⟩
   rw [hmi] at ci
   have hm16 : mi < 65536 := Nat.lt_trans (pow8 H8.out (hmi ▸ HND.out.get i)) (by decide)
   have hs2 : s < 2 ^ n := by rw [← HS.out]; exact staleN_lt _ HMS.out (fun x hx => HOM.out x (List.mem_of_mem_take hx))
   have hs16 : s < 65536 := Nat.lt_trans (pow8 H8.out hs2) (by decide)
   have hand := and16 hm16 hs16
   have hnext : staleN nd (od.take (j + 1)) st = if mi &&& s = 0 then s else s ||| 2 ^ i := by
    rw [take_snoc (by have := HOL.out; omega), staleN_snoc, hi, hmi, HS.out]
   have qj : (j : Int) < (n : Int) := by omega
   have qi : (i : Int) < (n : Int) := by omega
   have hj8 : (j : Int) < 9 := by have := H8.out; omega
   obtain ⟨q, hq⟩ : ∃ q, mi &&& s = q := ⟨_, rfl⟩
   rw [hq] at hand hnext
   by_cases c : q = 0
   ·subst c
    rw [if_pos rfl] at hnext
    have HX := Aside0.mk hnext
    clear hnext hq hmi hi hm16 hs2 hs16 hlt hcl hB hin
    go_wp2
    go_roundw
    case measure =>
     simp [intOf]
     omega
    case rel => exact ⟨j + 1, s, by rw [Int.natCast_succ], rfl, ⟨by omega⟩, HX, ⟨by repeat (first | exact HDW.out | apply Drawn0.step)⟩⟩
   ·rw [if_neg c] at hnext
    have hqb : ((q : Int) == 0) = false := beq_eq_false_iff_ne.2 (by omega)
    have HX := Aside0.mk hnext
    have HWI := Aside0.mk (with_eq hs16 (show i < 16 by have := H8.out; omega))
    clear hnext hq hmi hi hm16 hs2 hs16 hlt hcl hB hin c
    go_wp2_with (first | (go_at_call 53; refine (impl_set_with.calls _ _ _ _ HWI.out).mono ?_; rintro e w5 ⟨rfl, hD⟩; have HD5 := Aside0.mk hD; clear hD))
    go_roundw
    case measure =>
     simp [intOf]
     omega
    case rel => exact ⟨j + 1, s ||| 2 ^ i, by rw [Int.natCast_succ], rfl, ⟨by omega⟩, HX, ⟨drawn_trans HDW.out HD5.out⟩⟩
  ·have hjn : j = n := by have := HJ.out; omega
   subst hjn
   have HX := Aside0.mk (show stN l0 l1 = s by rw [HST.out, ← HS.out, List.take_of_length_le (by have := HOL.out; omega)])
   clear hlt hB
   go_wp2
   refine bodyPost_ret (results_tmp3 rfl _ _ _) rfl ?_
   refine ⟨g, by rw [HX.out]; rfl, (HG.out.drawn HD.out).drawn HDW.out, HB.out.trans ((HD.out.below.mono HB.out.size).trans (HDW.out.below.mono (Nat.le_trans HB.out.size HD.out.below.size)))⟩
set_option maxHeartbeats 8000000 in
set_option maxRecDepth 1000000 in
theorem staleIn_no {A0 A1 : Option Addr} {c0 c1 : Nat} {l0 : List S69} {l1 : List Int} {w : World} (h : sok l0 l1 = false) (hr0 : Kd.C k69 w A0 l0.length l0) (hc0 : l0.length ≤ c0) (hr1 : Kd.C (Kd.int .i64) w A1 l1.length l1) (hc1 : l1.length ≤ c1) (ht : Tab w) :
  Calls Tryd.prog 37 #[.slice A0 l0.length c0, .slice A1 l1.length c1] w fun e w' => e = .returned (.tuple #[.pointer none, .int .u16 0, .bool false]) ∧ Below w.heap.size w w' := by
 rcases sok_cases h with hg | ⟨hg, ha⟩
 ·have HGO := Aside0.mk (graphOf_no hg hr0 hc0)
  clear h hr0 hc0 hr1 hc1 ht hg
  go_enter Tryd.func37, Tryd.ntmps37
  go_wp2_with (first | (go_at_call 31; refine HGO.out.mono ?_; rintro e w1 ⟨rfl, hB⟩; have HB := Aside0.mk hB; clear hB))
  refine bodyPost_ret (results_tmp3 rfl _ _ _) rfl ?_
  exact ⟨rfl, HB.out⟩
 ·have h8 := gok8 hg
  have HGO := Aside0.mk (graphOf_yes hg hr0 hc0 ht)
  have HSO := Aside0.mk (show impl_setOf.f 200 l1 (l0.length : Int) = some (0, false) by rw [setOf_eq h8 _ _ (by decide), if_neg (by rw [ha]; decide)])
  have HR1 := Aside0.mk hr1
  have HC1 := Aside0.mk hc1
  clear h hr0 hc0 hr1 hc1 ht h8 hg ha
  go_enter Tryd.func37, Tryd.ntmps37
  go_wp2_with (first | (go_at_call 31; refine HGO.out.mono ?_; rintro e w1 ⟨g, rfl, hG, hB⟩; have HG := Aside0.mk hG; have HB := Aside0.mk hB; clear hG hB) | (go_at_call 33; refine (size_calls HG.out).mono ?_; rintro e w2 ⟨rfl, hw2⟩; rw [hw2]; clear hw2 w2) | (go_at_call 59; refine (impl_setOf.calls 200 A1 c1 l1 _ _ _ w1 (Kd.C_below HR1.out HB.out) HC1.out HSO.out).mono ?_; rintro e w3 ⟨rfl, hD⟩; have HD := Aside0.mk hD; clear hD))
  refine bodyPost_ret (results_tmp3 rfl _ _ _) rfl ?_
  exact ⟨rfl, HB.out.trans (HD.out.below.mono HB.out.size)⟩
def impl_StaleTasks.f (l0 : List S69) (l1 : List Int) : Option (List Int) := some (if sok l0 l1 = true then castL (elems (stN l0 l1)) else [])
set_option maxHeartbeats 8000000 in
set_option maxRecDepth 1000000 in
theorem impl_StaleTasks.calls (A0 : Option Addr) (c0 : Nat) (l0 : List S69) (A1 : Option Addr) (c1 : Nat) (l1 : List Int) (r : List Int) (w : World) (hr0 : Kd.C k69 w A0 l0.length l0) (hc0 : l0.length ≤ c0) (hr1 : Kd.C (Kd.int .i64) w A1 l1.length l1) (hc1 : l1.length ≤ c1) (h : impl_StaleTasks.f l0 l1 = some r) (hT_ : Tab w) :
  Calls Tryd.prog 13 #[.slice A0 l0.length c0, .slice A1 l1.length c1] w fun e w' => ∃ v0_ : Value, e = .returned (v0_) ∧ Kd.R (Kd.int .i64) 3 w' w.heap.size (fun _ => True) v0_ r ∧ Below w.heap.size w w' := by
 injection h with h
 subst h
 by_cases hs : sok l0 l1 = true
 ·rw [if_pos hs]
  have hg : gok l0 = true := by
   unfold sok at hs
   simp only [Bool.and_eq_true] at hs
   exact hs.1
  have HSI := Aside0.mk (staleIn_yes hs hr0 hc0 hr1 hc1 hT_)
  have HT := Aside0.mk hT_
  have HX := Aside0.mk (Nat.lt_trans (pow8 (gok8 hg) (stN_lt hs)) (by decide : 256 < 65536))
  clear hs hr0 hc0 hr1 hc1 hT_ hg
  go_enter Tryd.func13, Tryd.ntmps13
  go_wp2_with (first | (go_at_call 37; refine HSI.out.mono ?_; rintro e w1 ⟨g, rfl, hG, hB⟩; have HB := Aside0.mk hB; clear hG hB) | (go_at_call 38; refine (list_calls HX.out (HT.out.below HB.out HT.out.pos) (HT.out.below HB.out HT.out.pos).pos).mono ?_; rintro e w2 ⟨v, rfl, hR, hB2⟩; have HR := Aside0.mk hR; have HB2 := Aside0.mk hB2; clear hR hB2))
  go_ret
  exact ⟨v, rfl, Kd.R_lower HR.out HB.out.size, HB.out.trans (HB2.out.mono HB.out.size)⟩
 ·rw [if_neg hs]
  have HSI := Aside0.mk (staleIn_no (Bool.eq_false_iff.2 hs) hr0 hc0 hr1 hc1 hT_)
  clear hs hr0 hc0 hr1 hc1 hT_
  go_enter Tryd.func13, Tryd.ntmps13
  go_wp2_with (first | (go_at_call 37; refine HSI.out.mono ?_; rintro e w1 ⟨rfl, hB⟩; have HB := Aside0.mk hB; clear hB))
  go_ret
  exact ⟨_, rfl, Kd.R_nil _ _ _ _ _, HB.out⟩
end Go.Proofs.YtcmhdcjdgchnfaaDoor.G
