/-
 slices.Contains, MissingKeys by hand.
-/
import Derived.Test.YtcmhdcjdgchnfaaDoorHKeys
import Derived.Test.YtcmhdcjdgchnfaaDoorHRel
import Derived.Test.YtcmhdcjdgchnfaaDoorG0
namespace Go.Proofs.YtcmhdcjdgchnfaaDoor.G
open Go.RowKit Go.Proofs.YtcmhdcjdgchnfaaDoorW.PrintWords Go.Proofs.YtcmhdcjdgchnfaaDoorW.PrintLast Go.Proofs.YtcmhdcjdgchnfaaDoorW.PrintMore C
set_option linter.unusedVariables false
set_option linter.unusedSimpArgs false
attribute [local go_sem] Oper.semAt_some

/-- Where x lies first; -1 if nowhere. -/
def idx (l : List Int) (x : Int) : Int := if l.contains x then (l.idxOf x : Int) else -1
set_option maxHeartbeats 8000000 in
set_option maxRecDepth 1000000 in
theorem index_calls {A : Option Addr} {c : Nat} {l : List Int} {x : Int} {w : World} (hr : Kd.C (Kd.int .i64) w A l.length l) (hl : l.length ≤ 1000) :
  Calls Tryd.prog 60 #[.slice A l.length c, .int .i64 x] w fun e w' => e = .returned (.int .i64 (idx l x)) ∧ w' = w := by
 have HR := Aside0.mk hr
 obtain ⟨n, hn⟩ : ∃ n, l.length = n := ⟨_, rfl⟩
 have HN := Aside0.mk (show n ≤ 1000 ∧ l.length = n from ⟨hn ▸ hl, hn⟩)
 rw [hn] at HR ⊢
 clear hr hl hn
 go_enter Tryd.func60, Tryd.ntmps60
 go_wp2
 go_loopw [8] (fun v8 w' => ∃ (j : Nat), v8 = .int .i64 (j : Nat) ∧ Aside0 (j ≤ n ∧ ∀ i, i < j → l.getD i 0 ≠ x) ∧ w' = w) (fun v8 _ => n - (intOf v8).toNat)
 case atStart => exact ⟨0, rfl, ⟨Nat.zero_le _, fun i hi => by omega⟩, rfl⟩
 case round =>
  obtain ⟨j, rfl, HJ, ew⟩ := hrel
  subst ew
  have hj := HJ.out.1
  have hn := HN.out.1
  by_cases hlt : j < n
  ·obtain ⟨ad, ead, cj⟩ := Kd.at_int HR.out (j : Int) (by omega) (by omega)
   rw [Int.toNat_natCast, rd_nat] at cj
   subst ead
   obtain ⟨y, hy⟩ : ∃ y, l.getD j 0 = y := ⟨_, rfl⟩
   rw [hy] at cj
   have qj : (j : Int) < (n : Int) := by omega
   have hj8 : (j : Int) < 1001 := by omega
   have HY := Aside0.mk hy
   clear hj hn hy
   by_cases hxy : x = y
   ·have HX := Aside0.mk (show idx l x = (j : Int) by
     have hl := HN.out.2
     have hjl : j < l.length := by omega
     have hg : l[j] = x := by
      have := HY.out
      rw [List.getD_eq_getElem?_getD, List.getElem?_eq_getElem hjl] at this
      rw [hxy]
      exact this
     have hmem : x ∈ l := hg ▸ List.getElem_mem hjl
     unfold idx
     rw [if_pos (List.contains_iff_mem.2 hmem)]
     congr 1
     have h1 := List.idxOf_lt_length_iff.2 hmem
     have h2 : l[l.idxOf x] = x := List.getElem_idxOf h1
     rcases Nat.lt_trichotomy (l.idxOf x) j with h | h | h
     ·refine absurd ?_ (HJ.out.2 _ h)
      rw [List.getD_eq_getElem?_getD, List.getElem?_eq_getElem h1]
      exact h2
     ·exact h
     ·have hf := List.not_of_lt_findIdx (p := fun a => a == x) (xs := l) h
      rw [hg] at hf
      simp at hf)
    subst hxy
    go_wp2
    go_ret
    exact ⟨by rw [HX.out]; rfl, rfl⟩
   ·have hb : (x == y) = false := beq_eq_false_iff_ne.2 hxy
    have HNX := Aside0.mk hxy
    clear hxy
    go_wp2
    go_roundw
    case measure =>
     simp [intOf]
     omega
    case rel => exact ⟨j + 1, by rw [Int.natCast_succ], ⟨by omega, fun i hi => by
     rcases Nat.lt_or_ge i j with h | h
     ·exact HJ.out.2 i h
     ·obtain rfl : i = j := by omega
      rw [HY.out]
      exact fun e => HNX.out e.symm⟩, trivial⟩
  ·have HX := Aside0.mk (show idx l x = -1 by
    unfold idx
    rw [if_neg (fun h => by
     obtain ⟨i, hi, e⟩ := List.getElem_of_mem (List.contains_iff_mem.1 h)
     refine HJ.out.2 i (by have := HN.out.2; omega) ?_
     rw [List.getD_eq_getElem?_getD, List.getElem?_eq_getElem hi]
     exact e)])
   have hjn : j = n := by omega
   clear hj hn hlt
   subst hjn
   go_wp2
   go_ret
   exact ⟨by rw [HX.out]; rfl, rfl⟩
theorem idx_ge (l : List Int) (x : Int) : decide (idx l x ≥ 0) = l.contains x := by
 unfold idx
 cases h : l.contains x with
 | true => rw [if_pos rfl]; exact decide_eq_true (by omega)
 | false => rw [if_neg (by decide)]; rfl
theorem contains_calls {A : Option Addr} {c : Nat} {l : List Int} {x : Int} {w : World} (hr : Kd.C (Kd.int .i64) w A l.length l) (hl : l.length ≤ 1000) :
  Calls Tryd.prog 40 #[.slice A l.length c, .int .i64 x] w fun e w' => e = .returned (.bool (l.contains x)) ∧ w' = w := by
 have HC := Aside0.mk (index_calls (c := c) (x := x) hr hl)
 have HX := Aside0.mk (idx_ge l x)
 clear hr hl
 obtain ⟨v, hv⟩ : ∃ v, idx l x = v := ⟨_, rfl⟩
 obtain ⟨n, hn⟩ : ∃ n, l.length = n := ⟨_, rfl⟩
 rw [hv] at HC HX
 rw [hn] at HC ⊢
 clear hv hn
 rw [← HX.out]
 go_enter Tryd.func40, Tryd.ntmps40
 go_wp2_with (first | (go_at_call 60; refine HC.out.mono ?_; rintro e w1 ⟨rfl, hw⟩; rw [hw]; clear hw w1))
 go_ret
 exact ⟨rfl, rfl⟩
/-- The numbers below i whose key is not stored. -/
def missTo (ks l2 : List Int) (i : Nat) : List Nat := (List.range i).filter (fun j => !(l2.contains (ks.getD j 0)))
theorem missTo_succ (ks l2 : List Int) (i : Nat) : missTo ks l2 (i + 1) = if l2.contains (ks.getD i 0) = true then missTo ks l2 i else missTo ks l2 i ++ [i] := by
 unfold missTo
 rw [List.range_succ, List.filter_append]
 by_cases h : l2.contains (ks.getD i 0) = true
 ·rw [if_pos h]
  simp only [List.filter_cons, h, Bool.not_true, List.filter_nil]
  simp
 ·rw [if_neg h]
  simp only [List.filter_cons, Bool.eq_false_iff.2 h, Bool.not_false, List.filter_nil]
  simp
theorem missTo_len (ks l2 : List Int) (i : Nat) : (missTo ks l2 i).length ≤ i := by
 have := List.length_filter_le (fun j => !(l2.contains (ks.getD j 0))) (List.range i)
 rw [List.length_range] at this
 exact this
def miss (ks l2 : List Int) : List Int := castL (missTo ks l2 ks.length)
/-- The keys, or none. -/
def keysOr (l0 : List S69) (l1 : List Int) : List Int := if vin l0 l1 = true then keysN (ndm l0) l1 l0.length (ord l0) else []
theorem keysOr_len (l0 : List S69) (l1 : List Int) : (keysOr l0 l1).length ≤ 8 := by
 unfold keysOr
 by_cases c : vin l0 l1 = true
 ·rw [if_pos c, keysN_len]
  exact gok8 (vin_parts c).1
 ·rw [if_neg c]; simp
def impl_MissingKeys.f (l0 : List S69) (l1 : List Int) (l2 : List Int) : Option (List Int) := some (if (keysOr l0 l1).length = l0.length ∧ l2.length ≤ 20 ∧ gok l0 = true then miss (keysOr l0 l1) l2 else [])
set_option maxHeartbeats 8000000 in
set_option maxRecDepth 1000000 in
theorem miss_no {A0 A1 A2 : Option Addr} {c0 c1 c2 : Nat} {l0 : List S69} {l1 l2 : List Int} {w : World} (hno : ¬ ((keysOr l0 l1).length = l0.length ∧ l2.length ≤ 20 ∧ gok l0 = true)) (hr0 : Kd.C k69 w A0 l0.length l0) (hc0 : l0.length ≤ c0) (hr1 : Kd.C (Kd.int .i64) w A1 l1.length l1) (hc1 : l1.length ≤ c1) (ht : Tab w) :
  Calls Tryd.prog 16 #[.slice A0 l0.length c0, .slice A1 l1.length c1, .slice A2 l2.length c2] w fun e w' => e = .returned (.slice none 0 0) ∧ Below w.heap.size w w' := by
 have HK := Aside0.mk (impl_TaskKeys.calls A0 c0 l0 A1 c1 l1 (keysOr l0 l1) w hr0 hc0 hr1 hc1 rfl ht)
 obtain ⟨ks, hks⟩ : ∃ k, keysOr l0 l1 = k := ⟨_, rfl⟩
 rw [hks] at HK hno
 have HR0 := Aside0.mk hr0
 have HT := Aside0.mk ht
 have HC0 := Aside0.mk hc0
 have HV := Aside0.mk (fun (w1 : World) (hb : Below w.heap.size w w1) => impl_ValidGraph.calls A0 c0 l0 (gok l0) w1 (Kd.C_below hr0 hb) hc0 rfl (ht.below hb ht.pos))
 obtain ⟨n, hn⟩ : ∃ n, l0.length = n := ⟨_, rfl⟩
 obtain ⟨m, hm⟩ : ∃ n, ks.length = n := ⟨_, rfl⟩
 obtain ⟨q, hq⟩ : ∃ n, l2.length = n := ⟨_, rfl⟩
 have HM := Aside0.mk hm
 obtain ⟨b, hb⟩ : ∃ b, gok l0 = b := ⟨_, rfl⟩
 rw [hn] at HK hno HV ⊢
 rw [hm, hq, hb] at hno
 rw [hq]
 rw [hb] at HV
 clear hr0 hc0 hr1 hc1 ht hks hn hm hq hb
 by_cases c1 : m = n
 ·by_cases c2 : q ≤ 20
  ·have hbf : b = false := Bool.eq_false_iff.2 (fun h => hno ⟨c1, c2, h⟩)
   subst hbf
   subst c1
   have hgt : ¬ (q : Int) > 20 := by omega
   clear hno c2
   go_enter Tryd.func16, Tryd.ntmps16
   go_wp2_with (first | (go_at_call 10; refine HK.out.mono ?_; rintro e w1 ⟨v, rfl, hR, hB⟩; obtain ⟨Av, cv, ev⟩ := Kd.R_slice hR; subst ev; rw [HM.out]; have HB := Aside0.mk hB; clear hR hB) | (go_at_call 18; refine (HV.out _ HB.out).mono ?_; rintro e w2 ⟨rfl, hB2⟩; have HB2 := Aside0.mk hB2; clear hB2))
   go_ret
   exact ⟨rfl, HB.out.trans (HB2.out.mono HB.out.size)⟩
  ·subst c1
   have hgt : (q : Int) > 20 := by omega
   clear hno c2
   go_enter Tryd.func16, Tryd.ntmps16
   go_wp2_with (first | (go_at_call 10; refine HK.out.mono ?_; rintro e w1 ⟨v, rfl, hR, hB⟩; obtain ⟨Av, cv, ev⟩ := Kd.R_slice hR; subst ev; rw [HM.out]; have HB := Aside0.mk hB; clear hR hB))
   go_ret
   exact ⟨rfl, HB.out⟩
 ·have hb : ((m : Int) != (n : Int)) = true := bne_iff_ne.2 (by omega)
  clear hno c1
  go_enter Tryd.func16, Tryd.ntmps16
  go_wp2_with (first | (go_at_call 10; refine HK.out.mono ?_; rintro e w1 ⟨v, rfl, hR, hB⟩; obtain ⟨Av, cv, ev⟩ := Kd.R_slice hR; subst ev; rw [HM.out]; have HB := Aside0.mk hB; clear hR hB))
  go_ret
  exact ⟨rfl, HB.out⟩
set_option maxHeartbeats 8000000 in
set_option maxRecDepth 1000000 in
theorem miss_yes {A0 A1 A2 : Option Addr} {c0 c1 c2 : Nat} {l0 : List S69} {l1 l2 : List Int} {w : World} (hm1 : (keysOr l0 l1).length = l0.length) (hm2 : l2.length ≤ 20) (hm3 : gok l0 = true) (hr0 : Kd.C k69 w A0 l0.length l0) (hc0 : l0.length ≤ c0) (hr1 : Kd.C (Kd.int .i64) w A1 l1.length l1) (hc1 : l1.length ≤ c1) (hr2 : Kd.C (Kd.int .i64) w A2 l2.length l2) (ht : Tab w) :
  Calls Tryd.prog 16 #[.slice A0 l0.length c0, .slice A1 l1.length c1, .slice A2 l2.length c2] w fun e w' => ∃ v0_ : Value, e = .returned v0_ ∧ Kd.R (Kd.int .i64) 3 w' w.heap.size (fun _ => True) v0_ (miss (keysOr l0 l1) l2) ∧ Below w.heap.size w w' := by
 have HK := Aside0.mk (impl_TaskKeys.calls A0 c0 l0 A1 c1 l1 (keysOr l0 l1) w hr0 hc0 hr1 hc1 rfl ht)
 have hk8 := keysOr_len l0 l1
 obtain ⟨ks, hks⟩ : ∃ k, keysOr l0 l1 = k := ⟨_, rfl⟩
 rw [hks] at HK hm1 hk8 ⊢
 have HT := Aside0.mk ht
 have HR2 := Aside0.mk hr2
 have HCT := Aside0.mk (fun (x : Int) (w1 : World) (h : Kd.C (Kd.int .i64) w1 A2 l2.length l2) => contains_calls (c := c2) (x := x) h (by omega : l2.length ≤ 1000))
 have HV := Aside0.mk (fun (w1 : World) (hb : Below w.heap.size w w1) => impl_ValidGraph.calls A0 c0 l0 true w1 (Kd.C_below hr0 hb) hc0 (show some (gok l0) = some true by rw [hm3]) (ht.below hb ht.pos))
 obtain ⟨n, hn⟩ : ∃ n, l0.length = n := ⟨_, rfl⟩
 obtain ⟨q, hq⟩ : ∃ n, l2.length = n := ⟨_, rfl⟩
 rw [hn] at HK hm1 HV ⊢
 rw [hq] at hm2 HR2 HCT ⊢
 have HM := Aside0.mk (show ks.length = n ∧ n ≤ 8 from ⟨hm1, hm1 ▸ hk8⟩)
 have hgt : ¬ (q : Int) > 20 := by omega
 clear hr0 hc0 hr1 hc1 hr2 ht hks hn hq hm1 hm2 hm3 hk8
 go_enter Tryd.func16, Tryd.ntmps16
 go_wp2_with (first | (go_at_call 10; refine HK.out.mono ?_; rintro e w1 ⟨v, rfl, hR, hB⟩; obtain ⟨Av, cv, ev⟩ := Kd.R_slice hR; subst ev; rw [HM.out.1]; have HKS := Aside0.mk (Kd.R_reads' hR).2.2; have HB := Aside0.mk hB; clear hR hB) | (go_at_call 18; refine (HV.out _ HB.out).mono ?_; rintro e w2 ⟨rfl, hB2⟩; have HB2 := Aside0.mk hB2; clear hB2) | ((with_reducible refine gate_dst (N := 29) rfl ?_); refine Kd.R_lit (Kd.int .i64) _ 3 ?hg (N := 29) ?hd (xs := ([] : List Int)) (inner := []) (ok := fun _ => True) (okp := fun _ => True) ?hr ?hp (fun _ hk => hk) trivial (Below.refl _ _) (Nat.le_refl _) (by simp) ?_; (case hd => rfl); (case hg => rfl); (case hr => first | (go_simp; done) | (go_simp; rfl)); (case hp => exact (Reps.none _ _)); intro v29 w3 ho3 hb3 hg3_ hnew3_; clear hg3_ hnew3_; have HO3 := Aside0.mk ho3; have HB3 := Aside0.mk hb3; clear ho3 hb3))
 have h23 := HB2.out.trans (HB3.out.mono HB2.out.size)
 obtain ⟨A3, c3, e3⟩ := Kd.R_slice HO3.out
 subst e3
 have HO := Aside0.mk (Kd.R_lower HO3.out HB2.out.size)
 have H23 := Aside0.mk h23
 clear h23 HO3 HB2 HB3
 go_loopw [8, 32] (fun v8 v32 w' => ∃ (j : Nat) (A8 : Option Addr) (c8 : Nat), v32 = .int .i64 (j : Nat) ∧ v8 = .slice A8 (castL (missTo ks l2 j)).length c8 ∧ Aside0 (j ≤ n) ∧ Aside0 (Kd.R (Kd.int .i64) 3 w' w1.heap.size (fun _ => True) (.slice A8 (castL (missTo ks l2 j)).length c8) (castL (missTo ks l2 j))) ∧ Aside0 (Below w1.heap.size w1 w')) (fun _ v32 _ => n - (intOf v32).toNat)
 case atStart => exact ⟨0, A3, c3, rfl, rfl, ⟨Nat.zero_le _⟩, HO, H23⟩
 case round =>
  obtain ⟨j, A8, c8, rfl, rfl, HJ, HR, HBw⟩ := hrel
  have hj := HJ.out
  have hn := HM.out
  by_cases hlt : j < n
  ·obtain ⟨ad, ead, cj⟩ := Kd.at_int (Kd.C_below HKS.out HBw.out) (j : Int) (by omega) (by omega)
   rw [Int.toNat_natCast, rd_nat] at cj
   subst ead
   obtain ⟨x, hx⟩ : ∃ x, ks.getD j 0 = x := ⟨_, rfl⟩
   have hs := missTo_succ ks l2 j
   have hl := missTo_len ks l2 j
   rw [hx] at cj hs
   have HC := Aside0.mk (HCT.out x _ (Kd.C_below (Kd.C_below HR2.out HB.out) HBw.out))
   obtain ⟨b, hb⟩ : ∃ b, l2.contains x = b := ⟨_, rfl⟩
   rw [hb] at HC hs
   have qj : (j : Int) < (n : Int) := by omega
   have hj8 : (j : Int) < 9 := by omega
   have hlen : ((castL (missTo ks l2 j)).length + 1) * 8 ≤ 140737488355328 := by rw [castL_length]; omega
   have HS := Aside0.mk hs
   have HLT := Aside0.mk hlt
   clear hj hn hb hx hs hl hlt
   cases b with
   | true =>
    have HE := Aside0.mk (show missTo ks l2 (j + 1) = missTo ks l2 j by rw [HS.out, if_pos rfl])
    go_wp2_with (first | (go_at_call 40; refine HC.out.mono ?_; rintro e w4 ⟨rfl, hw⟩; rw [hw]; clear hw w4))
    go_roundw
    case measure =>
     have := HLT.out
     simp [intOf]
     omega
    case rel => exact ⟨_, _, _, _, _, _, _, _, _, _, _, _, _, _, _, _, _, ⟨j + 1, A8, c8, rfl, by rw [HE.out], ⟨HLT.out⟩, by rw [HE.out]; exact HR, HBw⟩, rfl⟩
   | false =>
    have HE := Aside0.mk (show missTo ks l2 (j + 1) = missTo ks l2 j ++ [j] by rw [HS.out, if_neg (by decide)])
    go_wp2_with (first | (go_at_call 40; refine HC.out.mono ?_; rintro e w4 ⟨rfl, hw⟩; rw [hw]; clear hw w4) | ((with_reducible refine gate_builtin (b := .append) (xs := #[.tmp 41, .tmp 43]) rfl ?_); at_builtin; go_must (refine Kd.R_append (Kd.int .i64) (w0 := w1) w1.heap.size rfl (.tmp 41) (.tmp 43) 24 3 (.int .i64 0) 8 rfl Tryd.underlying24 info3 rfl (by decide) (by omega) (.slice A8 (castL (missTo ks l2 j)).length c8) (castL (missTo ks l2 j)) (j : Int) [.int .i64 (j : Nat)] (fun _ => True) (fun _ => False) rfl rfl rfl (fun _ hk => hk.elim) (fun _ _ => trivial) HR.out HBw.out HBw.out.size hlen ?_; intro v2 w7 ho hb hg hat; obtain ⟨A7, c7, e7⟩ := Kd.R_slice ho; subst e7; rw [← castL_snoc, ← HE.out] at ho ⊢; have HO7 := Aside0.mk ho; have HB7 := Aside0.mk hb; clear ho hb hg hat)))
    go_roundw
    case measure =>
     have := HLT.out
     simp [intOf]
     omega
    case rel => exact ⟨_, _, _, _, _, _, _, _, _, _, _, _, _, _, _, _, _, ⟨j + 1, A7, c7, rfl, rfl, ⟨HLT.out⟩, HO7, HB7⟩, rfl⟩
  ·have hjn : j = n := by omega
   have HX := Aside0.mk (show castL (missTo ks l2 j) = miss ks l2 by unfold miss; rw [hjn, hn.1])
   clear hj hn hlt
   subst hjn
   go_wp2
   go_ret
   exact ⟨_, rfl, by rw [← HX.out]; exact Kd.R_lower HR.out HB.out.size, HB.out.trans (HBw.out.mono HB.out.size)⟩
theorem impl_MissingKeys.calls (A0 : Option Addr) (c0 : Nat) (l0 : List S69) (A1 : Option Addr) (c1 : Nat) (l1 : List Int) (A2 : Option Addr) (c2 : Nat) (l2 : List Int) (r : List Int) (w : World) (hr0 : Kd.C k69 w A0 l0.length l0) (hc0 : l0.length ≤ c0) (hr1 : Kd.C (Kd.int .i64) w A1 l1.length l1) (hc1 : l1.length ≤ c1) (hr2 : Kd.C (Kd.int .i64) w A2 l2.length l2) (hc2 : l2.length ≤ c2) (h : impl_MissingKeys.f l0 l1 l2 = some r) (hT_ : Tab w) :
  Calls Tryd.prog 16 #[.slice A0 l0.length c0, .slice A1 l1.length c1, .slice A2 l2.length c2] w fun e w' => ∃ v0_ : Value, e = .returned (v0_) ∧ Kd.R (Kd.int .i64) 3 w' w.heap.size (fun _ => True) v0_ r ∧ Below w.heap.size w w' := by
 injection h with h
 subst h
 by_cases c : (keysOr l0 l1).length = l0.length ∧ l2.length ≤ 20 ∧ gok l0 = true
 ·rw [if_pos c]
  exact miss_yes c.1 c.2.1 c.2.2 hr0 hc0 hr1 hc1 hr2 hT_
 ·rw [if_neg c]
  exact (miss_no c hr0 hc0 hr1 hc1 hT_).mono (fun e w' ⟨h1, h2⟩ => ⟨_, h1, Kd.R_nil _ _ _ _ _, h2⟩)
end Go.Proofs.YtcmhdcjdgchnfaaDoor.G
