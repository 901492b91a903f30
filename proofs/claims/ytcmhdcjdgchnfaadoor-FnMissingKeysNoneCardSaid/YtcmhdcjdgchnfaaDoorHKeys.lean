/-
 TaskKeys, MissingKeys by hand.
-/
import Derived.Test.YtcmhdcjdgchnfaaDoorHGOf
import Derived.Test.YtcmhdcjdgchnfaaDoorG0
import Derived.Test.YtcmhdcjdgchnfaaDoorG11
namespace Go.Proofs.YtcmhdcjdgchnfaaDoor.G
open Go.RowKit Go.Proofs.YtcmhdcjdgchnfaaDoorW.PrintWords Go.Proofs.YtcmhdcjdgchnfaaDoorW.PrintLast Go.Proofs.YtcmhdcjdgchnfaaDoorW.PrintMore C
set_option linter.unusedVariables false
set_option linter.unusedSimpArgs false
attribute [local go_sem] Oper.semAt_some

/-- Valid inputs. -/
def vin (l0 : List S69) (l1 : List Int) : Bool := gok l0 && (decide (l1.length = l0.length) && l1.all (fun x => decide (0 ≤ x ∧ x ≤ 1000)))
def kstep (out : List Int) (k : Int) (j : Nat) : Int := Int.tmod (131 * k + out.getD j 0 + 1) 10007
def kbeg (inp : List Int) (i : Nat) : Int := Int.tmod (131 * ((i : Int) + 1) + inp.getD i 0) 10007
def keyN (nd : List Nat) (inp out : List Int) (i : Nat) : Int := (elems (nd.getD i 0)).foldl (kstep out) (kbeg inp i)
/-- The keys, along the order. -/
def keysN (nd : List Nat) (inp : List Int) (n : Nat) (od : List Nat) : List Int := od.foldl (fun out i => out.set i (keyN nd inp out i)) (List.replicate n 0)
theorem keysN_snoc (nd : List Nat) (inp : List Int) (n : Nat) (od : List Nat) (i : Nat) : keysN nd inp n (od ++ [i]) = (keysN nd inp n od).set i (keyN nd inp (keysN nd inp n od) i) := by
 unfold keysN
 rw [List.foldl_append]
 rfl
theorem tm_bd {a : Int} (h : 0 ≤ a) : 0 ≤ Int.tmod a 10007 ∧ Int.tmod a 10007 ≤ 10006 := by
 rw [Int.tmod_eq_emod_of_nonneg h]
 omega
/-- Each number of a list is a key. -/
def Kb (out : List Int) : Prop := ∀ i, 0 ≤ out.getD i 0 ∧ out.getD i 0 ≤ 10006
theorem kfold_bd {out : List Int} (ho : Kb out) : ∀ (l : List Nat) (k : Int), 0 ≤ k → k ≤ 10006 → 0 ≤ l.foldl (kstep out) k ∧ l.foldl (kstep out) k ≤ 10006
 | [], k, h0, h1 => ⟨h0, h1⟩
 | j :: r, k, h0, h1 => by
  have h := ho j
  have hs := tm_bd (a := 131 * k + out.getD j 0 + 1) (by omega)
  exact kfold_bd ho r (kstep out k j) hs.1 hs.2
theorem Kb.set {out : List Int} (h : Kb out) (i : Nat) {x : Int} (h0 : 0 ≤ x) (h1 : x ≤ 10006) : Kb (out.set i x) := fun j => by
 have hj := h j
 rw [List.getD_eq_getElem?_getD, List.getElem?_set] at *
 split
 ·split
  ·exact ⟨h0, h1⟩
  ·exact ⟨by decide, by decide⟩
 ·exact hj
theorem Kb.zero (n : Nat) : Kb (List.replicate n 0) := fun i => by
 rw [List.getD_eq_getElem?_getD, List.getElem?_replicate]
 split <;> exact ⟨by decide, by decide⟩
theorem kbeg_bd {inp : List Int} {i : Nat} (h : 0 ≤ inp.getD i 0) : 0 ≤ kbeg inp i ∧ kbeg inp i ≤ 10006 := tm_bd (by omega)
theorem keysN_bd {nd : List Nat} {inp : List Int} {n : Nat} (hi : ∀ i : Nat, 0 ≤ inp.getD i 0) : ∀ od : List Nat, Kb (keysN nd inp n od) := by
 intro od
 induction od using snoc_ind with
 | h0 => exact Kb.zero n
 | hs od i ih =>
  rw [keysN_snoc]
  have h1 := kbeg_bd (hi i)
  have h2 := kfold_bd ih (elems (nd.getD i 0)) _ h1.1 h1.2
  exact ih.set i h2.1 h2.2
theorem keysN_len (nd : List Nat) (inp : List Int) (n : Nat) : ∀ od : List Nat, (keysN nd inp n od).length = n := by
 intro od
 induction od using snoc_ind with
 | h0 => simp [keysN]
 | hs od i ih => rw [keysN_snoc, List.length_set, ih]
theorem row_putK {b : Nat} {w W : World} {go n cv i : Nat} {out : List Int} (hR : Kd.R (Kd.int .i64) 3 W b (fun _ => True) (.slice (some ⟨go, 0, none⟩) n cv) out) (hB : Below b w W) (hi : i < n) (x : Int) :
  Kd.R (Kd.int .i64) 3 (W.setCell ⟨go, i, none⟩ (.int .i64 x)) b (fun _ => True) (.slice (some ⟨go, 0, none⟩) n cv) (out.set i x) ∧ Below b w (W.setCell ⟨go, i, none⟩ (.int .i64 x)) := by
 have h := Kd.R_putn hR (i : Int) x
 rw [Int.toNat_natCast] at h
 obtain ⟨_, _, e', hge, _⟩ := Kd.R_form hR (by have := (Kd.R_reads' hR).1; omega)
 injection e' with e' _ _
 injection e' with e'
 injection e' with e' _ _
 exact ⟨h, hB.setCell (p := ⟨go, i, none⟩) (by rw [e']; exact hge) _⟩
theorem keys_no1 {A0 A1 : Option Addr} {c0 c1 : Nat} {l0 : List S69} {l1 : List Int} {w : World} (h : gok l0 = false) (hr0 : Kd.C k69 w A0 l0.length l0) (hc0 : l0.length ≤ c0) :
  Calls Tryd.prog 10 #[.slice A0 l0.length c0, .slice A1 l1.length c1] w fun e w' => e = .returned (.slice none 0 0) ∧ Below w.heap.size w w' := by
 have HGO := Aside0.mk (graphOf_no h hr0 hc0)
 clear h hr0 hc0
 go_enter Tryd.func10, Tryd.ntmps10
 go_wp2_with (first | (go_at_call 31; refine HGO.out.mono ?_; rintro e w1 ⟨rfl, hB⟩; have HB := Aside0.mk hB; clear hB))
 go_ret
 exact ⟨rfl, HB.out⟩
theorem keys_no2 {A0 A1 : Option Addr} {c0 c1 : Nat} {l0 : List S69} {l1 : List Int} {w : World} (h : gok l0 = true) (hl : l1.length ≠ l0.length) (hr0 : Kd.C k69 w A0 l0.length l0) (hc0 : l0.length ≤ c0) (ht : Tab w) :
  Calls Tryd.prog 10 #[.slice A0 l0.length c0, .slice A1 l1.length c1] w fun e w' => e = .returned (.slice none 0 0) ∧ Below w.heap.size w w' := by
 have HGO := Aside0.mk (graphOf_yes h hr0 hc0 ht)
 clear h hr0 hc0 ht
 obtain ⟨n, hn⟩ : ∃ n, l0.length = n := ⟨_, rfl⟩
 obtain ⟨m, hm⟩ : ∃ n, l1.length = n := ⟨_, rfl⟩
 rw [hn] at HGO hl ⊢
 rw [hm] at hl ⊢
 clear hn hm
 have hb : ((m : Int) != (n : Int)) = true := bne_iff_ne.2 (by omega)
 clear hl
 go_enter Tryd.func10, Tryd.ntmps10
 go_wp2_with (first | (go_at_call 31; refine HGO.out.mono ?_; rintro e w1 ⟨g, rfl, hG, hB⟩; have HB := Aside0.mk hB; clear hB hG))
 go_ret
 exact ⟨rfl, HB.out⟩
set_option maxHeartbeats 8000000 in
set_option maxRecDepth 1000000 in
theorem keys_no3 {A0 A1 : Option Addr} {c0 c1 : Nat} {l0 : List S69} {l1 : List Int} {w : World} (h : gok l0 = true) (hl : l1.length = l0.length) {p r : List Int} {x : Int} (hx : l1 = p ++ x :: r) (hp : ∀ y, y ∈ p → 0 ≤ y ∧ y ≤ 1000) (hx2 : ¬ (0 ≤ x ∧ x ≤ 1000)) (hr0 : Kd.C k69 w A0 l0.length l0) (hc0 : l0.length ≤ c0) (hr1 : Kd.C (Kd.int .i64) w A1 l1.length l1) (ht : Tab w) :
  Calls Tryd.prog 10 #[.slice A0 l0.length c0, .slice A1 l1.length c1] w fun e w' => e = .returned (.slice none 0 0) ∧ Below w.heap.size w w' := by
 have h8 := gok8 h
 have HGO := Aside0.mk (graphOf_yes h hr0 hc0 ht)
 have HR1 := Aside0.mk hr1
 have hpl : p.length < l1.length := by rw [hx]; simp
 have HP := Aside0.mk (show ∀ j, j < p.length → impl_within.f (l1.getD j 0) 0 1000 = some true from fun j hj => by
  have e : l1.getD j 0 = p[j] := by rw [hx, List.getD_eq_getElem?_getD, List.getElem?_append_left hj, List.getElem?_eq_getElem hj]; rfl
  rw [within_eq, decide_eq_true (by rw [e]; exact hp _ (List.getElem_mem hj))])
 have HX := Aside0.mk (show impl_within.f (l1.getD p.length 0) 0 1000 = some false by
  have e : l1.getD p.length 0 = x := by rw [hx]; simp
  rw [within_eq, decide_eq_false (by rw [e]; exact hx2)])
 obtain ⟨q, hq⟩ : ∃ q, p.length = q := ⟨_, rfl⟩
 rw [hq] at HP HX hpl
 obtain ⟨n, hn⟩ : ∃ n, l0.length = n := ⟨_, rfl⟩
 rw [hl, hn] at HR1 hpl
 rw [hl]
 rw [hn] at HGO h8 ⊢
 have HQ := Aside0.mk (show q < n ∧ n ≤ 8 from ⟨hpl, h8⟩)
 clear h hl hr0 hc0 hr1 ht h8 hpl hq hn hx hp hx2
 go_enter Tryd.func10, Tryd.ntmps10
 go_wp2_with (first | (go_at_call 31; refine HGO.out.mono ?_; rintro e w1 ⟨g, rfl, hG, hB⟩; have HB := Aside0.mk hB; clear hB hG))
 go_loopw [30] (fun v30 w' => ∃ (j : Nat), v30 = .int .i64 (j : Nat) ∧ Aside0 (j ≤ q) ∧ Aside0 (Below w1.heap.size w1 w')) (fun v30 _ => n - (intOf v30).toNat)
 case atStart => exact ⟨0, rfl, ⟨Nat.zero_le _⟩, ⟨Below.refl _ _⟩⟩
 case round =>
  obtain ⟨j, rfl, HJ, HBw⟩ := hrel
  have hq := HQ.out
  have hj := HJ.out
  obtain ⟨ad, ead, cj⟩ := Kd.at_int (Kd.C_below (Kd.C_below HR1.out HB.out) HBw.out) (j : Int) (by omega) (by omega)
  rw [Int.toNat_natCast, rd_nat] at cj
  subst ead
  have qj : (j : Int) < (n : Int) := by omega
  have hj8 : (j : Int) < 9 := by omega
  by_cases hlt : j < q
  ·have HWI := Aside0.mk (HP.out j hlt)
   clear hq hj
   go_wp2_with (first | (go_at_call 32; refine (impl_within.calls _ _ _ _ _ HWI.out).mono ?_; rintro e w3 ⟨rfl, hD⟩; have HD := Aside0.mk hD; clear hD))
   go_roundw
   case measure =>
    simp [intOf]
    omega
   case rel => exact ⟨j + 1, by rw [Int.natCast_succ], ⟨by omega⟩, ⟨HBw.out.trans (HD.out.below.mono HBw.out.size)⟩⟩
  ·obtain rfl : j = q := by omega
   have HWI := Aside0.mk HX.out
   clear hq hj hlt
   go_wp2_with (first | (go_at_call 32; refine (impl_within.calls _ _ _ _ _ HWI.out).mono ?_; rintro e w3 ⟨rfl, hD⟩; have HD := Aside0.mk hD; clear hD))
   go_ret
   exact ⟨rfl, HB.out.trans ((HBw.out.trans (HD.out.below.mono HBw.out.size)).mono HB.out.size)⟩
set_option maxHeartbeats 16000000 in
set_option maxRecDepth 1000000 in
theorem keys_yes {A0 A1 : Option Addr} {c0 c1 : Nat} {l0 : List S69} {l1 : List Int} {w : World} (h : gok l0 = true) (hl : l1.length = l0.length) (hin : ∀ i : Nat, 0 ≤ l1.getD i 0 ∧ l1.getD i 0 ≤ 1000) (hr0 : Kd.C k69 w A0 l0.length l0) (hc0 : l0.length ≤ c0) (hr1 : Kd.C (Kd.int .i64) w A1 l1.length l1) (ht : Tab w) :
  Calls Tryd.prog 10 #[.slice A0 l0.length c0, .slice A1 l1.length c1] w fun e w' => ∃ v0_ : Value, e = .returned v0_ ∧ Kd.R (Kd.int .i64) 3 w' w.heap.size (fun _ => True) v0_ (keysN (ndm l0) l1 l0.length (ord l0)) ∧ Below w.heap.size w w' := by
 have h8 := gok8 h
 have HGO := Aside0.mk (graphOf_yes h hr0 hc0 ht)
 have HR1 := Aside0.mk hr1
 have HT := Aside0.mk ht
 have HIN := Aside0.mk hin
 have hod := ord_len h
 have hnd := ndm_sets (gok_fine h)
 have hol : ∀ i, i ∈ ord l0 → i < l0.length := fun i hi => (ord_mem h).1 hi
 obtain ⟨n, hn⟩ : ∃ n, l0.length = n := ⟨_, rfl⟩
 obtain ⟨nd, end_⟩ : ∃ d, ndm l0 = d := ⟨_, rfl⟩
 obtain ⟨od, eod⟩ : ∃ d, ord l0 = d := ⟨_, rfl⟩
 rw [hl, hn] at HR1
 rw [hl]
 rw [hn] at HGO h8 hod hol hnd ⊢
 rw [end_] at HGO hnd ⊢
 rw [eod] at HGO hod hol ⊢
 have HH := Aside0.mk (show n ≤ 8 ∧ od.length = n ∧ (∀ i, i ∈ od → i < n) ∧ Sets n nd from ⟨h8, hod, hol, hnd⟩)
 clear h hl hin hr0 hc0 hr1 ht h8 hod hnd hol hn end_ eod
 refine enter_marks Tryd.func10 rfl ?_
 simp only [Tryd.ntmps10, List.size_toArray, List.length_cons, List.length_nil, Nat.reduceAdd, Nat.reduceSub, Array.replicate_succ, Array.replicate_zero, List.push_toArray, List.append_toArray, List.nil_append, List.cons_append]
 go_wp2_with (first | (go_at_call 31; refine HGO.out.mono ?_; rintro e w1 ⟨g, rfl, hG, hB⟩; have HG := Aside0.mk hG; have HBW := Aside0.mk hB; clear hB hG))
 go_loopw [30] (fun v30 w' => ∃ (j : Nat), v30 = .int .i64 (j : Nat) ∧ Aside0 (j ≤ n) ∧ Aside0 (Below w1.heap.size w1 w')) (fun v30 _ => n - (intOf v30).toNat)
 case atStart => exact ⟨0, rfl, ⟨Nat.zero_le _⟩, ⟨Below.refl _ _⟩⟩
 case round =>
  obtain ⟨j, rfl, HJ, HBw⟩ := hrel
  have hj := HJ.out
  have hh := HH.out.1
  by_cases hlt : j < n
  ·obtain ⟨ad, ead, cj⟩ := Kd.at_int (Kd.C_below (Kd.C_below HR1.out HBW.out) HBw.out) (j : Int) (by omega) (by omega)
   rw [Int.toNat_natCast, rd_nat] at cj
   subst ead
   have qj : (j : Int) < (n : Int) := by omega
   have hj8 : (j : Int) < 9 := by omega
   have HWI := Aside0.mk (show impl_within.f (l1.getD j 0) 0 1000 = some true by rw [within_eq, decide_eq_true (HIN.out j)])
   clear hj hh
   go_wp2_with (first | (go_at_call 32; refine (impl_within.calls _ _ _ _ _ HWI.out).mono ?_; rintro e w3 ⟨rfl, hD⟩; have HD := Aside0.mk hD; clear hD))
   go_roundw
   case measure =>
    simp [intOf]
    omega
   case rel => exact ⟨j + 1, by rw [Int.natCast_succ], ⟨by omega⟩, ⟨HBw.out.trans (HD.out.below.mono HBw.out.size)⟩⟩
  ·obtain rfl : j = n := by omega
   have HG2 := Aside0.mk (HG.out.below HBw.out)
   obtain ⟨Aa, ca, An, cn, Ao, co, Pb, Pa, hg, hca, hCt, hCn, hRo, hCb, hCa⟩ := HG.out
   have HGB := Aside0.mk hg
   have HCN := Aside0.mk hCn
   have HCO := Aside0.mk (Kd.R_reads' hRo).2.2
   clear hg hca hCt hCn hRo hCb hCa hj hh hlt
   go_wp2_with (first | (go_at_call 33; refine (size_calls HG2.out).mono ?_; rintro e w2 ⟨rfl, hw2⟩; rw [hw2]; clear hw2 w2) | ((with_reducible refine gate_dst (N := 40) rfl ?_); refine Kd.R_make (Kd.int .i64) w1.heap.size 3 rfl (N := 40) rfl 24 _ _ rfl (j : Int) rfl rfl Tryd.underlying24 (.int .i64 0) 8 info3 rfl (by decide) (by omega) 0 (ok := fun _ => True) (okp := fun _ => True) rfl (fun _ hk => hk) trivial (by omega) (by have := HH.out.1; omega) HBw.out HBw.out.size ?_; intro vo w4 ho hb hg_ hnew_; obtain ⟨Av, cv, ev⟩ := Kd.R_slice ho; subst ev; simp only [List.length_replicate, Int.toNat_natCast] at ho ⊢; have HO := Aside0.mk ho; have HB4 := Aside0.mk hb; have hx2 : (w4.alloc (.cells #[.slice Av j cv] 24 (0, 0))).cell? ⟨g, 2, none⟩ = some (.slice Ao j co) := (cell_blk (al_old ((hb.block g (Array.getElem?_eq_some_iff.1 HGB.out).1).trans HGB.out)) 2).trans rfl; clear ho hb hg_ hnew_))
   have gB := HB4.out.alloc HB4.out.size (.cells #[.slice Av j cv] 24 (0, 0))
   have gO := al_new w4 24 #[.slice Av j cv]
   have gR := Kd.R_alloc HO.out (.cells #[.slice Av j cv] 24 (0, 0))
   obtain ⟨Bo, hBo⟩ : ∃ b, w4.heap.size = b := ⟨_, rfl⟩
   rw [hBo] at gO ⊢
   have HLO := Aside0.mk (show w1.heap.size ≤ Bo by rw [← hBo]; exact HB4.out.size)
   generalize w4.alloc (.cells #[.slice Av j cv] 24 (0, 0)) = w5 at gB gO gR hx2 ⊢
   have GB := Aside0.mk gB
   have GO := Aside0.mk gO
   have GR := Aside0.mk gR
   clear gB gO gR hBo HB4 HO hx2 HJ HBw HG2
   obtain ⟨n, hn⟩ : ∃ n, j = n := ⟨_, rfl⟩
   rw [hn] at HH HR1 HG HGB HCN GO GR ⊢
   have HNJ := Aside0.mk hn
   clear hn
   have HT1 := Aside0.mk (HT.out.below HBW.out HT.out.pos)
   have H01 := Aside0.mk (Nat.lt_of_lt_of_le HT.out.pos HBW.out.size)
   have HL1 := Aside0.mk (Kd.C_below HR1.out HBW.out)
   obtain ⟨I, hI⟩ : ∃ I : Act → World → Prop, I = (fun a W => ∃ (q : Nat), (∃ f : Nat → Value, a.tmps = #[f 0, .slice A1 n c1, f 2, f 3, f 4, .pointer (some ⟨g, 0, none⟩), f 6, f 7, f 8, .pointer (some ⟨Bo, 0, none⟩), f 10, f 11, f 12, f 13, f 14, f 15, f 16, f 17, f 18, f 19, f 20, f 21, f 22, f 23, f 24, f 25, f 26, f 27, f 28, f 29, f 30, f 31, f 32, f 33, f 34, f 35, f 36, f 37, f 38, f 39, f 40, f 41, f 42, f 43, .slice Ao n co, .int .i64 (n : Nat), .int .i64 (q : Nat), f 47, f 48, f 49, f 50, f 51, f 52, f 53, f 54, f 55, f 56, f 57, f 58, f 59, f 60, f 61, f 62, f 63, f 64, f 65, f 66, f 67, f 68, f 69, f 70, f 71, f 72, f 73, f 74, f 75, f 76, f 77, f 78, f 79, f 80, f 81, f 82]) ∧ Aside0 (q ≤ n) ∧ Aside0 (Kd.R (Kd.int .i64) 3 W w1.heap.size (fun _ => True) (.slice Av n cv) (keysN nd l1 n (od.take q))) ∧ Aside0 (W.heap[Bo]? = some (.cells #[.slice Av n cv] 24 (0, 0))) ∧ Aside0 (Below w1.heap.size w1 W) ∧ Aside0 (Marks w1.heap.size W a.defers)) := ⟨_, rfl⟩
   refine wp_loop I (fun a _ => n - (intOf (a.tmps.getD 46 undef)).toNat) ?start ?round
   case start =>
    rw [hI]
    exact ⟨0, lit_intro rfl, ⟨Nat.zero_le _⟩, ⟨GR.out⟩, ⟨GO.out⟩, ⟨GB.out⟩, ⟨trivial⟩⟩
   case round =>
    clear GR GO GB
    rintro ⟨t, ds⟩ W h
    have HI := Aside0.mk hI
    rw [hI] at h
    clear hI
    obtain ⟨q, ⟨f, ht⟩, HJ, HR, HO, HB, HM⟩ := h
    simp only at ht HM
    subst ht
    have hco := HH.out.2.1
    have hqn := HJ.out
    have hn8 := HH.out.1
    by_cases hlt : q < n
    ·obtain ⟨i, hi⟩ : ∃ i, od.getD q 0 = i := ⟨_, rfl⟩
     obtain ⟨ad1, e1, cj⟩ := Kd.at_int (Kd.C_below HCO.out HB.out) (q : Int) (by omega) (by rw [castL_length]; omega)
     rw [Int.toNat_natCast, rd_castL, hi] at cj
     subst e1
     have hin : i < n := HH.out.2.2.1 i (by rw [← hi, List.getD_eq_getElem?_getD, List.getElem?_eq_getElem (by omega)]; exact List.getElem_mem _)
     obtain ⟨ad3, e3, cin⟩ := Kd.at_int (Kd.C_below HL1.out HB.out) (i : Int) (by omega) (by omega)
     rw [Int.toNat_natCast, rd_nat] at cin
     subst e3
     have hib := HIN.out i
     obtain ⟨x, hx⟩ : ∃ x, l1.getD i 0 = x := ⟨_, rfl⟩
     have hkb := kbeg_bd (inp := l1) (i := i) hib.1
     have hke : kbeg l1 i = Int.tmod (131 * ((i : Int) + 1) + x) 10007 := by unfold kbeg; rw [hx]
     rw [hke] at hkb
     rw [hx] at cin hib
     have hk1 : wrap64 ((i : Int) + 1) = (i : Int) + 1 := w64 (by omega) (by omega)
     have hk2 : wrap64 (131 * ((i : Int) + 1)) = 131 * ((i : Int) + 1) := w64 (by omega) (by omega)
     have hk3 : wrap64 (131 * ((i : Int) + 1) + x) = 131 * ((i : Int) + 1) + x := w64 (by omega) (by omega)
     obtain ⟨ad2, e2, ci⟩ := Kd.at_int (Kd.C_below HCN.out (HB.out.alloc HB.out.size (.cells #[.int .i64 (Int.tmod (131 * ((i : Int) + 1) + x) 10007)] 3 (0, 0)))) (i : Int) (by omega) (by omega)
     rw [Int.toNat_natCast, rd_castL] at ci
     subst e2
     obtain ⟨mi, hmi⟩ : ∃ m, nd.getD i 0 = m := ⟨_, rfl⟩
     rw [hmi] at ci
     have hmi8 := HH.out.2.2.2.get i
     rw [hmi] at hmi8
     have HMI := Aside0.mk (show mi < 65536 ∧ mi < 2 ^ n ∧ nd.getD i 0 = mi ∧ od.getD q 0 = i ∧ q < n ∧ i < n from ⟨Nat.lt_of_lt_of_le (pow8 hn8 hmi8) (by decide), hmi8, hmi, hi, hlt, hin⟩)
     have HKB := Aside0.mk (And.intro hkb hke)
     have cg : (W.alloc (.cells #[.int .i64 (Int.tmod (131 * ((i : Int) + 1) + x) 10007)] 3 (0, 0))).cell? ⟨g, 1, none⟩ = some (.slice (some ad2) n cn) := (cell_blk (al_old ((HB.out.block g (Array.getElem?_eq_some_iff.1 HGB.out).1).trans HGB.out)) 1).trans rfl
     have qj : (q : Int) < (n : Int) := by omega
     have qi : (i : Int) < (n : Int) := by omega
     clear hkb hke hmi hmi8 hi hib hx hco hqn hn8 hlt hin
     go_wp2_with (first | (go_at_call 34; refine (all_calls mi _).mono ?_; rintro e w' ⟨rfl, rfl⟩))
     have hgo : ∃ go, Av = some ⟨go, 0, none⟩ ∧ go < W.heap.size ∧ (∃ cells, W.heap[go]? = some (.cells cells 3 (0, 0))) ∧ w1.heap.size ≤ go := by
      obtain ⟨go, c', e', h1, h2, h3⟩ := Kd.R_form HR.out (by have := (Kd.R_reads' HR.out).1; have := HMI.out.2.2.2.2.1; omega)
      injection e' with e' _ _
      exact ⟨go, e', h2, h3, h1⟩
     obtain ⟨go, eg, hgs, hgc, hgl⟩ := hgo
     subst eg
     have hB4 := HB.out.size
     have hne : go ≠ Bo := by
      obtain ⟨cells, hc⟩ := hgc
      exact blk_ne hc HO.out (by decide)
     have hR5 : Kd.R (Kd.int .i64) 3 ((W.alloc (.cells #[.int .i64 (Int.tmod (131 * ((i : Int) + 1) + x) 10007)] 3 (0, 0))).alloc (.cells #[.int .u16 (mi : Nat)] 59 (0, 0))) w1.heap.size (fun k => k ≠ W.heap.size) (.slice (some ⟨go, 0, none⟩) n cv) (keysN nd l1 n (od.take q)) := Kd.R_alloc (Kd.R_alloc (Kd.R_mono (Kd.R_bound HR.out) (fun k hk => Nat.ne_of_lt hk.2.2.1)) _) _
     have hck := al_old (o := .cells #[.int .u16 (mi : Nat)] 59 (0, 0)) (al_new W 3 #[.int .i64 (Int.tmod (131 * ((i : Int) + 1) + x) 10007)])
     have hbo := al_old (o := .cells #[.int .u16 (mi : Nat)] 59 (0, 0)) (al_old (o := .cells #[.int .i64 (Int.tmod (131 * ((i : Int) + 1) + x) 10007)] 3 (0, 0)) HO.out)
     have hbs := (Boxed.new (W.alloc (.cells #[.int .i64 (Int.tmod (131 * ((i : Int) + 1) + x) 10007)] 3)) 59 (.int .u16 (mi : Nat))).cell
     rw [World.size_alloc] at hbs
     have HM5 := Aside0.mk ((HM.out.below (below_alloc (Below.refl _ _) (.cells #[.int .i64 (Int.tmod (131 * ((i : Int) + 1) + x) 10007)] 3 (0, 0)))).below (below_alloc (Below.refl _ _) (.cells #[.int .u16 (mi : Nat)] 59 (0, 0))))
     have HB5 := Aside0.mk ((HB.out.alloc hB4 (.cells #[.int .i64 (Int.tmod (131 * ((i : Int) + 1) + x) 10007)] 3 (0, 0))).alloc (by simp; omega) (.cells #[.int .u16 (mi : Nat)] 59 (0, 0)))
     obtain ⟨Bk, hBk⟩ : ∃ B, W.heap.size = B := ⟨_, rfl⟩
     rw [hBk] at hR5 hck hbs hB4 hgs ⊢
     have HN := Aside0.mk (show go ≠ Bk ∧ go ≠ Bo ∧ Bo ≠ Bk ∧ w1.heap.size ≤ Bk ∧ w1.heap.size ≤ go from ⟨by omega, hne, by
      have := (Array.getElem?_eq_some_iff.1 HO.out).1
      omega, hB4, hgl⟩)
     obtain ⟨kb, hkbe⟩ : ∃ v, Int.tmod (131 * ((i : Int) + 1) + x) 10007 = v := ⟨_, rfl⟩
     rw [hkbe] at hR5 hck hbo hbs HM5 HB5 HKB ⊢
     obtain ⟨out, hout⟩ : ∃ o, keysN nd l1 n (od.take q) = o := ⟨_, rfl⟩
     have HKO := Aside0.mk (show Kb out by rw [← hout]; exact keysN_bd (fun i => (HIN.out i).1) _)
     have HOE := Aside0.mk hout
     rw [hout] at hR5
     generalize (W.alloc (.cells #[.int .i64 kb] 3 (0, 0))).alloc (.cells #[.int .u16 (mi : Nat)] 59 (0, 0)) = w6 at hR5 hck hbo hbs HM5 HB5 ⊢
     clear HB HM HR HO HJ cj ci cin cg hBk hkbe hk1 hk2 hk3 hne hgs hgc hgl hB4 hout
     have hB5 := HB5.out.size
     have HLT5 := Aside0.mk HM5.out.lt
     refine wp_range HMI.out.1 rfl hbs (HT1.out.below HB5.out H01.out) H01.out hB5 rfl
      (fun pre W' => Kd.R (Kd.int .i64) 3 W' w1.heap.size (fun k => k ≠ Bk) (.slice (some ⟨go, 0, none⟩) n cv) out ∧ W'.heap[Bk]? = some (.cells #[.int .i64 (pre.foldl (kstep out) kb)] 3 (0, 0)) ∧ W'.heap[Bo]? = some (.cells #[.slice (some ⟨go, 0, none⟩) n cv] 24 (0, 0)) ∧ Below w1.heap.size w1 W' ∧ Marks w1.heap.size W' ds)
      (fun s W1 W2 row hs hg hr => ⟨R_ownFrom hs.1 hg hr, blk_ownFrom hs.2.1 hg hr, blk_ownFrom hs.2.2.1 hg hr, below_ownFrom hs.2.2.2.1 (Nat.le_refl _) hB5 hg hr, hs.2.2.2.2.ownFrom HLT5.out hg hr⟩)
      ⟨hR5, hck, hbo, HB5.out, HM5.out⟩ ?a1 ?assign ?body ?done
     case assign =>
      intro l x W K hK
      gi_wp2
      exact hK
     case body =>
      rintro l pre y W hy hpl ⟨g1, g2, g3, g4, g5⟩
      have hyn := elems_lt HH.out.1 HMI.out.2.1 hy
      have hkb := kfold_bd HKO.out pre kb HKB.out.1.1 HKB.out.1.2
      obtain ⟨kc, hkc⟩ : ∃ k, pre.foldl (kstep out) kb = k := ⟨_, rfl⟩
      rw [hkc] at g2 hkb
      have hob := HKO.out y
      obtain ⟨o, ho⟩ : ∃ v, out.getD y 0 = v := ⟨_, rfl⟩
      rw [ho] at hob
      have cy := (Kd.R_celln (0 : Int) g1 (y : Int) (by omega) (by omega)).1
      rw [Int.toNat_natCast] at cy
      have cy : W.cell? ⟨go, y, none⟩ = some (.int .i64 o) := by rw [← ho]; exact cy
      have ck : W.cell? ⟨Bk, 0, none⟩ = some (.int .i64 kc) := (cell_blk g2 0).trans rfl
      have cb : W.cell? ⟨Bo, 0, none⟩ = some (.slice (some ⟨go, 0, none⟩) n cv) := (cell_blk g3 0).trans rfl
      have fz : W.frozen? ⟨Bk, 0, none⟩ = false := blk_frozen g2 _
      have qy : (y : Int) < (n : Int) := by omega
      have hk1 : wrap64 (131 * kc) = 131 * kc := w64 (by omega) (by omega)
      have hk2 : wrap64 (131 * kc + o) = 131 * kc + o := w64 (by omega) (by omega)
      have hk3 : wrap64 (131 * kc + o + 1) = 131 * kc + o + 1 := w64 (by omega) (by omega)
      have HF := Aside0.mk (show (pre ++ [y]).foldl (kstep out) kb = Int.tmod (131 * kc + o + 1) 10007 by
       rw [List.foldl_append, hkc]
       show kstep out kc y = _
       unfold kstep
       rw [ho])
      have G1 := Aside0.mk g1
      have G2 := Aside0.mk g2
      have G3 := Aside0.mk g3
      have G4 := Aside0.mk g4
      have G5 := Aside0.mk g5
      clear g1 g2 g3 g4 g5 hkc hkb hob ho hy hpl hyn
      refine wpIn_block (startIn_ (S := Drawn0 W) (ds := [9]) (bs 10 0) (by kernel_rfl) (by rintro ⟨a, w, h⟩; exact h) (by kernel_rfl) rfl (by kernel_rfl) (Drawn0.step (Drawn0.refl W) 1) (fun hHeld => ?_))
      refine takeN 0 68 (bs 10 1) hHeld rfl (.inl ⟨by rfl, fun w' s => by have s0 := (drawn_cell s _).trans ck; go_simp; with_reducible rfl⟩) ?_
      refine pureF 1 69 (bs 10 3) (v := .int .i64 (131 * kc)) rfl (.inl ⟨by rfl, fun w' => by go_simp <;> first | exact hk1 | (simp only [i64_w]; rw [hk1])⟩) ?_
      refine takeN 2 70 (bs 10 7) hHeld rfl (.inl ⟨by rfl, fun w' s => by have s0 := (drawn_cell s _).trans cb; go_simp; with_reducible rfl⟩) ?_
      refine pureN 3 71 (bs 10 15) ?_
      refine pureN 4 72 (bs 10 31) ?_
      refine takeN 5 73 (bs 10 63) hHeld rfl (.inl ⟨by rfl, fun w' s => by have s0 := (drawn_cell s _).trans cy; go_simp; with_reducible rfl⟩) ?_
      refine pureF 6 74 (bs 10 127) (v := .int .i64 (131 * kc + o)) rfl (.inl ⟨by rfl, fun w' => by go_simp <;> first | exact hk2 | (simp only [i64_w]; rw [hk2])⟩) ?_
      refine pureF 7 75 (bs 10 255) (v := .int .i64 (131 * kc + o + 1)) rfl (.inl ⟨by rfl, fun w' => by go_simp <;> first | exact hk3 | (simp only [i64_w]; rw [hk3])⟩) ?_
      refine pureN 8 76 (bs 10 511) ?_
      refine last_ (i := 9) (N := none) (bs 10 1023) rfl rfl (by kernel_rfl) (by decide) (fun K hK => ?_)
      have s0 := (drawn_cell hHeld _).trans ck
      have s1 : (W.drew).frozen? ⟨Bk, 0, none⟩ = false := (drawn_frozen hHeld _).trans fz
      refine skip_ (w1 := W.drew.setCell ⟨Bk, 0, none⟩ (.int .i64 (Int.tmod (131 * kc + o + 1) 10007))) (by rfl) rfl (by go_simp; try rfl) ?_
      refine hK.out _ _ ?_
      refine done_ (by kernel_rfl) ?_
      clear s0 s1 hK K
      have hh := drawn_heap hHeld
      have n3 := HN.out
      have hB7 := hHeld.below.mono G4.out.size
      have G2' : (W.drew).heap[Bk]? = some (.cells #[.int .i64 kc] 3 (0, 0)) := by rw [hh]; exact G2.out
      have G3' : (W.drew).heap[Bo]? = some (.cells #[.slice (some ⟨go, 0, none⟩) n cv] 24 (0, 0)) := by rw [hh]; exact G3.out
      exact ⟨keepsFrom_set (keepsFrom_below hHeld.below) _ _, hB7.setCell (p := ⟨Bk, 0, none⟩) n3.2.2.2.1 _, Kd.R_far (Kd.R_below G1.out hHeld.below) (fun k hk => hk) _, by rw [HF.out]; exact (blk_set G2' 0 _).trans rfl, (Below.heap_setCell _ _ _ Bo n3.2.2.1).trans G3', (G4.out.trans hB7).setCell (p := ⟨Bk, 0, none⟩) n3.2.2.2.1 _, (G5.out.heap hh).setCell (p := ⟨Bk, 0, none⟩) G2' _⟩
     case done =>
      rintro D W hD ⟨g1, g2, g3, g4, g5⟩ hK
      have hkf := kfold_bd HKO.out (elems mi) kb HKB.out.1.1 HKB.out.1.2
      have HKE := Aside0.mk (show (elems mi).foldl (kstep out) kb = keyN nd l1 out i by unfold keyN; rw [HMI.out.2.2.1, HKB.out.2])
      obtain ⟨kf, hkfe⟩ : ∃ k, (elems mi).foldl (kstep out) kb = k := ⟨_, rfl⟩
      rw [hkfe] at g2 HKE
      have ck : W.cell? ⟨Bk, 0, none⟩ = some (.int .i64 kf) := (cell_blk g2 0).trans rfl
      have cb : W.cell? ⟨Bo, 0, none⟩ = some (.slice (some ⟨go, 0, none⟩) n cv) := (cell_blk g3 0).trans rfl
      obtain ⟨ci, fi⟩ := Kd.R_celln (0 : Int) g1 (i : Int) (by omega) qi
      rw [Int.toNat_natCast] at ci fi
      obtain ⟨cells, hcl⟩ : ∃ cells, W.heap[go]? = some (.cells cells 3 (0, 0)) := by
       obtain ⟨_, _, e', _, _, cells, hcl⟩ := Kd.R_form g1 (by have := (Kd.R_reads' g1).1; omega)
       injection e' with e' _ _
       injection e' with e'
       injection e' with e' _ _
       subst e'
       exact ⟨cells, hcl⟩
      have hM1 := g5.more (Nat.le_trans hB5 hD) hK (fun d hd D' e => Nat.lt_of_lt_of_le (HLT5.out d hd D' e) hD)
      have HP := Aside0.mk (row_putK (Kd.R_mono g1 (fun _ _ => trivial)) g4 HMI.out.2.2.2.2.2 kf)
      have HM9 := Aside0.mk (hM1.setCell (p := ⟨go, i, none⟩) hcl (.int .i64 kf))
      have HO9 := Aside0.mk ((Below.heap_setCell W ⟨go, i, none⟩ (.int .i64 kf) Bo (fun e => HN.out.2.1 e.symm)).trans g3)
      have HJ9 := Aside0.mk (show q + 1 ≤ n from HMI.out.2.2.2.2.1)
      have HR9 := Aside0.mk (show Kd.R (Kd.int .i64) 3 (W.setCell ⟨go, i, none⟩ (.int .i64 kf)) w1.heap.size (fun _ => True) (.slice (some ⟨go, 0, none⟩) n cv) (keysN nd l1 n (od.take (q + 1))) by
       rw [take_snoc (by have := HH.out.2.1; have := HMI.out.2.2.2.2.1; omega), HMI.out.2.2.2.1, keysN_snoc, HOE.out, ← HKE.out]
       exact HP.out.1)
      have HB9 := Aside0.mk HP.out.2
      have hq8 : (q : Int) < 9 := by have := HH.out.1; omega
      clear g1 g2 g3 g4 g5 hK hD hM1 hcl hkf hkfe hR5 hck hbo hbs HM5 HB5 HP
      go_wp2_with fail
      rw [HI.out]
      refine ⟨⟨q + 1, lit_intro rfl, HJ9, HR9, HO9, HB9, HM9⟩, ?_⟩
      show n - ((q : Int) + 1).toNat < n - (q : Int).toNat
      have := HJ9.out
      omega
    ·obtain rfl : q = n := by omega
     have HX := Aside0.mk (show keysN nd l1 q (od.take q) = keysN nd l1 q od by rw [List.take_of_length_le (by omega)])
     have cb : W.cell? ⟨Bo, 0, none⟩ = some (.slice Av q cv) := (cell_blk HO.out 0).trans rfl
     clear hco hqn hn8 hlt HI
     go_wp2_with fail
     refine leave_ HM.out (fun w' hw => ?_)
     exact ⟨_, results_tmp rfl _ _ _, _, rfl, by rw [HNJ.out, ← HX.out]; exact Kd.R_lower (hw.R HR.out) HBW.out.size, HBW.out.trans ((hw.below HB.out).mono HBW.out.size)⟩
theorem first_bad {P : Int → Prop} [DecidablePred P] : ∀ l : List Int, ¬ (∀ y, y ∈ l → P y) → ∃ p x r, l = p ++ x :: r ∧ (∀ y, y ∈ p → P y) ∧ ¬ P x
 | [], h => absurd (fun y hy => by cases hy) h
 | a :: l, h => by
  by_cases c : P a
  ·obtain ⟨p, x, r, e, h1, h2⟩ := first_bad l (fun h' => h (fun y hy => by
    rcases List.mem_cons.1 hy with rfl | hy
    ·exact c
    ·exact h' y hy))
   refine ⟨a :: p, x, r, by rw [e]; rfl, fun y hy => ?_, h2⟩
   rcases List.mem_cons.1 hy with rfl | hy
   ·exact c
   ·exact h1 y hy
  ·exact ⟨[], a, l, rfl, (fun y hy => nomatch hy), c⟩
theorem vin_parts {l0 : List S69} {l1 : List Int} (h : vin l0 l1 = true) : gok l0 = true ∧ l1.length = l0.length ∧ ∀ i : Nat, 0 ≤ l1.getD i 0 ∧ l1.getD i 0 ≤ 1000 := by
 unfold vin at h
 simp only [Bool.and_eq_true, decide_eq_true_eq, List.all_eq_true] at h
 refine ⟨h.1, h.2.1, fun i => ?_⟩
 by_cases hi : i < l1.length
 ·rw [List.getD_eq_getElem?_getD, List.getElem?_eq_getElem hi]
  exact h.2.2 _ (List.getElem_mem hi)
 ·rw [List.getD_eq_getElem?_getD, List.getElem?_eq_none (by omega)]
  exact ⟨by decide, by decide⟩
def impl_TaskKeys.f (l0 : List S69) (l1 : List Int) : Option (List Int) := some (if vin l0 l1 = true then keysN (ndm l0) l1 l0.length (ord l0) else [])
theorem impl_TaskKeys.calls (A0 : Option Addr) (c0 : Nat) (l0 : List S69) (A1 : Option Addr) (c1 : Nat) (l1 : List Int) (r : List Int) (w : World) (hr0 : Kd.C k69 w A0 l0.length l0) (hc0 : l0.length ≤ c0) (hr1 : Kd.C (Kd.int .i64) w A1 l1.length l1) (hc1 : l1.length ≤ c1) (h : impl_TaskKeys.f l0 l1 = some r) (hT_ : Tab w) :
  Calls Tryd.prog 10 #[.slice A0 l0.length c0, .slice A1 l1.length c1] w fun e w' => ∃ v0_ : Value, e = .returned (v0_) ∧ Kd.R (Kd.int .i64) 3 w' w.heap.size (fun _ => True) v0_ r ∧ Below w.heap.size w w' := by
 injection h with h
 subst h
 have hno : ¬ vin l0 l1 = true → Calls Tryd.prog 10 #[.slice A0 l0.length c0, .slice A1 l1.length c1] w (fun e w' => e = .returned (.slice none 0 0) ∧ Below w.heap.size w w') := fun c => by
  by_cases hg : gok l0 = true
  ·by_cases hl : l1.length = l0.length
   ·have hbad : ¬ (∀ y, y ∈ l1 → 0 ≤ y ∧ y ≤ 1000) := fun h => c (by
     unfold vin
     rw [hg, decide_eq_true hl, List.all_eq_true.2 (fun x hx => decide_eq_true (h x hx))]
     rfl)
    obtain ⟨p, x, r, e, h1, h2⟩ := first_bad l1 hbad
    exact keys_no3 hg hl e h1 h2 hr0 hc0 hr1 hT_
   ·exact keys_no2 hg hl hr0 hc0 hT_
  ·exact keys_no1 (Bool.eq_false_iff.2 hg) hr0 hc0
 by_cases c : vin l0 l1 = true
 ·rw [if_pos c]
  obtain ⟨h1, h2, h3⟩ := vin_parts c
  exact keys_yes h1 h2 h3 hr0 hc0 hr1 hT_
 ·rw [if_neg c]
  exact (hno c).mono (fun e w' ⟨h1, h2⟩ => ⟨_, h1, Kd.R_nil _ _ _ _ _, h2⟩)
end Go.Proofs.YtcmhdcjdgchnfaaDoor.G
