/-
 BlamedFor by hand.
-/
import Derived.Test.YtmfbhcooldngoaaDoorHOut
import Derived.Test.YtmfbhcooldngoaaDoorG0
import Derived.Test.YtmfbhcooldngoaaDoorG11
namespace Go.Proofs.YtmfbhcooldngoaaDoor.G
open Go.RowKit Go.Proofs.YtmfbhcooldngoaaDoorW.PrintWords Go.Proofs.YtmfbhcooldngoaaDoorW.PrintLast Go.Proofs.YtmfbhcooldngoaaDoorW.PrintMore C
set_option linter.unusedVariables false
set_option linter.unusedSimpArgs false
attribute [local go_sem] Oper.semAt_some

theorem loadVar_i {w : World} {ad : Addr} {n : Int} (h : w.cell? ad = some (.int .i64 n)) : (loadVar 3 ad).run Tryd.prog w = .ok (.int .i64 n) w := by simp [loadVar, h, go_sem]
/-- The tasks that may be to blame for task i. -/
def blm (l0 : List S40) (i : Nat) : Nat := (bel l0).getD i 0 ||| 2 ^ i
/-- Who is to blame. -/
def blame (l0 : List S40) (l1 : List Int) (i : Nat) : Int := match (elems (blm l0 i)).find? (fun j => decide ((outL l0 l1 8).getD j 0 = 1)) with
 | some j => (j : Int)
 | none => -1
theorem blame_none {l0 : List S40} {l1 : List Int} {i : Nat} (h : ∀ j, j ∈ elems (blm l0 i) → (outL l0 l1 8).getD j 0 ≠ 1) : blame l0 l1 i = -1 := by
 unfold blame
 rw [List.find?_eq_none.2 (fun j hj => by simpa using h j hj)]
theorem blame_some {l0 : List S40} {l1 : List Int} {i x : Nat} {p : List Nat} (hp : p ++ [x] <+: elems (blm l0 i)) (hx : (outL l0 l1 8).getD x 0 = 1) (h : ∀ j, j ∈ p → (outL l0 l1 8).getD j 0 ≠ 1) : blame l0 l1 i = (x : Int) := by
 obtain ⟨r, hr⟩ := hp
 have e : (elems (blm l0 i)).find? (fun j => decide ((outL l0 l1 8).getD j 0 = 1)) = some x := by
  rw [← hr, List.append_assoc, List.find?_append, List.find?_eq_none.2 (fun j hj => by simpa using h j hj)]
  simp only [Option.none_or, List.singleton_append, List.find?_cons, hx, decide_true]
 unfold blame
 rw [e]
def impl_BlamedFor.f (l0 : List S40) (l1 : List Int) (a2 : Int) : Option (Int) := some (if sok l0 l1 = true ∧ 0 ≤ a2 ∧ a2 ≤ (l0.length : Int) - 1 then blame l0 l1 a2.toNat else -1)
set_option maxHeartbeats 8000000 in
set_option maxRecDepth 1000000 in
theorem blamed_no1 {A0 A1 : Option Addr} {c0 c1 : Nat} {l0 : List S40} {l1 : List Int} {a2 : Int} {w : World} (hs : sok l0 l1 = false) (hr0 : Kd.C k40 w A0 l0.length l0) (hc0 : l0.length ≤ c0) (hr1 : Kd.C (Kd.int .i64) w A1 l1.length l1) (hc1 : l1.length ≤ c1) (hT_ : Tab w) :
  Calls Tryd.prog 11 #[.slice A0 l0.length c0, .slice A1 l1.length c1, .int .i64 a2] w fun e w' => e = .returned (.int .i64 (-1)) ∧ Below w.heap.size w w' := by
 have hb0 := below_alloc (Below.refl w.heap.size w) (.cells #[.int .i64 0] 3 (0, 0))
 have HSI := Aside0.mk (failing_no (w := w.alloc (.cells #[.int .i64 0] 3)) hs (Kd.C_alloc hr0 _) hc0 (Kd.C_alloc hr1 _) hc1 (hT_.below hb0 hT_.pos))
 have H0 := Aside0.mk hb0
 clear hs hr0 hc0 hr1 hc1 hT_ hb0
 go_enter Tryd.func11, Tryd.ntmps11
 go_wp2_with (first | (go_at_call 28; refine HSI.out.mono ?_; rintro e w1 ⟨p, rfl, hB⟩; have h6 : w1.heap[w.heap.size]? = some (.cells #[.int .i64 0] 3 (0, 0)) := (hB.block w.heap.size (by simp)).trans (al_new w 3 _); have hc6 : w1.cell? ⟨w.heap.size, 0, none⟩ = some (.int .i64 0) := (cell_blk h6 0).trans rfl; have hf6 : w1.frozen? ⟨w.heap.size, 0, none⟩ = false := blk_frozen h6 _; have H6 := Aside0.mk h6; have HB := Aside0.mk hB; clear hB h6))
 have h7 := blk_set H6.out 0 (.int .i64 (-1))
 refine bodyPost_ret (results_c1 rfl rfl (loadVar_i ((cell_blk h7 0).trans rfl))) rfl ⟨rfl, ?_⟩
 exact (H0.out.trans (HB.out.mono (by simp))).setCell (p := ⟨w.heap.size, 0, none⟩) (Nat.le_refl _) _
set_option maxHeartbeats 8000000 in
set_option maxRecDepth 1000000 in
theorem blamed_no2 {A0 A1 : Option Addr} {c0 c1 : Nat} {l0 : List S40} {l1 : List Int} {a2 : Int} {w : World} (hs : sok l0 l1 = true) (ha : ¬ (0 ≤ a2 ∧ a2 ≤ (l0.length : Int) - 1)) (hr0 : Kd.C k40 w A0 l0.length l0) (hc0 : l0.length ≤ c0) (hr1 : Kd.C (Kd.int .i64) w A1 l1.length l1) (hc1 : l1.length ≤ c1) (hT_ : Tab w) :
  Calls Tryd.prog 11 #[.slice A0 l0.length c0, .slice A1 l1.length c1, .int .i64 a2] w fun e w' => e = .returned (.int .i64 (-1)) ∧ Below w.heap.size w w' := by
 have hb0 := below_alloc (Below.refl w.heap.size w) (.cells #[.int .i64 0] 3 (0, 0))
 have HSI := Aside0.mk (failing_yes (w := w.alloc (.cells #[.int .i64 0] 3)) hs (Kd.C_alloc hr0 _) hc0 (Kd.C_alloc hr1 _) hc1 (hT_.below hb0 hT_.pos))
 have H0 := Aside0.mk hb0
 have h8 : l0.length ≤ 8 := by
  unfold sok at hs
  simp only [Bool.and_eq_true] at hs
  exact gok8 hs.1
 have hw1 : wrap64 ((l0.length : Int) - 1) = (l0.length : Int) - 1 := w64 (by omega) (by omega)
 have HW := Aside0.mk (show impl_within.f a2 0 ((l0.length : Int) - 1) = some false by rw [within_eq, decide_eq_false ha])
 clear hs hr0 hc0 hr1 hc1 hT_ hb0 ha h8
 go_enter Tryd.func11, Tryd.ntmps11
 go_wp2_with (first | (go_at_call 28; refine HSI.out.mono ?_; rintro e w1 ⟨g, rfl, hG, hB⟩; have HG := Aside0.mk hG; have H6 := Aside0.mk (show w1.heap[w.heap.size]? = some (.cells #[.int .i64 0] 3 (0, 0)) from (hB.block w.heap.size (by simp)).trans (al_new w 3 _)); have HB := Aside0.mk hB; clear hG hB) | (go_at_call 30; refine (size_calls HG.out).mono ?_; rintro e w2 ⟨rfl, hw2⟩; rw [hw2]; clear hw2 w2) | (go_at_call 29; refine (impl_within.calls _ _ _ _ _ HW.out).mono ?_; rintro e w3 ⟨rfl, hD⟩; have h6 : w3.heap[w.heap.size]? = some (.cells #[.int .i64 0] 3 (0, 0)) := (hD.below.block w.heap.size (Array.getElem?_eq_some_iff.1 H6.out).1).trans H6.out; have hc6 : w3.cell? ⟨w.heap.size, 0, none⟩ = some (.int .i64 0) := (cell_blk h6 0).trans rfl; have hf6 : w3.frozen? ⟨w.heap.size, 0, none⟩ = false := blk_frozen h6 _; have H63 := Aside0.mk h6; have HB3 := Aside0.mk ((H0.out.trans (HB.out.mono (by simp))).trans (hD.below.mono (Nat.le_trans (by simp) HB.out.size))); clear hD h6))
 have h7 := blk_set H63.out 0 (.int .i64 (-1))
 refine bodyPost_ret (results_c1 rfl rfl (loadVar_i ((cell_blk h7 0).trans rfl))) rfl ⟨rfl, ?_⟩
 exact HB3.out.setCell (p := ⟨w.heap.size, 0, none⟩) (Nat.le_refl _) _
theorem blm_lt {l0 : List S40} {i : Nat} (hg : gok l0 = true) (hi : i < l0.length) : blm l0 i < 2 ^ l0.length :=
 Nat.or_lt_two_pow ((gst_ok (gok8 hg) (ndm_sets (gok_fine hg)) (ord l0) (fun i hi => (ord_mem hg).1 hi)).1.get i) (pow_lt hi)
set_option maxHeartbeats 8000000 in
set_option maxRecDepth 1000000 in
theorem blamed_yes {A0 A1 : Option Addr} {c0 c1 : Nat} {l0 : List S40} {l1 : List Int} {i : Nat} {w : World} (hs : sok l0 l1 = true) (hi : i < l0.length) (hr0 : Kd.C k40 w A0 l0.length l0) (hc0 : l0.length ≤ c0) (hr1 : Kd.C (Kd.int .i64) w A1 l1.length l1) (hc1 : l1.length ≤ c1) (hT_ : Tab w) :
  Calls Tryd.prog 11 #[.slice A0 l0.length c0, .slice A1 l1.length c1, .int .i64 (i : Nat)] w fun e w' => e = .returned (.int .i64 (blame l0 l1 i)) ∧ Below w.heap.size w w' := by
 have hb0 := below_alloc (Below.refl w.heap.size w) (.cells #[.int .i64 0] 3 (0, 0))
 have HSI := Aside0.mk (failing_yes (w := w.alloc (.cells #[.int .i64 0] 3)) hs (Kd.C_alloc hr0 _) hc0 (Kd.C_alloc hr1 _) hc1 (hT_.below hb0 hT_.pos))
 have H0 := Aside0.mk hb0
 have hg : gok l0 = true := by
  unfold sok at hs
  simp only [Bool.and_eq_true] at hs
  exact hs.1
 have h8 := gok8 hg
 have hw1 : wrap64 ((l0.length : Int) - 1) = (l0.length : Int) - 1 := w64 (by omega) (by omega)
 have HW := Aside0.mk (show impl_within.f (i : Int) 0 ((l0.length : Int) - 1) = some true by rw [within_eq, decide_eq_true (by omega)])
 have HS := Aside0.mk hs
 obtain ⟨mb, hmb⟩ : ∃ m, (bel l0).getD i 0 = m := ⟨_, rfl⟩
 have hmb8 : mb < 65536 := by rw [← hmb]; exact Nat.lt_trans (pow8 h8 ((gst_ok h8 (ndm_sets (gok_fine hg)) (ord l0) (fun i hi => (ord_mem hg).1 hi)).1.get i)) (by decide)
 have HWI := Aside0.mk (with_eq hmb8 (show i < 16 by omega))
 have HM := Aside0.mk (show mb ||| 2 ^ i = blm l0 i ∧ blm l0 i < 65536 ∧ blm l0 i < 2 ^ l0.length ∧ l0.length ≤ 8 ∧ (bel l0).getD i 0 = mb from ⟨by unfold blm; rw [hmb], Nat.lt_trans (pow8 h8 (blm_lt hg hi)) (by decide), blm_lt hg hi, h8, hmb⟩)
 rw [HM.out.1] at HWI
 have HLN := Aside0.mk (outL_len (l1 := l1) (kI := 8) hg)
 have HT := Aside0.mk hT_
 have qi : (i : Int) < (l0.length : Int) := by omega
 clear hs hr0 hc0 hr1 hc1 hT_ hb0 hg h8 hmb hmb8 hi
 refine enter_marks Tryd.func11 rfl ?_
 simp only [Tryd.ntmps11, List.size_toArray, List.length_cons, List.length_nil, Nat.reduceAdd, Nat.reduceSub, Array.replicate_succ, Array.replicate_zero, List.push_toArray, List.append_toArray, List.nil_append, List.cons_append]
 go_wp2_with (first | (go_at_call 28; refine HSI.out.mono ?_; rintro e w1 ⟨g, rfl, hG, hB⟩; have HG := Aside0.mk hG; have H6 := Aside0.mk (show w1.heap[w.heap.size]? = some (.cells #[.int .i64 0] 3 (0, 0)) from (hB.block w.heap.size (by simp)).trans (al_new w 3 _)); have HB := Aside0.mk (H0.out.trans (hB.mono (by simp))); clear hG hB) | (go_at_call 30; refine (size_calls HG.out).mono ?_; rintro e w2 ⟨rfl, hw2⟩; rw [hw2]; clear hw2 w2) | (go_at_call 29; refine (impl_within.calls _ _ _ _ _ HW.out).mono ?_; rintro e w3 ⟨rfl, hD⟩; have HD := Aside0.mk hD; clear hD) | (go_at_call 31; refine (outl_calls (HG.out.drawn HD.out) HS.out 8).mono ?_; rintro e w4 ⟨v, rfl, hR, hB4⟩; obtain ⟨Av, cv, ev⟩ := Kd.R_slice hR; subst ev; have h6 : w4.heap[w.heap.size]? = some (.cells #[.int .i64 0] 3 (0, 0)) := (hB4.block w.heap.size (Array.getElem?_eq_some_iff.1 ((HD.out.below.block w.heap.size (Array.getElem?_eq_some_iff.1 H6.out).1).trans H6.out)).1).trans ((HD.out.below.block w.heap.size (Array.getElem?_eq_some_iff.1 H6.out).1).trans H6.out); have HB4 := Aside0.mk ((HB.out.trans (HD.out.below.mono HB.out.size)).trans (hB4.mono (Nat.le_trans HB.out.size HD.out.below.size))); obtain ⟨Aa, ca, An, cn, Ao, co, Pb, Pa, hg, hca, hCt, hCn, hRo, hCb, hCa⟩ := (HG.out.drawn HD.out).below hB4; have hx3 : (w4.alloc (.cells #[.slice Av (outL l0 l1 8).length cv] 24)).cell? ⟨g, 3, none⟩ = some (.slice (some ⟨Pb, 0, none⟩) l0.length l0.length) := (cell_blk (al_old hg) 3).trans rfl; obtain ⟨ad, ead, cib⟩ := Kd.at_int (Kd.C_alloc hCb (.cells #[.slice Av (outL l0 l1 8).length cv] 24)) (i : Int) (by omega) qi; cases ead; rw [Int.toNat_natCast, rd_castL, HM.out.2.2.2.2, Addr.add_lit, Nat.zero_add] at cib; have H64 := Aside0.mk h6; have HR4 := Aside0.mk hR; clear hR hB4 h6 hg hca hCt hCn hRo hCb hCa) | (go_at_call 32; refine (impl_set_with.calls _ _ _ _ HWI.out).mono ?_; rintro e w5 ⟨rfl, hD⟩; have HD5 := Aside0.mk hD; clear hD) | (go_at_call 33; refine (all_calls (blm l0 i : Nat) _).mono ?_; rintro e w6 ⟨rfl, rfl⟩))
 have hlt6 := (Array.getElem?_eq_some_iff.1 H64.out).1
 have hD5 := HD5.out.below
 have g6 := al_old (o := .cells #[.int .u16 (blm l0 i : Nat)] 48 (0, 0)) ((hD5.block w.heap.size (by simp; omega)).trans (al_old (o := .cells #[.slice Av (outL l0 l1 8).length cv] 24 (0, 0)) H64.out))
 have g10 := al_old (o := .cells #[.int .u16 (blm l0 i : Nat)] 48 (0, 0)) ((hD5.block w4.heap.size (by simp)).trans (al_new w4 24 #[.slice Av (outL l0 l1 8).length cv]))
 have gbs := (Boxed.new w5 48 (.int .u16 (blm l0 i : Nat))).cell
 have gR := Kd.R_lower (Kd.R_alloc (Kd.R_below (Kd.R_alloc HR4.out (.cells #[.slice Av (outL l0 l1 8).length cv] 24)) hD5) (.cells #[.int .u16 (blm l0 i : Nat)] 48)) (Nat.le_trans HB.out.size HD.out.below.size)
 have gB := below_alloc ((below_alloc HB4.out (.cells #[.slice Av (outL l0 l1 8).length cv] 24)).trans (hD5.mono (by have := HB4.out.size; simp; omega))) (.cells #[.int .u16 (blm l0 i : Nat)] 48)
 have gsz := gB.size
 have gne : w.heap.size ≠ w4.heap.size := by omega
 have gle : w.heap.size ≤ w4.heap.size := HB4.out.size
 generalize w5.alloc (.cells #[.int .u16 (blm l0 i : Nat)] 48) = w6 at g6 g10 gbs gR gB gsz ⊢
 have HR := Aside0.mk gR
 have HB6 := Aside0.mk gB
 have G6 := Aside0.mk g6
 have G10 := Aside0.mk g10
 have HNE := Aside0.mk gne
 clear gR gB g6 g10 gne hlt6 hD5 H64 HR4 HD5 hx3 cib HWI HSI hw1 HW
 refine wp_rangeX HM.out.2.1 rfl gbs (HT.out.below HB6.out HT.out.pos) HT.out.pos gsz rfl
  (fun pre W => W.heap[w.heap.size]? = some (.cells #[.int .i64 0] 3 (0, 0)) ∧ W.heap[w4.heap.size]? = some (.cells #[.slice Av (outL l0 l1 8).length cv] 24 (0, 0)) ∧ Kd.R (Kd.int .i64) 3 W w.heap.size (fun _ => True) (.slice Av (outL l0 l1 8).length cv) (outL l0 l1 8) ∧ Below w.heap.size w W ∧ ∀ j, j ∈ pre → (outL l0 l1 8).getD j 0 ≠ 1)
  (fun c pre W => c = .ret ∧ Below w.heap.size w W ∧ ∃ p x, pre = p ++ [x] ∧ (outL l0 l1 8).getD x 0 = 1 ∧ (∀ j, j ∈ p → (outL l0 l1 8).getD j 0 ≠ 1) ∧ W.heap[w.heap.size]? = some (.cells #[.int .i64 (x : Nat)] 3 (0, 0)))
  (fun s W1 W2 row hs hg hr => ⟨blk_ownFrom hs.1 hg hr, blk_ownFrom hs.2.1 hg hr, R_ownFrom hs.2.2.1 hg hr, below_ownFrom hs.2.2.2.1 (Nat.le_refl _) gsz hg hr, hs.2.2.2.2⟩)
  (fun c s W1 W2 row hs hg hr => by
   obtain ⟨e, hb, p, x, h1, h2, h3, h4⟩ := hs
   exact ⟨e, below_ownFrom hb (Nat.le_refl _) gsz hg hr, p, x, h1, h2, h3, blk_ownFrom h4 hg hr⟩)
  ⟨G6.out, G10.out, HR.out, HB6.out, fun j hj => by cases hj⟩ ?a1 ?assign ?body ?done ?stop
 case assign =>
  intro l x W K hK
  gi_wp2
  exact hK
 case body =>
  rintro l pre x W hx hpl ⟨h6, h10, hR, hB, hpre⟩
  have hxn := elems_lt HM.out.2.2.2.1 HM.out.2.2.1 hx
  have hc10 : W.cell? ⟨w4.heap.size, 0, none⟩ = some (.slice Av (outL l0 l1 8).length cv) := (cell_blk h10 0).trans rfl
  obtain ⟨ad, ead, cx⟩ := Kd.at_int (Kd.R_reads' hR).2.2 (x : Int) (by omega) (by have := HLN.out; omega)
  cases ead
  rw [Int.toNat_natCast, rd_nat] at cx
  have qx : (x : Int) < ((outL l0 l1 8).length : Int) := by have := HLN.out; omega
  obtain ⟨vx, hvx⟩ : ∃ v, (outL l0 l1 8).getD x 0 = v := ⟨_, rfl⟩
  rw [hvx] at cx
  have hc6 : W.cell? ⟨w.heap.size, 0, none⟩ = some (.int .i64 0) := (cell_blk h6 0).trans rfl
  have hf6 : W.frozen? ⟨w.heap.size, 0, none⟩ = false := blk_frozen h6 _
  have HI := Aside0.mk (And.intro h6 (And.intro h10 (And.intro hR hB)))
  have HP := Aside0.mk hpre
  clear h6 h10 hR hB hpre hx hpl hxn
  by_cases h1 : vx = 1
  ·subst h1
   have HV := Aside0.mk hvx
   clear hvx
   gi_wp2
   exact ⟨keepsFrom_set (keepsFrom_refl _ _) _ _, rfl, HI.out.2.2.2.setCell (p := ⟨w.heap.size, 0, none⟩) (Nat.le_refl _) _, pre, x, rfl, HV.out, HP.out, (blk_set HI.out.1 0 _).trans rfl⟩
  ·have hb : (vx == 1) = false := beq_eq_false_iff_ne.2 h1
   have HV := Aside0.mk (show (outL l0 l1 8).getD x 0 ≠ 1 by rw [hvx]; exact h1)
   clear hvx h1
   gi_wp2
   exact ⟨keepsFrom_refl _ _, Below.refl _ _, HI.out.1, HI.out.2.1, HI.out.2.2.1, HI.out.2.2.2, fun j hj => by
    rcases List.mem_append.1 hj with hj | hj
    ·exact HP.out j hj
    ·rw [List.mem_singleton.1 hj]; exact HV.out⟩
 case done =>
  rintro D W hD ⟨h6, h10, hR, hB, hpre⟩ hK
  have hc6 : W.cell? ⟨w.heap.size, 0, none⟩ = some (.int .i64 0) := (cell_blk h6 0).trans rfl
  have hf6 : W.frozen? ⟨w.heap.size, 0, none⟩ = false := blk_frozen h6 _
  have HK := Aside0.mk hK
  have HI := Aside0.mk (And.intro h6 (And.intro hB hpre))
  have HDD := Aside0.mk (show w.heap.size ≤ D ∧ D ≠ w.heap.size from ⟨Nat.le_trans gsz hD, fun e => by rw [e, h6] at hK; cases hK⟩)
  clear h6 h10 hR hB hpre hK hD
  go_wp2
  have h7 := blk_set HI.out.1 0 (.int .i64 (-1))
  refine leave_ (Marks.one HDD.out.1 ((Below.heap_setCell _ _ _ D HDD.out.2).trans HK.out)) (fun w' hw => ?_)
  exact ⟨_, results_c1 rfl rfl (loadVar_i (hw.cell ((cell_blk h7 0).trans rfl))), by rw [blame_none HI.out.2.2], hw.below (HI.out.2.1.setCell (p := ⟨w.heap.size, 0, none⟩) (Nat.le_refl _) _)⟩
 case stop =>
  rintro D c pre W hD hpp ⟨rfl, hB, p, x, rfl, h1, h2, h3⟩ hK
  have HK := Aside0.mk hK
  have HI := Aside0.mk (And.intro hB (And.intro h3 (blame_some hpp h1 h2)))
  have hDD := Nat.le_trans gsz hD
  clear hB h1 h2 h3 hK hpp
  go_wp2
  refine leave_ (Marks.one hDD HK.out) (fun w' hw => ?_)
  exact ⟨_, results_c1 rfl rfl (loadVar_i (hw.cell ((cell_blk HI.out.2.1 0).trans rfl))), by rw [HI.out.2.2], hw.below HI.out.1⟩
theorem impl_BlamedFor.calls (A0 : Option Addr) (c0 : Nat) (l0 : List S40) (A1 : Option Addr) (c1 : Nat) (l1 : List Int) (a2 : Int) (r : Int) (w : World) (hr0 : Kd.C k40 w A0 l0.length l0) (hc0 : l0.length ≤ c0) (hr1 : Kd.C (Kd.int .i64) w A1 l1.length l1) (hc1 : l1.length ≤ c1) (h : impl_BlamedFor.f l0 l1 a2 = some r) (hT_ : Tab w) :
  Calls Tryd.prog 11 #[.slice A0 l0.length c0, .slice A1 l1.length c1, .int .i64 a2] w fun e w' => e = .returned (.int .i64 r) ∧ Below w.heap.size w w' := by
 injection h with h
 subst h
 by_cases hs : sok l0 l1 = true
 ·by_cases ha : 0 ≤ a2 ∧ a2 ≤ (l0.length : Int) - 1
  ·rw [if_pos ⟨hs, ha⟩]
   obtain ⟨i, rfl⟩ := Int.eq_ofNat_of_zero_le ha.1
   exact blamed_yes hs (by omega) hr0 hc0 hr1 hc1 hT_
  ·rw [if_neg (fun e => ha e.2)]
   exact blamed_no2 hs ha hr0 hc0 hr1 hc1 hT_
 ·rw [if_neg (fun e => hs e.1)]
  exact blamed_no1 (Bool.eq_false_iff.2 hs) hr0 hc0 hr1 hc1 hT_
end Go.Proofs.YtmfbhcooldngoaaDoor.G
