/-
 failing, outcomes, Outcomes, CountOutcome by hand.
-/
import Derived.Test.YtgdoajmgheokbaaDoorHGOf
import Derived.Test.YtgdoajmgheokbaaDoorG0
import Derived.Test.YtgdoajmgheokbaaDoorG13
namespace Go.Proofs.YtgdoajmgheokbaaDoor.G
open Go.RowKit Go.Proofs.YtgdoajmgheokbaaDoorW.PrintWords Go.Proofs.YtgdoajmgheokbaaDoorW.PrintLast Go.Proofs.YtgdoajmgheokbaaDoorW.PrintMore C
set_option linter.unusedVariables false
set_option linter.unusedSimpArgs false

/-- One task's turn: what has come out, what is done, how many have failed. -/
def ostep (nd : List Nat) (m : Nat) (kI : Int) (st : List Int × Nat × Nat) (i : Nat) : List Int × Nat × Nat :=
 if kI ≤ (st.2.2 : Int) then (st.1.set i 3, st.2.1, st.2.2) else
 if andNot (nd.getD i 0) st.2.1 ≠ 0 then (st.1.set i 2, st.2.1, st.2.2) else
 if m.testBit i = true then (st.1.set i 1, st.2.1, st.2.2 + 1) else (st.1, st.2.1 ||| 2 ^ i, st.2.2)
def outs (nd : List Nat) (n m : Nat) (kI : Int) (od : List Nat) : List Int × Nat × Nat := od.foldl (ostep nd m kI) (List.replicate n 0, 0, 0)
theorem outs_snoc (nd : List Nat) (n m : Nat) (kI : Int) (od : List Nat) (i : Nat) : outs nd n m kI (od ++ [i]) = ostep nd m kI (outs nd n m kI od) i := by
 unfold outs
 rw [List.foldl_append]
 rfl
theorem outs_ok {nd : List Nat} {n m : Nat} {kI : Int} : ∀ (od : List Nat), (∀ i, i ∈ od → i < n) → (outs nd n m kI od).1.length = n ∧ (outs nd n m kI od).2.1 < 2 ^ n ∧ (outs nd n m kI od).2.2 ≤ od.length := by
 intro od
 induction od using snoc_ind with
 | h0 => intro _; exact ⟨by simp [outs], by simp [outs]; exact Nat.two_pow_pos n, by simp [outs]⟩
 | hs od i ih =>
  intro h
  obtain ⟨h1, h2, h3⟩ := ih (fun i hi => h i (by simp [hi]))
  rw [outs_snoc, List.length_append, List.length_singleton]
  unfold ostep
  split
  ·exact ⟨by rw [List.length_set]; exact h1, h2, Nat.le_succ_of_le h3⟩
  split
  ·exact ⟨by rw [List.length_set]; exact h1, h2, Nat.le_succ_of_le h3⟩
  split
  ·exact ⟨by rw [List.length_set]; exact h1, h2, Nat.succ_le_succ h3⟩
  ·exact ⟨h1, Nat.or_lt_two_pow h2 (pow_lt (h i (by simp))), Nat.le_succ_of_le h3⟩
theorem row_put {w W : World} {go n cv i : Nat} {out : List Int} (hR : Kd.R (Kd.int .i64) 3 W w.heap.size (fun _ => True) (.slice (some ⟨go, 0, none⟩) n cv) out) (hB : Below w.heap.size w W) (hi : i < n) (x : Int) :
  Kd.R (Kd.int .i64) 3 (W.setCell ⟨go, i, none⟩ (.int .i64 x)) w.heap.size (fun _ => True) (.slice (some ⟨go, 0, none⟩) n cv) (out.set i x) ∧ Below w.heap.size w (W.setCell ⟨go, i, none⟩ (.int .i64 x)) := by
 have h := Kd.R_putn hR (i : Int) x
 rw [Int.toNat_natCast] at h
 obtain ⟨_, _, e', hge, _⟩ := Kd.R_form hR (by have := (Kd.R_reads' hR).1; omega)
 injection e' with e' _ _
 injection e' with e'
 injection e' with e' _ _
 exact ⟨h, hB.setCell (p := ⟨go, i, none⟩) (by rw [e']; exact hge) _⟩
set_option maxHeartbeats 8000000 in
set_option maxRecDepth 1000000 in
theorem outcomes_calls {b : Nat} {w : World} {g n : Nat} {l0 : List S74} {nd od bl ab : List Nat} (h : IsG b w g n l0 nd od bl ab) (hn8 : n ≤ 8) (hnd : Sets n nd) (hom : ∀ i, i ∈ od → i < n) (hol : od.length = n) {m : Nat} (hm : m < 65536) {kI : Int} :
  Calls Tryd.prog 52 #[.pointer (some ⟨g, 0, none⟩), .int .u16 (m : Nat), .int .i64 kI] w fun e w' => ∃ v0_ : Value, e = .returned v0_ ∧ Kd.R (Kd.int .i64) 3 w' w.heap.size (fun _ => True) v0_ (outs nd n m kI od).1 ∧ Below w.heap.size w w' := by
 have HG := Aside0.mk h
 have H8 := Aside0.mk hn8
 have HND := Aside0.mk hnd
 have HOM := Aside0.mk hom
 have HOL := Aside0.mk hol
 have HM := Aside0.mk hm
 obtain ⟨Aa, ca, An, cn, Ao, co, Pb, Pa, hg, hca, hCt, hCn, hRo, hCb, hCa⟩ := h
 have HGB := Aside0.mk hg
 have HCN := Aside0.mk hCn
 have HCO := Aside0.mk (Kd.R_reads' hRo).2.2
 clear hn8 hnd hom hol hm hg hca hCt hCn hRo hCb hCa
 go_enter Tryd.func52, Tryd.ntmps52
 go_wp2_with (first | (go_at_call 43; refine (size_calls HG.out).mono ?_; rintro e w2 ⟨rfl, hw2⟩; rw [hw2]; clear hw2 w2) | ((with_reducible refine gate_dst (N := 14) rfl ?_); refine Kd.R_make (Kd.int .i64) _ 3 rfl (N := 14) rfl 24 _ _ rfl (n : Int) rfl rfl Tryd.underlying24 (.int .i64 0) 8 info3 rfl (by decide) (by omega) 0 (ok := fun _ => True) (okp := fun _ => True) rfl (fun _ hk => hk) trivial (by omega) (by have := H8.out; omega) (Below.refl _ _) (Nat.le_refl _) ?_; intro vo w1 ho hb hg_ hnew_; obtain ⟨Av, cv, ev⟩ := Kd.R_slice ho; subst ev; have HO := Aside0.mk ho; have HB := Aside0.mk hb; have hx2 : w1.cell? ⟨g, 2, none⟩ = some (.slice Ao n co) := (cell_blk ((hb.block g (Array.getElem?_eq_some_iff.1 HGB.out).1).trans HGB.out) 2).trans rfl; clear ho hb hg_ hnew_))
 have e0 : (List.replicate ((n : Int) : Int).toNat (0 : Int)) = List.replicate n 0 := by rw [Int.toNat_natCast]
 have HO2 := Aside0.mk (show Kd.R (Kd.int .i64) 3 w1 w.heap.size (fun _ => True) (.slice Av n cv) (List.replicate n 0) by have := HO.out; simpa using this)
 clear HO e0
 try simp only [List.length_replicate, Int.toNat_natCast]
 go_loopw [8, 9, 20] (fun v8 v9 v20 w' => ∃ (j s f : Nat) (out : List Int), v20 = .int .i64 (j : Nat) ∧ v8 = .int .u16 (s : Nat) ∧ v9 = .int .i64 (f : Nat) ∧ Aside0 (j ≤ n) ∧ Aside0 (outs nd n m kI (od.take j) = (out, s, f)) ∧ Aside0 (Kd.R (Kd.int .i64) 3 w' w.heap.size (fun _ => True) (.slice Av n cv) out) ∧ Aside0 (Below w.heap.size w w')) (fun _ _ v20 _ => n - (intOf v20).toNat)
 case atStart => exact ⟨0, 0, 0, _, rfl, rfl, rfl, ⟨Nat.zero_le _⟩, ⟨rfl⟩, HO2, HB⟩
 case round =>
  obtain ⟨j, s, f, out, rfl, rfl, rfl, HJ, HS, HR, HB2⟩ := hrel
  have hx1 := (cell_blk ((HB2.out.block g (Array.getElem?_eq_some_iff.1 HGB.out).1).trans HGB.out) 1).trans (rfl : _ = some (Value.slice An n cn))
  by_cases hlt : j < n
  ·obtain ⟨i, hi⟩ : ∃ i, od.getD j 0 = i := ⟨_, rfl⟩
   have hcl : (castL od).length = n := by rw [castL_length]; exact HOL.out
   obtain ⟨ad1, e1, cj⟩ := Kd.at_int (Kd.C_below HCO.out HB2.out) (j : Int) (by omega) (by rw [hcl]; omega)
   rw [Int.toNat_natCast, rd_castL, hi] at cj
   subst e1
   have hin : i < n := HOM.out i (by rw [← hi, List.getD_eq_getElem?_getD, List.getElem?_eq_getElem (by have := HOL.out; omega)]; exact List.getElem_mem _)
   obtain ⟨ad2, e2, ci⟩ := Kd.at_int (Kd.C_below HCN.out HB2.out) (i : Int) (by omega) (by omega)
   rw [Int.toNat_natCast, rd_castL] at ci
   subst e2
   obtain ⟨go, eg⟩ : ∃ go, Av = some ⟨go, 0, none⟩ := by
    obtain ⟨go, c', e', _⟩ := Kd.R_form HR.out (by have := (Kd.R_reads' HR.out).1; omega)
    injection e' with e' _ _
    exact ⟨go, e'⟩
   subst eg
   obtain ⟨hoc, hof⟩ := Kd.R_celln (0 : Int) HR.out (i : Int) (by omega) (by omega)
   rw [Int.toNat_natCast] at hoc hof
   obtain ⟨mi, hmi⟩ : ∃ m, nd.getD i 0 = m := ⟨_, rfl⟩
   rw [hmi] at ci
   have hok := outs_ok (nd := nd) (n := n) (m := m) (kI := kI) (od.take j) (fun i hi => HOM.out i (List.mem_of_mem_take hi))
   rw [HS.out] at hok
   simp only at hok
   have hm16 : mi < 65536 := Nat.lt_trans (pow8 H8.out (hmi ▸ HND.out.get i)) (by decide)
   have hs16 : s < 65536 := Nat.lt_trans (pow8 H8.out hok.2.1) (by decide)
   have hand := andNot16 hm16 hs16
   have hnext : outs nd n m kI (od.take (j + 1)) = ostep nd m kI (out, s, f) i := by
    rw [take_snoc (by have := HOL.out; omega), outs_snoc, hi, HS.out]
   have qj : (j : Int) < (n : Int) := by omega
   have qi : (i : Int) < (n : Int) := by omega
   have hj8 : (j : Int) < 9 := by have := H8.out; omega
   have hf8 : (f : Int) ≤ 8 := by have := hok.2.2; have := List.length_take_le j od; have := H8.out; omega
   have hf0 : 0 ≤ (f : Int) := by omega
   obtain ⟨q, hq⟩ : ∃ q, andNot mi s = q := ⟨_, rfl⟩
   rw [hq] at hand
   have HBS := Aside0.mk (row_put HR.out HB2.out hin)
   unfold ostep at hnext
   simp only at hnext
   rw [hmi, hq] at hnext
   by_cases hc1 : kI ≤ (f : Int)
   ·rw [if_pos hc1] at hnext
    have HX := Aside0.mk hnext
    clear hnext hq hmi hi hm16 hs16 hcl hin hlt hok hand
    go_wp2
    go_roundw
    case measure =>
     simp [intOf]
     omega
    case rel => exact ⟨j + 1, s, f, out.set i 3, by rw [Int.natCast_succ], rfl, rfl, ⟨by omega⟩, HX, ⟨(HBS.out 3).1⟩, ⟨(HBS.out 3).2⟩⟩
   rw [if_neg hc1] at hnext
   have hc1' : (f : Int) < kI := by omega
   by_cases hc2 : q = 0
   ·subst hc2
    rw [if_neg (by simp)] at hnext
    have HHA := Aside0.mk (has_eq HM.out (show i < 16 by have := H8.out; omega))
    by_cases hc3 : m.testBit i = true
    ·rw [if_pos hc3] at hnext
     rw [hc3] at HHA
     have HX := Aside0.mk hnext
     clear hnext hq hmi hi hm16 hs16 hcl hin hlt hok hc3
     go_wp2_with (first | (go_at_call 78; refine (impl_set_has.calls _ _ _ _ HHA.out).mono ?_; rintro e w5 ⟨rfl, hD⟩; have hoc := (drawn_cell hD _).trans hoc; have hof := (drawn_frozen hD _).trans hof; have HR5 := Aside0.mk (row_put (Kd.R_below HR.out hD.below) (HB2.out.trans (hD.below.mono HB2.out.size)) (Int.ofNat_lt.1 qi)); clear hD))
     go_roundw
     case measure =>
      simp [intOf]
      omega
     case rel => exact ⟨j + 1, s, f + 1, out.set i 1, by rw [Int.natCast_succ], rfl, by rw [Int.natCast_succ], ⟨by omega⟩, HX, ⟨(HR5.out 1).1⟩, ⟨(HR5.out 1).2⟩⟩
    ·rw [if_neg hc3] at hnext
     rw [Bool.eq_false_iff.2 hc3] at HHA
     have HX := Aside0.mk hnext
     have HWI := Aside0.mk (with_eq hs16 (show i < 16 by have := H8.out; omega))
     clear hnext hq hmi hi hm16 hs16 hcl hin hlt hok hc3
     go_wp2_with (first | (go_at_call 78; refine (impl_set_has.calls _ _ _ _ HHA.out).mono ?_; rintro e w5 ⟨rfl, hD⟩; have HD5 := Aside0.mk hD; clear hD) | (go_at_call 65; refine (impl_set_with.calls _ _ _ _ HWI.out).mono ?_; rintro e w6 ⟨rfl, hD⟩; have HD6 := Aside0.mk (drawn_trans HD5.out hD); clear hD))
     go_roundw
     case measure =>
      simp [intOf]
      omega
     case rel => exact ⟨j + 1, s ||| 2 ^ i, f, out, by rw [Int.natCast_succ], rfl, rfl, ⟨by omega⟩, HX, ⟨Kd.R_below HR.out HD6.out.below⟩, ⟨HB2.out.trans (HD6.out.below.mono HB2.out.size)⟩⟩
   ·rw [if_pos hc2] at hnext
    have hqb : ((q : Int) != 0) = true := bne_iff_ne.2 (by omega)
    have HX := Aside0.mk hnext
    clear hnext hq hmi hi hm16 hs16 hcl hin hlt hok hc2
    go_wp2
    go_roundw
    case measure =>
     simp [intOf]
     omega
    case rel => exact ⟨j + 1, s, f, out.set i 2, by rw [Int.natCast_succ], rfl, rfl, ⟨by omega⟩, HX, ⟨(HBS.out 2).1⟩, ⟨(HBS.out 2).2⟩⟩
  ·have hjn : j = n := by have := HJ.out; omega
   subst hjn
   have HX := Aside0.mk (show (outs nd j m kI od).1 = out by have := HS.out; rw [List.take_of_length_le (by have := HOL.out; omega)] at this; rw [this])
   clear hlt
   go_wp2
   go_ret
   exact ⟨_, rfl, by rw [HX.out]; exact HR.out, HB2.out⟩
set_option maxHeartbeats 8000000 in
set_option maxRecDepth 1000000 in
theorem failing_yes {A0 A1 : Option Addr} {c0 c1 : Nat} {l0 : List S74} {l1 : List Int} {w : World} (h : sok l0 l1 = true) (hr0 : Kd.C k74 w A0 l0.length l0) (hc0 : l0.length ≤ c0) (hr1 : Kd.C (Kd.int .i64) w A1 l1.length l1) (hc1 : l1.length ≤ c1) (ht : Tab w) :
  Calls Tryd.prog 51 #[.slice A0 l0.length c0, .slice A1 l1.length c1] w fun e w' => ∃ g, e = .returned (.tuple #[.pointer (some ⟨g, 0, none⟩), .int .u16 (maskGo 0 l1 : Nat), .bool true]) ∧ IsG w.heap.size w' g l0.length l0 (ndm l0) (ord l0) (bel l0) (abv l0) ∧ Below w.heap.size w w' := by
 have h' := h
 unfold sok at h'
 simp only [Bool.and_eq_true] at h'
 have h8 := gok8 h'.1
 have HGO := Aside0.mk (graphOf_yes h'.1 hr0 hc0 ht)
 have HSO := Aside0.mk (show impl_setOf.f 200 l1 (l0.length : Int) = some (((maskGo 0 l1 : Nat) : Int), true) by rw [setOf_eq h8 _ _ (by decide), if_pos h'.2])
 have HR1 := Aside0.mk hr1
 have HC1 := Aside0.mk hc1
 clear h h' hr0 hc0 hr1 hc1 ht h8
 go_enter Tryd.func51, Tryd.ntmps51
 go_wp2_with (first | (go_at_call 41; refine HGO.out.mono ?_; rintro e w1 ⟨g, rfl, hG, hB⟩; have HG := Aside0.mk hG; have HB := Aside0.mk hB; clear hG hB) | (go_at_call 43; refine (size_calls HG.out).mono ?_; rintro e w2 ⟨rfl, hw2⟩; rw [hw2]; clear hw2 w2) | (go_at_call 64; refine (impl_setOf.calls 200 A1 c1 l1 _ _ _ w1 (Kd.C_below HR1.out HB.out) HC1.out HSO.out).mono ?_; rintro e w3 ⟨rfl, hD⟩; have HD := Aside0.mk hD; clear hD))
 refine bodyPost_ret (results_tmp3 rfl _ _ _) rfl ?_
 exact ⟨g, rfl, HG.out.drawn HD.out, HB.out.trans (HD.out.below.mono HB.out.size)⟩
set_option maxHeartbeats 8000000 in
set_option maxRecDepth 1000000 in
theorem failing_no {A0 A1 : Option Addr} {c0 c1 : Nat} {l0 : List S74} {l1 : List Int} {w : World} (h : sok l0 l1 = false) (hr0 : Kd.C k74 w A0 l0.length l0) (hc0 : l0.length ≤ c0) (hr1 : Kd.C (Kd.int .i64) w A1 l1.length l1) (hc1 : l1.length ≤ c1) (ht : Tab w) :
  Calls Tryd.prog 51 #[.slice A0 l0.length c0, .slice A1 l1.length c1] w fun e w' => ∃ p : Option Addr, e = .returned (.tuple #[.pointer p, .int .u16 0, .bool false]) ∧ Below w.heap.size w w' := by
 rcases sok_cases h with hg | ⟨hg, ha⟩
 ·have HGO := Aside0.mk (graphOf_no hg hr0 hc0)
  clear h hr0 hc0 hr1 hc1 ht hg
  go_enter Tryd.func51, Tryd.ntmps51
  go_wp2_with (first | (go_at_call 41; refine HGO.out.mono ?_; rintro e w1 ⟨rfl, hB⟩; have HB := Aside0.mk hB; clear hB))
  refine bodyPost_ret (results_tmp3 rfl _ _ _) rfl ?_
  exact ⟨_, rfl, HB.out⟩
 ·have h8 := gok8 hg
  have HGO := Aside0.mk (graphOf_yes hg hr0 hc0 ht)
  have HSO := Aside0.mk (show impl_setOf.f 200 l1 (l0.length : Int) = some (0, false) by rw [setOf_eq h8 _ _ (by decide), if_neg (by rw [ha]; decide)])
  have HR1 := Aside0.mk hr1
  have HC1 := Aside0.mk hc1
  clear h hr0 hc0 hr1 hc1 ht h8 hg ha
  go_enter Tryd.func51, Tryd.ntmps51
  go_wp2_with (first | (go_at_call 41; refine HGO.out.mono ?_; rintro e w1 ⟨g, rfl, hG, hB⟩; have HG := Aside0.mk hG; have HB := Aside0.mk hB; clear hG hB) | (go_at_call 43; refine (size_calls HG.out).mono ?_; rintro e w2 ⟨rfl, hw2⟩; rw [hw2]; clear hw2 w2) | (go_at_call 64; refine (impl_setOf.calls 200 A1 c1 l1 _ _ _ w1 (Kd.C_below HR1.out HB.out) HC1.out HSO.out).mono ?_; rintro e w3 ⟨rfl, hD⟩; have HD := Aside0.mk hD; clear hD))
  refine bodyPost_ret (results_tmp3 rfl _ _ _) rfl ?_
  exact ⟨_, rfl, HB.out.trans (HD.out.below.mono HB.out.size)⟩
/-- The outcome of each task of a valid graph with valid failures. -/
def outL (l0 : List S74) (l1 : List Int) (kI : Int) : List Int := (outs (ndm l0) l0.length (maskGo 0 l1) kI (ord l0)).1
theorem outL_len {l0 : List S74} {l1 : List Int} {kI : Int} (h : gok l0 = true) : (outL l0 l1 kI).length = l0.length := (outs_ok (ord l0) (fun i hi => (ord_mem h).1 hi)).1
/-- Valid arguments of Outcomes. -/
def ook (l0 : List S74) (l1 : List Int) (kI : Int) : Bool := sok l0 l1 && decide (1 ≤ kI ∧ kI ≤ 8)
theorem outl_calls {b : Nat} {w : World} {g : Nat} {l0 : List S74} {l1 : List Int} (h : IsG b w g l0.length l0 (ndm l0) (ord l0) (bel l0) (abv l0)) (hs : sok l0 l1 = true) (kI : Int) :
  Calls Tryd.prog 52 #[.pointer (some ⟨g, 0, none⟩), .int .u16 (maskGo 0 l1 : Nat), .int .i64 kI] w fun e w' => ∃ v0_ : Value, e = .returned v0_ ∧ Kd.R (Kd.int .i64) 3 w' w.heap.size (fun _ => True) v0_ (outL l0 l1 kI) ∧ Below w.heap.size w w' := by
 unfold sok at hs
 simp only [Bool.and_eq_true] at hs
 have h8 := gok8 hs.1
 exact outcomes_calls h h8 (ndm_sets (gok_fine hs.1)) (fun i hi => (ord_mem hs.1).1 hi) (ord_len hs.1) (Nat.lt_trans (pow8 h8 (maskGo_lt h8 hs.2)) (by decide))
def impl_Outcomes.f (l0 : List S74) (l1 : List Int) (a2 : Int) : Option (List Int) := some (if ook l0 l1 a2 = true then outL l0 l1 a2 else [])
set_option maxHeartbeats 8000000 in
set_option maxRecDepth 1000000 in
theorem impl_Outcomes.calls (A0 : Option Addr) (c0 : Nat) (l0 : List S74) (A1 : Option Addr) (c1 : Nat) (l1 : List Int) (a2 : Int) (r : List Int) (w : World) (hr0 : Kd.C k74 w A0 l0.length l0) (hc0 : l0.length ≤ c0) (hr1 : Kd.C (Kd.int .i64) w A1 l1.length l1) (hc1 : l1.length ≤ c1) (h : impl_Outcomes.f l0 l1 a2 = some r) (hT_ : Tab w) :
  Calls Tryd.prog 20 #[.slice A0 l0.length c0, .slice A1 l1.length c1, .int .i64 a2] w fun e w' => ∃ v0_ : Value, e = .returned (v0_) ∧ Kd.R (Kd.int .i64) 3 w' w.heap.size (fun _ => True) v0_ r ∧ Below w.heap.size w w' := by
 injection h with h
 subst h
 unfold ook
 by_cases hs : sok l0 l1 = true
 ·rw [hs, Bool.true_and]
  have HSI := Aside0.mk (failing_yes hs hr0 hc0 hr1 hc1 hT_)
  have HS := Aside0.mk hs
  have HW := Aside0.mk (show impl_within.f a2 1 8 = some (decide (1 ≤ a2 ∧ a2 ≤ 8)) from within_eq _ _ _)
  clear hr0 hc0 hr1 hc1 hT_ hs
  by_cases hk : 1 ≤ a2 ∧ a2 ≤ 8
  ·rw [decide_eq_true hk] at HW ⊢
   rw [if_pos rfl]
   clear hk
   go_enter Tryd.func20, Tryd.ntmps20
   go_wp2_with (first | (go_at_call 51; refine HSI.out.mono ?_; rintro e w1 ⟨g, rfl, hG, hB⟩; have HG := Aside0.mk hG; have HB := Aside0.mk hB; clear hG hB) | (go_at_call 42; refine (impl_within.calls _ _ _ _ _ HW.out).mono ?_; rintro e w2 ⟨rfl, hD⟩; have HD := Aside0.mk hD; clear hD) | (go_at_call 52; refine (outl_calls (HG.out.drawn HD.out) HS.out _).mono ?_; rintro e w3 ⟨v, rfl, hR, hB3⟩; have HR := Aside0.mk hR; have HB3 := Aside0.mk hB3; clear hR hB3))
   go_ret
   have hB2 := HB.out.trans (HD.out.below.mono HB.out.size)
   exact ⟨v, rfl, Kd.R_lower HR.out hB2.size, hB2.trans (HB3.out.mono hB2.size)⟩
  ·rw [decide_eq_false hk] at HW ⊢
   rw [if_neg (by decide)]
   clear hk
   go_enter Tryd.func20, Tryd.ntmps20
   go_wp2_with (first | (go_at_call 51; refine HSI.out.mono ?_; rintro e w1 ⟨g, rfl, hG, hB⟩; have HB := Aside0.mk hB; clear hG hB) | (go_at_call 42; refine (impl_within.calls _ _ _ _ _ HW.out).mono ?_; rintro e w2 ⟨rfl, hD⟩; have HD := Aside0.mk hD; clear hD))
   go_ret
   exact ⟨_, rfl, Kd.R_nil _ _ _ _ _, HB.out.trans (HD.out.below.mono HB.out.size)⟩
 ·rw [Bool.eq_false_iff.2 hs, Bool.false_and, if_neg (by decide)]
  have HSI := Aside0.mk (failing_no (Bool.eq_false_iff.2 hs) hr0 hc0 hr1 hc1 hT_)
  clear hs hr0 hc0 hr1 hc1 hT_
  go_enter Tryd.func20, Tryd.ntmps20
  go_wp2_with (first | (go_at_call 51; refine HSI.out.mono ?_; rintro e w1 ⟨p, rfl, hB⟩; have HB := Aside0.mk hB; clear hB))
  go_ret
  exact ⟨_, rfl, Kd.R_nil _ _ _ _ _, HB.out⟩
/-- How many outcomes are of a kind. -/
def cntK (l : List Int) (k : Int) : Nat := (l.filter (fun x => x == k)).length
theorem cntK_snoc (l : List Int) (x k : Int) : cntK (l ++ [x]) k = cntK l k + if x = k then 1 else 0 := by
 unfold cntK
 rw [List.filter_append, List.length_append]
 by_cases h : x = k
 ·simp [h]
 ·simp [h]
theorem cntK_le (l : List Int) (k : Int) : cntK l k ≤ l.length := List.length_filter_le _ _
def impl_CountOutcome.f (l0 : List S74) (l1 : List Int) (a2 : Int) (a3 : Int) : Option (Int) := some (if ook l0 l1 a2 = true ∧ 0 ≤ a3 ∧ a3 ≤ 3 then (cntK (outL l0 l1 a2) a3 : Nat) else -1)
set_option maxHeartbeats 8000000 in
set_option maxRecDepth 1000000 in
theorem impl_CountOutcome.calls (A0 : Option Addr) (c0 : Nat) (l0 : List S74) (A1 : Option Addr) (c1 : Nat) (l1 : List Int) (a2 : Int) (a3 : Int) (r : Int) (w : World) (hr0 : Kd.C k74 w A0 l0.length l0) (hc0 : l0.length ≤ c0) (hr1 : Kd.C (Kd.int .i64) w A1 l1.length l1) (hc1 : l1.length ≤ c1) (h : impl_CountOutcome.f l0 l1 a2 a3 = some r) (hT_ : Tab w) :
  Calls Tryd.prog 23 #[.slice A0 l0.length c0, .slice A1 l1.length c1, .int .i64 a2, .int .i64 a3] w fun e w' => e = .returned (.int .i64 r) ∧ Below w.heap.size w w' := by
 injection h with h
 subst h
 unfold ook
 by_cases hs : sok l0 l1 = true
 ·rw [hs, Bool.true_and]
  have hg : gok l0 = true := by
   unfold sok at hs
   simp only [Bool.and_eq_true] at hs
   exact hs.1
  have HSI := Aside0.mk (failing_yes hs hr0 hc0 hr1 hc1 hT_)
  have HS := Aside0.mk hs
  have HW := Aside0.mk (show impl_within.f a2 1 8 = some (decide (1 ≤ a2 ∧ a2 ≤ 8)) from within_eq _ _ _)
  have HW2 := Aside0.mk (show impl_within.f a3 0 3 = some (decide (0 ≤ a3 ∧ a3 ≤ 3)) from within_eq _ _ _)
  have HLN := Aside0.mk (show (outL l0 l1 a2).length = l0.length ∧ l0.length ≤ 8 from ⟨outL_len hg, gok8 hg⟩)
  clear hr0 hc0 hr1 hc1 hT_ hs hg
  by_cases hk : 1 ≤ a2 ∧ a2 ≤ 8
  ·rw [decide_eq_true hk] at HW ⊢
   clear hk
   by_cases hk3 : 0 ≤ a3 ∧ a3 ≤ 3
   ·rw [decide_eq_true hk3] at HW2
    rw [if_pos ⟨rfl, hk3⟩]
    clear hk3
    obtain ⟨L, hL⟩ : ∃ L, outL l0 l1 a2 = L := ⟨_, rfl⟩
    have HLE := Aside0.mk hL
    rw [hL] at HLN ⊢
    clear hL
    go_enter Tryd.func23, Tryd.ntmps23
    go_wp2_with (first | (go_at_call 51; refine HSI.out.mono ?_; rintro e w1 ⟨g, rfl, hG, hB⟩; have HG := Aside0.mk hG; have HB := Aside0.mk hB; clear hG hB) | (go_at_call 42; refine (impl_within.calls _ _ _ _ _ HW.out).mono ?_; rintro e w2 ⟨rfl, hD⟩; have HD := Aside0.mk hD; clear hD HW) | (go_at_call 42; refine (impl_within.calls _ _ _ _ _ HW2.out).mono ?_; rintro e w3 ⟨rfl, hD⟩; have HD2 := Aside0.mk (drawn_trans HD.out hD); clear hD HD) | (go_at_call 52; refine (outl_calls (HG.out.drawn HD2.out) HS.out _).mono ?_; rintro e w4 ⟨v, rfl, hR, hB3⟩; rw [HLE.out] at hR; obtain ⟨Av, cv, ev⟩ := Kd.R_slice hR; subst ev; have HR := Aside0.mk (Kd.R_reads' hR).2.2; have HB4 := Aside0.mk (show Below w.heap.size w w4 from (HB.out.trans (HD2.out.below.mono HB.out.size)).trans (hB3.mono (Nat.le_trans HB.out.size HD2.out.below.size))); clear hR hB3))
    go_loop [12, 39] (fun v12 v39 => ∃ (j : Nat), v39 = .int .i64 (j : Nat) ∧ v12 = .int .i64 (cntK (L.take j) a3 : Nat) ∧ Aside0 (j ≤ L.length)) (fun _ v39 => L.length - (intOf v39).toNat)
    case atStart => exact ⟨0, rfl, rfl, ⟨Nat.zero_le _⟩⟩
    case round =>
     obtain ⟨j, rfl, rfl, HJ⟩ := hrel
     by_cases hlt : j < L.length
     ·obtain ⟨ad1, e1, cj⟩ := Kd.at_int HR.out (j : Int) (by omega) (by omega)
      rw [Int.toNat_natCast] at cj
      subst e1
      obtain ⟨x, hx⟩ : ∃ x, rd L (j : Int) = x := ⟨_, rfl⟩
      rw [hx] at cj
      have hx' : L[j] = x := by rw [← hx, rd_nat, List.getD_eq_getElem?_getD, List.getElem?_eq_getElem hlt]; rfl
      have hn := cntK_snoc (L.take j) x a3
      rw [← hx', ← List.take_succ_eq_append_getElem hlt, hx'] at hn
      have qj : (j : Int) < (L.length : Int) := by omega
      have hj8 : (j : Int) < 9 := by have := HLN.out; omega
      obtain ⟨cc, hcc⟩ : ∃ c, cntK (L.take j) a3 = c := ⟨_, rfl⟩
      have hcl : cc ≤ 8 := by have := cntK_le (L.take j) a3; have := List.length_take_le j L; have := HLN.out; omega
      rw [hcc] at hn ⊢
      have c0' : 0 ≤ (cc : Int) := by omega
      have c1' : (cc : Int) ≤ 8 := by omega
      by_cases hxa : x = a3
      ·rw [if_pos hxa] at hn
       subst hxa
       have HX := Aside0.mk hn
       clear hn hcc hcl hlt hx hx'
       go_wp2
       go_round
       case measure =>
        simp [intOf]
        omega
       case rel => exact ⟨j + 1, by rw [Int.natCast_succ], by rw [HX.out, Int.natCast_succ], ⟨by omega⟩⟩
      ·rw [if_neg hxa] at hn
       have hb : (x == a3) = false := beq_eq_false_iff_ne.2 hxa
       have HX := Aside0.mk hn
       clear hn hcc hcl hlt hx hx' hxa
       go_wp2
       go_round
       case measure =>
        simp [intOf]
        omega
       case rel => exact ⟨j + 1, by rw [Int.natCast_succ], by rw [HX.out]; rfl, ⟨by omega⟩⟩
     ·have hjn : j = L.length := by have := HJ.out; omega
      subst hjn
      have HX := Aside0.mk (show cntK (L.take L.length) a3 = cntK L a3 by rw [List.take_of_length_le (Nat.le_refl _)])
      obtain ⟨cc, hcc⟩ : ∃ c, cntK (L.take L.length) a3 = c := ⟨_, rfl⟩
      rw [hcc] at HX ⊢
      clear hlt hcc
      go_wp2
      go_ret
      exact ⟨by rw [HX.out]; rfl, HB4.out⟩
   ·rw [decide_eq_false hk3] at HW2
    rw [if_neg (fun e => hk3 e.2)]
    clear hk3
    go_enter Tryd.func23, Tryd.ntmps23
    go_wp2_with (first | (go_at_call 51; refine HSI.out.mono ?_; rintro e w1 ⟨g, rfl, hG, hB⟩; have HB := Aside0.mk hB; clear hG hB) | (go_at_call 42; refine (impl_within.calls _ _ _ _ _ HW.out).mono ?_; rintro e w2 ⟨rfl, hD⟩; have HD := Aside0.mk hD; clear hD HW) | (go_at_call 42; refine (impl_within.calls _ _ _ _ _ HW2.out).mono ?_; rintro e w3 ⟨rfl, hD⟩; have HD2 := Aside0.mk (drawn_trans HD.out hD); clear hD HD))
    go_ret
    exact ⟨rfl, HB.out.trans (HD2.out.below.mono HB.out.size)⟩
  ·rw [decide_eq_false hk] at HW ⊢
   rw [if_neg (fun e => by cases e.1)]
   clear hk
   go_enter Tryd.func23, Tryd.ntmps23
   go_wp2_with (first | (go_at_call 51; refine HSI.out.mono ?_; rintro e w1 ⟨g, rfl, hG, hB⟩; have HB := Aside0.mk hB; clear hG hB) | (go_at_call 42; refine (impl_within.calls _ _ _ _ _ HW.out).mono ?_; rintro e w2 ⟨rfl, hD⟩; have HD := Aside0.mk hD; clear hD HW))
   go_ret
   exact ⟨rfl, HB.out.trans (HD.out.below.mono HB.out.size)⟩
 ·rw [Bool.eq_false_iff.2 hs, Bool.false_and, if_neg (fun e => by cases e.1)]
  have HSI := Aside0.mk (failing_no (Bool.eq_false_iff.2 hs) hr0 hc0 hr1 hc1 hT_)
  clear hs hr0 hc0 hr1 hc1 hT_
  go_enter Tryd.func23, Tryd.ntmps23
  go_wp2_with (first | (go_at_call 51; refine HSI.out.mono ?_; rintro e w1 ⟨p, rfl, hB⟩; have HB := Aside0.mk hB; clear hB))
  go_ret
  exact ⟨rfl, HB.out⟩
end Go.Proofs.YtgdoajmgheokbaaDoor.G
