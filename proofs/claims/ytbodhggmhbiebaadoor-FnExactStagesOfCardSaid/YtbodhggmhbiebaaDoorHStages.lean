/-
 StagesOf by hand.
-/
import Derived.Test.YtbodhggmhbiebaaDoorHStage
import Derived.Test.YtbodhggmhbiebaaDoorG0
namespace Go.Proofs.YtbodhggmhbiebaaDoor.G
open Go.RowKit Go.Proofs.YtbodhggmhbiebaaDoorW.PrintWords Go.Proofs.YtbodhggmhbiebaaDoorW.PrintLast Go.Proofs.YtbodhggmhbiebaaDoorW.PrintMore C
set_option linter.unusedVariables false
set_option linter.unusedSimpArgs false

/-- Task i put to its stage. -/
def padS (out : List (List Int)) (s : Nat) : List (List Int) := out ++ List.replicate (s + 1 - out.length) []
def stgsStep (st : List Int) (out : List (List Int)) (i : Nat) : List (List Int) := (padS out (st.getD i 0).toNat).set (st.getD i 0).toNat ((padS out (st.getD i 0).toNat).getD (st.getD i 0).toNat [] ++ [(i : Int)])
def stgsTo (st : List Int) (q : Nat) : List (List Int) := (List.range q).foldl (stgsStep st) []
theorem stgsTo_succ (st : List Int) (q : Nat) : stgsTo st (q + 1) = stgsStep st (stgsTo st q) q := by
 unfold stgsTo
 rw [List.range_succ, List.foldl_append]
 rfl
theorem padS_len (out : List (List Int)) (s : Nat) : (padS out s).length = max out.length (s + 1) := by
 unfold padS
 rw [List.length_append, List.length_replicate]
 omega
theorem padS_mem {out : List (List Int)} {s : Nat} {x : List Int} (h : x ∈ padS out s) : x ∈ out ∨ x = [] := by
 unfold padS at h
 rcases List.mem_append.1 h with h | h
 ·exact .inl h
 ·exact .inr (List.eq_of_mem_replicate h)
theorem getD_memS {out : List (List Int)} {s : Nat} (h : s < out.length) : out.getD s [] ∈ out := by
 rw [List.getD_eq_getElem?_getD, List.getElem?_eq_getElem h]
 exact List.getElem_mem _
theorem stgsTo_bd {st : List Int} {n : Nat} (hst : ∀ i, i < n → 0 ≤ st.getD i 0 ∧ st.getD i 0 < (n : Int)) : ∀ q, q ≤ n → (stgsTo st q).length ≤ n ∧ ∀ x, x ∈ stgsTo st q → x.length ≤ q
 | 0, _ => ⟨by simp [stgsTo], fun x hx => by simp [stgsTo] at hx⟩
 | q + 1, hq => by
  obtain ⟨h1, h2⟩ := stgsTo_bd hst q (by omega)
  have hs := hst q (by omega)
  rw [stgsTo_succ]
  unfold stgsStep
  obtain ⟨s, hs'⟩ : ∃ s, (st.getD q 0).toNat = s := ⟨_, rfl⟩
  rw [hs']
  have hsn : s < n := by omega
  have hpl := padS_len (stgsTo st q) s
  refine ⟨by rw [List.length_set, hpl]; omega, fun x hx => ?_⟩
  have hb : ∀ y, y ∈ padS (stgsTo st q) s → y.length ≤ q := fun y hy => by
   rcases padS_mem hy with h | h
   ·exact h2 y h
   ·rw [h]; simp
  rcases List.mem_or_eq_of_mem_set hx with h | h
  ·have := hb x h
   omega
  ·rw [h, List.length_append, List.length_singleton]
   have := hb _ (getD_memS (out := padS (stgsTo st q) s) (s := s) (by rw [hpl]; omega))
   omega
def lenV : Value → Nat
 | .slice _ n _ => n
 | _ => 0
set_option maxHeartbeats 16000000 in
set_option maxRecDepth 1000000 in
theorem stagesOf_yes {A0 : Option Addr} {c0 : Nat} {l0 : List S29} {w : World} (h : gok l0 = true) (hr0 : Kd.C k29 w A0 l0.length l0) (hc0 : l0.length ≤ c0) (ht : Tab w) :
  Calls Tryd.prog 15 #[.slice A0 l0.length c0] w fun e w' => ∃ v0_ : Value, e = .returned v0_ ∧ Kd.S (Kd.slice 3 (Kd.int .i64)) 25 w' w.heap.size (fun _ => True) v0_ (stgsTo (stg l0) l0.length) ∧ Below w.heap.size w w' := by
 have HGO := Aside0.mk (graphOf_yes h hr0 hc0 ht)
 have HT := Aside0.mk ht
 have HX := Aside0.mk (show l0.length ≤ 8 ∧ (ord l0).length = l0.length ∧ (∀ i, i ∈ ord l0 → i < l0.length) ∧ Sets l0.length (ndm l0) ∧ (∀ i, i < l0.length → i ∉ elems ((ndm l0).getD i 0)) from ⟨gok8 h, ord_len h, fun i hi => (ord_mem h).1 hi, ndm_sets (gok_fine h), nd_irr h⟩)
 have hst : ∀ i, i < l0.length → 0 ≤ (stg l0).getD i 0 ∧ (stg l0).getD i 0 < (l0.length : Int) := fun i hi => stg_lt h hi
 have hsl := stg_len l0
 have hse : stagesN (ndm l0) l0.length (ord l0) = stg l0 := rfl
 obtain ⟨st, est⟩ : ∃ s, stg l0 = s := ⟨_, rfl⟩
 obtain ⟨n, hn⟩ : ∃ n, l0.length = n := ⟨_, rfl⟩
 rw [est] at hst hsl hse ⊢
 rw [hn] at hst hsl hse HX HGO ⊢
 have HST := Aside0.mk (show st.length = n ∧ (∀ i, i < n → 0 ≤ st.getD i 0 ∧ st.getD i 0 < (n : Int)) ∧ n ≤ 8 from ⟨hsl, hst, HX.out.1⟩)
 have HBD := Aside0.mk (stgsTo_bd hst)
 have HSE := Aside0.mk hse
 clear h hr0 hc0 ht hst hsl hse est hn
 go_enter Tryd.func15, Tryd.ntmps15
 go_wp2_with (first | (go_at_call 35; refine (stages_calls (HG.out.below HB2.out) HX.out.1 HX.out.2.1 HX.out.2.2.1 HX.out.2.2.2.1 HX.out.2.2.2.2 ((HT.out.below HB.out HT.out.pos).below HB2.out (HT.out.below HB.out HT.out.pos).pos)).mono ?_; rintro e w3 ⟨v17, rfl, hR, hB3⟩; rw [HSE.out] at hR; obtain ⟨A17, c17, e17⟩ := Kd.R_slice hR; rw [HST.out.1] at e17; subst e17; have HR3 := Aside0.mk (Kd.R_mono (Kd.R_bound hR) (ok' := fun k => w2.heap.size ≤ k ∧ k < w3.heap.size) (fun k hk => ⟨hk.2.1, hk.2.2.1⟩)); have HO3 := Aside0.mk (Kd.S_mono (Kd.S_below (Kd.S_bound HO.out) hB3) (ok' := fun k => ¬ (w2.heap.size ≤ k ∧ k < w3.heap.size)) (fun k hk h => by have := hk.2.2.1; omega)); have HB3 := Aside0.mk (below_step HB2.out hB3); have HZ3 := Aside0.mk (Nat.le_trans HB2.out.size hB3.size); clear hR hB3 HO HB2) | ((with_reducible refine gate_dst (N := 15) rfl ?_); refine Kd.S_lit (Kd.slice 3 (Kd.int .i64)) _ 25 ?hg (N := 15) ?hd (xs := ([] : List (List Int))) (inner := []) (ok := fun _ => True) (okp := fun _ => True) ?hr ?hp (fun _ hk => hk) trivial (Below.refl _ _) (Nat.le_refl _) (by simp) ?_; (case hd => rfl); (case hg => rfl); (case hr => first | (go_simp; done) | (go_simp; rfl)); (case hp => exact (Reps.none _ _)); intro v15 w2 ho hb hg_ hnew_; obtain ⟨Av, cv, ev⟩ := Kd.S_slice ho; subst ev; simp only [List.length_nil] at ho ⊢; have HO := Aside0.mk ho; have HB2 := Aside0.mk hb; clear ho hb hg_ hnew_) | (go_at_call 34; refine HGO.out.mono ?_; rintro e w1 ⟨g, rfl, hG, hB⟩; have HG := Aside0.mk hG; have HB := Aside0.mk hB; have HBW1 := Aside0.mk hB; clear hG hB))
 go_loopw [5, 19] (fun v5 v19 W => ∃ (j c : Nat) (A : Option Addr), v19 = .int .i64 (j : Nat) ∧ v5 = .slice A (stgsTo st j).length c ∧ Aside0 (j ≤ n) ∧ Aside0 (Kd.S (Kd.slice 3 (Kd.int .i64)) 25 W w1.heap.size (fun k => ¬ (w2.heap.size ≤ k ∧ k < w3.heap.size)) (.slice A (stgsTo st j).length c) (stgsTo st j)) ∧ Aside0 (Below w1.heap.size w1 W) ∧ Aside0 (w3.heap.size ≤ W.heap.size) ∧ Aside0 (Kd.R (Kd.int .i64) 3 W w2.heap.size (fun k => w2.heap.size ≤ k ∧ k < w3.heap.size) (.slice A17 n c17) st)) (fun _ v19 _ => n - (intOf v19).toNat)
 case atStart => exact ⟨0, cv, Av, rfl, rfl, ⟨Nat.zero_le _⟩, HO3, HB3, ⟨Nat.le_refl _⟩, HR3⟩
 case round =>
  obtain ⟨j, c, A, rfl, rfl, HJ, HS, HB, HZ, HR⟩ := hrel
  have hj := HJ.out
  have hn8 := HST.out.2.2
  have hsl := HST.out.1
  by_cases hlt : j < n
  ·obtain ⟨ad, ead, cj⟩ := Kd.at_int (Kd.R_reads' HR.out).2.2 (j : Int) (by omega) (by omega)
   rw [Int.toNat_natCast, rd_nat] at cj
   subst ead
   have hsb := HST.out.2.1 j hlt
   obtain ⟨s, hs⟩ : ∃ s : Nat, st.getD j 0 = (s : Int) := ⟨(st.getD j 0).toNat, by omega⟩
   rw [hs] at cj hsb
   have hbd := HBD.out j (by omega)
   have hsucc := stgsTo_succ st j
   obtain ⟨L0, hL0⟩ : ∃ L, stgsTo st j = L := ⟨_, rfl⟩
   rw [hL0] at HS hbd hsucc ⊢
   unfold stgsStep at hsucc
   rw [hs, Int.toNat_natCast] at hsucc
   have HSU := Aside0.mk hsucc
   have HSB := Aside0.mk (show s < n ∧ n ≤ 8 ∧ j < n ∧ L0.length ≤ n ∧ (∀ x, x ∈ L0 → x.length ≤ j) from ⟨by omega, hn8, hlt, hbd.1, hbd.2⟩)
   have qj : (j : Int) < (n : Int) := by omega
   have hj8 : (j : Int) < 9 := by omega
   obtain ⟨z0, hz0⟩ : ∃ z, L0.length = z := ⟨_, rfl⟩
   have HZ0 := Aside0.mk hz0
   rw [hz0] at HS ⊢
   clear hj hn8 hlt hs hsb hbd hsucc hL0 hz0 hsl
   go_wp2
   go_loopw [5] (fun v5 W => ∃ (m c : Nat) (A : Option Addr), v5 = .slice A (z0 + m) c ∧ Aside0 (m ≤ s + 1 - z0) ∧ Aside0 (Kd.S (Kd.slice 3 (Kd.int .i64)) 25 W w1.heap.size (fun k => ¬ (w2.heap.size ≤ k ∧ k < w3.heap.size)) (.slice A (z0 + m) c) (L0 ++ List.replicate m [])) ∧ Aside0 (Below w1.heap.size w1 W) ∧ Aside0 (w3.heap.size ≤ W.heap.size) ∧ Aside0 (Kd.R (Kd.int .i64) 3 W w2.heap.size (fun k => w2.heap.size ≤ k ∧ k < w3.heap.size) (.slice (some ad) n c17) st)) (fun v5 _ => (s + 1) - lenV v5)
   case atStart => exact ⟨0, c, A, rfl, ⟨Nat.zero_le _⟩, ⟨by simpa using HS.out⟩, HB, HZ, HR⟩
   case round =>
    clear HS HB HZ HR
    obtain ⟨m, c, A, rfl, HM, HS, HB, HZ, HR⟩ := hrel
    have hm := HM.out
    have hz0 := HZ0.out
    have hPl : (L0 ++ List.replicate m ([] : List Int)).length = z0 + m := by simp [hz0]
    by_cases hlt : z0 + m ≤ s
    ·have qs : ((z0 + m : Nat) : Int) ≤ (s : Int) := by omega
     have HLT := Aside0.mk (show m + 1 ≤ s + 1 - z0 ∧ z0 + m ≤ s by omega)
     have hlen : ((L0 ++ List.replicate m ([] : List Int)).length + 1) * 24 ≤ 140737488355328 := by
      rw [hPl]
      have := HSB.out
      omega
     have HEQ := Aside0.mk (show (L0 ++ List.replicate m ([] : List Int)) ++ [[]] = L0 ++ List.replicate (m + 1) [] by rw [List.append_assoc, List.replicate_succ'])
     have HL7 := Aside0.mk (show (L0 ++ List.replicate (m + 1) ([] : List Int)).length = z0 + (m + 1) by simp [hz0])
     obtain ⟨P, hP⟩ : ∃ P, L0 ++ List.replicate m ([] : List Int) = P := ⟨_, rfl⟩
     rw [hP] at HS hlen HEQ
     clear hm hlt hz0 hPl hP
     go_wp2_with (first | ((with_reducible refine gate_builtin (b := .append) (xs := #[.tmp 28, .tmp 30]) rfl ?_); at_builtin; go_must (refine Kd.S_append (Kd.slice 3 (Kd.int .i64)) (w0 := wr) w1.heap.size rfl (.tmp 28) (.tmp 30) 32 25 (.slice none 0 0) 24 rfl Tryd.underlying32 info25 rfl (by decide) (by omega) (.slice A (z0 + m) c) P [] [.slice A29 0 c29] (fun k => ¬ (w2.heap.size ≤ k ∧ k < w3.heap.size)) (fun k_ => some k_ = (Value.slice A29 0 c29).ownBlock) rfl rfl ?aP ?aK ?aF ?aO ?aB ?aS hlen ?_; (case aP => exact Kd.M_row (Kd.R_tight rfl (Kd.R_lower HO29.out HB.out.size))); (case aK => exact (fun k_ hk => ⟨fun h => by have h1 := Kd.R_base HO29.out k_ hk.symm; have := HZ.out; omega, fun e => by have h1 := Kd.R_base HO29.out k_ hk.symm; have h2 := Kd.S_lt HS.out k_ e.symm; omega⟩)); (case aF => exact (fun k_ hk h => by have h1 := HB7.out.size; have := HZ.out; omega)); (case aO => exact Kd.S_mono (Kd.S_below (Kd.S_bound HS.out) HB7.out) (fun k_ hk => ⟨hk.1, fun e => by have h1 := Kd.R_base HO29.out k_ e.symm; have h2 := hk.2.2.1; omega⟩)); (case aB => exact HB7.out.mono HB.out.size); (case aS => exact Nat.le_trans HB.out.size HB7.out.size); intro v31 w8 ho hb hg hat; rw [HEQ.out] at ho; have hs7 := Kd.S_below HS.out HB7.out; have hr7 := Kd.R_below HR.out HB7.out; have HR8 := Aside0.mk (Kd.R_grown hr7 hg (fun k hk e => (Kd.S_R hs7).1 k e.symm hk)); obtain ⟨A31, c31, e31⟩ := Kd.S_slice ho; rw [HL7.out] at e31; subst e31; have HS8 := Aside0.mk ho; have HB8 := Aside0.mk (HB.out.trans hb); have HZ8 := Aside0.mk (Nat.le_trans HZ.out (Nat.le_trans HB7.out.size hg.size)); clear ho hb hg hat hs7 hr7)) | ((with_reducible refine gate_dst (N := 29) rfl ?_); refine Kd.R_lit (Kd.int .i64) _ 3 ?hg (N := 29) ?hd (xs := ([] : List Int)) (inner := []) (ok := fun _ => True) (okp := fun _ => True) ?hr ?hp (fun _ hk => hk) trivial (Below.refl _ _) (Nat.le_refl _) (by simp) ?_; (case hd => rfl); (case hg => rfl); (case hr => first | (go_simp; done) | (go_simp; rfl)); (case hp => exact (Reps.none _ _)); intro v29 w7 ho hb hg_ hnew_; obtain ⟨A29, c29, e29⟩ := Kd.R_slice ho; subst e29; simp only [List.length_nil] at ho ⊢; have HO29 := Aside0.mk ho; have HB7 := Aside0.mk hb; clear ho hb hg_ hnew_))
     go_roundw
     case measure =>
      have := HLT.out
      simp [lenV]
      omega
     case rel => exact ⟨m + 1, c31, A31, rfl, ⟨HLT.out.1⟩, HS8, HB8, HZ8, HR8⟩
    ·have qs : ¬ ((z0 + m : Nat) : Int) ≤ (s : Int) := by omega
     have hpad : L0 ++ List.replicate m ([] : List Int) = padS L0 s := by
      unfold padS
      rw [hz0, show s + 1 - z0 = m by omega]
     rw [hpad] at HS hPl
     obtain ⟨go, cap, ev, hgo, hgl, cells, hcells⟩ := Kd.S_form HS.out (by rw [hPl]; omega)
     injection ev with e1 e2 e3
     subst e1
     have hs1 : (s : Int) < ((z0 + m : Nat) : Int) := by omega
     obtain ⟨oki, cc, hcl, hM, hcc, hfr, hoki, hH⟩ := Kd.S_elem HS.out [] (s : Int) (by omega) hs1
     rw [Int.toNat_natCast] at hM
     have hmem := getD_memS (out := padS L0 s) (s := s) (by rw [hPl]; omega)
     have hx8 : ((padS L0 s).getD s []).length ≤ 8 := by
      rcases padS_mem hmem with h | h
      ·have := HSB.out.2.2.2.2 _ h
       have := HSB.out
       omega
      ·rw [h]; simp
     obtain ⟨x0, hx0⟩ : ∃ x, (padS L0 s).getD s [] = x := ⟨_, rfl⟩
     rw [hx0] at hM hx8
     have HX0 := Aside0.mk hx0
     obtain ⟨v, ecc, hRv⟩ := hM
     subst ecc
     obtain ⟨A', c', ev'⟩ := Kd.R_slice hRv
     subst ev'
     have hoff : (s : Int).toNat * (Kd.slice 3 (Kd.int .i64)).sz + 0 = s := by
      show s * 1 + 0 = s
      omega
     have cs := hcc 0 _ rfl
     rw [hoff] at cs
     have hlen : (x0.length + 1) * 8 ≤ 140737488355328 := by omega
     have HRV := Aside0.mk hRv
     have HHH := Aside0.mk hH
     have HOKI := Aside0.mk hoki
     have HCELL := Aside0.mk hcells
     have HGO := Aside0.mk (show w1.heap.size ≤ go ∧ ¬ (w2.heap.size ≤ go ∧ go < w3.heap.size) from ⟨hgo, (Kd.S_R HS.out).1 go (by simp [Value.ownBlock])⟩)
     have HPL := Aside0.mk hPl
     have HS1 := Aside0.mk hs1
     clear hm hlt hz0 hPl hpad hgo hgl hcells hcl hcc hfr hoki hH hmem hx0 hRv hx8 e2 e3 hs1
     have hs1 := HS1.out
     go_wp2_with (first | ((with_reducible refine gate_builtin (b := .append) (xs := #[.tmp 37, .tmp 39]) rfl ?_); at_builtin; go_must (refine Kd.R_append (Kd.int .i64) (w0 := wr) w1.heap.size rfl (.tmp 37) (.tmp 39) 25 3 (.int .i64 0) 8 rfl Tryd.underlying25 info3 rfl (by decide) (by omega) (.slice A' x0.length c') x0 (j : Int) [.int .i64 (j : Nat)] (fun k => oki k ∨ (¬ (w2.heap.size ≤ k ∧ k < w3.heap.size) ∧ wr.heap.size ≤ k)) (fun _ => False) rfl rfl rfl (fun _ hk => hk.elim) ?aF ?aO (Below.refl _ _) HB.out.size hlen ?_; (case aF => exact (fun k hk => .inr ⟨fun h => by have := HZ.out; omega, hk⟩)); (case aO => exact Kd.R_mono HRV.out (fun k hk => .inl hk)); intro v40 w8 ho hb hg hat; have hrow : ∀ k, (Value.slice A' x0.length c').ownBlock = some k → oki k := (fun k e => HRV.out.1 k e); have hH8 := Kd.H_grown (Kd.H_widen HHH.out) hg (fun k e => .inl (hrow k e)); have hx8 := (hg.block go (Array.getElem?_eq_some_iff.1 HCELL.out).1 (fun e => (HOKI.out go (hrow go e.symm)).2 rfl)).trans HCELL.out; have cs8 : w8.cell? ⟨go, s, none⟩ = some (.slice A' x0.length c') := ((cell_blk hx8 _).trans (cell_blk HCELL.out _).symm).trans cs; have fz8 : w8.frozen? ⟨go, s, none⟩ = false := blk_frozen hx8 _; obtain ⟨A40, c40, e40⟩ := Kd.R_slice ho; subst e40; have HO8 := Aside0.mk ho; have HH8 := Aside0.mk hH8; have HB8 := Aside0.mk (HB.out.trans hb); have HR8 := Aside0.mk (Kd.R_grown HR.out hg (fun k hk e => (HOKI.out k (hrow k e.symm)).1 hk)); have HZ8 := Aside0.mk (Nat.le_trans HZ.out hg.size); clear ho hb hg hat hrow hH8 hx8)))
     go_roundw
     case measure =>
      have := HSB.out
      simp [intOf]
      omega
     case rel =>
      have ho8 := HO8.out
      rw [show (x0 ++ [(j : Int)]).length = x0.length + 1 by simp] at ho8
      have hsz := (Below.setCell (Below.refl 0 w8) (p := ⟨go, s, none⟩) (Nat.zero_le _) (.slice A40 (x0.length + 1) c40)).size
      have hseg := (Kd.H_seg HH8.out (by omega) hs1 (seg := [.slice A40 (x0.length + 1) c40]) (j := 0) (by show 0 + 1 ≤ 1; omega) (by simp [Value.oneCell'])).1
      rw [show (s : Int).toNat * (Kd.slice 3 (Kd.int .i64)).sz + 0 = s from by show s * 1 + 0 = s; omega] at hseg
      have hback := Kd.H_back (x' := x0 ++ [(j : Int)]) hseg (Kd.M_row (Kd.R_far ho8 (p := ⟨go, s, none⟩) (fun k hk e => by
       rcases hk with h | h
       ·exact (HOKI.out k h).2 e
       ·have e' : k = go := e
        have := (Array.getElem?_eq_some_iff.1 HCELL.out).1
        omega) (.slice A40 (x0.length + 1) c40))) (fun k hk => hk)
      rw [Int.toNat_natCast] at hback
      have hE : (padS L0 s).set s (x0 ++ [(j : Int)]) = stgsTo st (j + 1) := by rw [HSU.out, HX0.out]
      rw [hE] at hback
      have hlenE : (stgsTo st (j + 1)).length = z0 + m := by rw [← hE, List.length_set]; exact HPL.out
      exact ⟨j + 1, c, some ⟨go, 0, none⟩, by rw [Int.natCast_succ], by rw [hlenE], ⟨HSB.out.2.2.1⟩, ⟨by rw [hlenE]; exact hback⟩, ⟨HB8.out.setCell (p := ⟨go, s, none⟩) HGO.out.1 _⟩, ⟨Nat.le_trans HZ8.out hsz⟩, ⟨Kd.R_far HR8.out (p := ⟨go, s, none⟩) (fun k hk e => by have e' : k = go := e; exact HGO.out.2 (e' ▸ hk)) _⟩⟩
  ·obtain rfl : j = n := by omega
   clear hj hn8 hlt hsl
   go_wp2
   go_ret
   exact ⟨_, rfl, Kd.S_mono (Kd.S_lower HS.out HBW1.out.size) (fun _ _ => trivial), HBW1.out.trans (HB.out.mono HBW1.out.size)⟩
def impl_StagesOf.f (l0 : List S29) : Option (List (List Int)) := some (if gok l0 = true then stgsTo (stg l0) l0.length else [])
set_option maxHeartbeats 8000000 in
set_option maxRecDepth 1000000 in
theorem impl_StagesOf.calls (A0 : Option Addr) (c0 : Nat) (l0 : List S29) (r : List (List Int)) (w : World) (hr0 : Kd.C k29 w A0 l0.length l0) (hc0 : l0.length ≤ c0) (h : impl_StagesOf.f l0 = some r) (hT_ : Tab w) :
  Calls Tryd.prog 15 #[.slice A0 l0.length c0] w fun e w' => ∃ v0_ : Value, e = .returned (v0_) ∧ Kd.S (Kd.slice 3 (Kd.int .i64)) 25 w' w.heap.size (fun _ => True) v0_ r ∧ Below w.heap.size w w' := by
 injection h with h
 subst h
 by_cases c : gok l0 = true
 ·rw [if_pos c]
  exact stagesOf_yes c hr0 hc0 hT_
 ·rw [if_neg c]
  have HGO := Aside0.mk (graphOf_no (Bool.eq_false_iff.2 c) hr0 hc0)
  clear c hr0 hc0 hT_
  go_enter Tryd.func15, Tryd.ntmps15
  go_wp2_with (first | (go_at_call 34; refine HGO.out.mono ?_; rintro e w1 ⟨rfl, hB⟩; have HB := Aside0.mk hB; clear hB))
  go_ret
  exact ⟨_, rfl, Kd.S_nil _ _ _ _ _, HB.out⟩
end Go.Proofs.YtbodhggmhbiebaaDoor.G
