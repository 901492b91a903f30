/-
 Several texts in one: HGOf, HTotal.
-/
import Derived.Test.YtkafmfabkbmpbaaDoorHGraph
import Derived.Test.YtkafmfabkbmpbaaDoorQNeeds
import Derived.Test.YtkafmfabkbmpbaaDoorCG
import Derived.Test.YtkafmfabkbmpbaaDoorG0
/-! graphOf: one contract for each answer. -/
namespace Go.Proofs.YtkafmfabkbmpbaaDoor.G
open Go.RowKit Go.Proofs.YtkafmfabkbmpbaaDoorW.PrintWords Go.Proofs.YtkafmfabkbmpbaaDoorW.PrintLast Go.Proofs.YtkafmfabkbmpbaaDoorW.PrintMore C
set_option linter.unusedVariables false
set_option linter.unusedSimpArgs false

theorem Tab.pos {w : World} (h : Tab w) : 0 < w.heap.size := World.block_lt_of_cell? w _ (h 0 (by decide))
/-- The graph is valid. -/
def gok (l0 : List S47) : Bool := fine l0 && decide (Full l0.length (nds l0))
/-- Its order; whom each task needs, who needs it. -/
def ord (l0 : List S47) : List Nat := topo l0.length (nds l0)
def bel (l0 : List S47) : List Nat := (gst (ndm l0) l0.length (ord l0)).1
def abv (l0 : List S47) : List Nat := (gst (ndm l0) l0.length (ord l0)).2
theorem gok_fine {l0 : List S47} (h : gok l0 = true) : fine l0 = true := by
 unfold gok at h
 simp only [Bool.and_eq_true] at h
 exact h.1
theorem gok_full {l0 : List S47} (h : gok l0 = true) : Full l0.length (nds l0) := by
 unfold gok at h
 simp only [Bool.and_eq_true, decide_eq_true_eq] at h
 exact h.2
theorem gok8 {l0 : List S47} (h : gok l0 = true) : l0.length ≤ 8 := (fine_task (gok_fine h)).1
theorem ord_mem {l0 : List S47} (h : gok l0 = true) {i : Nat} : i ∈ ord l0 ↔ i < l0.length := (gok_full h).mem
theorem ord_len {l0 : List S47} (h : gok l0 = true) : (ord l0).length = l0.length := gok_full h
theorem bel_bits {l0 : List S47} (h : gok l0 = true) {i : Nat} (hi : i < l0.length) : Bits ((bel l0).getD i 0) (fun k => C.Reach (nds l0) i k) := (gst_inv (nd := nds l0) (ndl := ndm l0) (gok8 h) (fun i hi => ndm_bits (gok_fine h) hi) (ord l0) (topo_pre _ _)).2.2.1 i ((ord_mem h).2 hi)
theorem abv_bits {l0 : List S47} (h : gok l0 = true) {k : Nat} (hk : k < l0.length) : Bits ((abv l0).getD k 0) (fun i => i < l0.length ∧ C.Reach (nds l0) i k) := ((gst_inv (nd := nds l0) (ndl := ndm l0) (gok8 h) (fun i hi => ndm_bits (gok_fine h) hi) (ord l0) (topo_pre _ _)).2.2.2.2 k hk).congr (fun i => by rw [ord_mem h])
theorem graphOf_yesF {A0 : Option Addr} {c0 : Nat} {l0 : List S47} {w : World} (h : gok l0 = true) (hr0 : Kd.C k47 w A0 l0.length l0) (hc0 : l0.length ≤ c0) (ht : Tab w) :
  Calls Tryd.prog 43 #[.slice A0 l0.length c0] w fun e w' => ∃ g, e = .returned (.tuple #[.pointer (some ⟨g, 0, none⟩), .bool true]) ∧ IsG w.heap.size w' g l0.length l0 (ndm l0) (ord l0) (bel l0) (abv l0) ∧ Below w.heap.size w w' ∧ IsGF A0 w w' g l0.length l0 (ndm l0) (ord l0) (bel l0) (abv l0) := by
 have hf := gok_fine h
 have h8 := gok8 h
 refine graphOf_fullF 200 A0 c0 l0 (ndm l0) (ord l0) _ w hr0 hc0 ht ht.pos h8 (by rw [needsOf_eq _ _ (by decide), if_pos hf]) (ndm_sets hf) (order_eq hf 200 (by decide)) (ord_len h) (fun i hi => (ord_mem h).1 hi) ?_
 rw [everything_eq h8, (full_iff hf).2 (gok_full h)]
theorem graphOf_yes {A0 : Option Addr} {c0 : Nat} {l0 : List S47} {w : World} (h : gok l0 = true) (hr0 : Kd.C k47 w A0 l0.length l0) (hc0 : l0.length ≤ c0) (ht : Tab w) :
  Calls Tryd.prog 43 #[.slice A0 l0.length c0] w fun e w' => ∃ g, e = .returned (.tuple #[.pointer (some ⟨g, 0, none⟩), .bool true]) ∧ IsG w.heap.size w' g l0.length l0 (ndm l0) (ord l0) (bel l0) (abv l0) ∧ Below w.heap.size w w' :=
 (graphOf_yesF h hr0 hc0 ht).mono (fun e w' ⟨g, e1, h1, h2, _⟩ => ⟨g, e1, h1, h2⟩)
theorem graphOf_no {A0 : Option Addr} {c0 : Nat} {l0 : List S47} {w : World} (h : gok l0 = false) (hr0 : Kd.C k47 w A0 l0.length l0) (hc0 : l0.length ≤ c0) :
  Calls Tryd.prog 43 #[.slice A0 l0.length c0] w fun e w' => e = .returned (.tuple #[.pointer none, .bool false]) ∧ Below w.heap.size w w' := by
 by_cases hf : fine l0 = true
 ·have h8 := (fine_task hf).1
  refine graphOf_ring 200 A0 c0 l0 (ndm l0) (ord l0) _ _ w hr0 hc0 (by simp [ndm]) (by rw [needsOf_eq _ _ (by decide), if_pos hf]) (order_eq hf 200 (by decide)) (everything_eq h8) (fun e => ?_)
  have hfull := (full_iff hf).1 e
  unfold gok at h
  rw [hf, decide_eq_true hfull] at h
  cases h
 ·exact graphOf_unfit 200 A0 c0 l0 [] w hr0 hc0 (by rw [needsOf_eq _ _ (by decide), if_neg hf])
def sok (l0 : List S47) (l1 : List Int) : Bool := gok l0 && ascB l0.length (-1) l1
theorem maskGo_lt {n : Nat} (hn : n ≤ 8) {l : List Int} (h : ascB n (-1) l = true) : maskGo 0 l < 2 ^ n := by
 have ha := ascB_mem h
 exact sets_of_bits (maskGo_bits hn l 0 _ Bits.zero (fun x hx => ⟨by have := ha x hx; omega, (ha x hx).2⟩)) (fun i hi => by
  rcases hi with hi | hi
  ·exact hi.elim
  ·have := ha _ hi
   omega)
theorem sok_cases {l0 : List S47} {l1 : List Int} (h : sok l0 l1 = false) : gok l0 = false ∨ (gok l0 = true ∧ ascB l0.length (-1) l1 = false) := by
 unfold sok at h
 cases hg : gok l0 with
 | false => exact .inl rfl
 | true =>
  rw [hg, Bool.true_and] at h
  exact .inr ⟨rfl, h⟩
end Go.Proofs.YtkafmfabkbmpbaaDoor.G
/-! Methods of a graph by hand: size, total. -/
namespace Go.Proofs.YtkafmfabkbmpbaaDoor.G
open Go.RowKit Go.Proofs.YtkafmfabkbmpbaaDoorW.PrintWords Go.Proofs.YtkafmfabkbmpbaaDoorW.PrintLast Go.Proofs.YtkafmfabkbmpbaaDoorW.PrintMore C
set_option linter.unusedVariables false
set_option linter.unusedSimpArgs false
attribute [local go_sem] Oper.semAt_some

theorem IsG.below {b : Nat} {w w' : World} {g n : Nat} {l0 : List S47} {nd od bl ab : List Nat} (h : IsG b w g n l0 nd od bl ab) (hb : Below w.heap.size w w') : IsG b w' g n l0 nd od bl ab := by
 obtain ⟨A0, c0, A1, c1, A2, c2, P3, P4, h1, h2, h3, h4, h5, h6, h7⟩ := h
 exact ⟨A0, c0, A1, c1, A2, c2, P3, P4, (hb.block _ (Array.getElem?_eq_some_iff.1 h1).1).trans h1, h2, Kd.C_below h3 hb, Kd.C_below h4 hb, Kd.R_below h5 hb, Kd.C_below h6 hb, Kd.C_below h7 hb⟩
theorem IsG.drawn {b : Nat} {w w' : World} {g n : Nat} {l0 : List S47} {nd od bl ab : List Nat} (h : IsG b w g n l0 nd od bl ab) (hb : Drawn0 w w') : IsG b w' g n l0 nd od bl ab := h.below hb.below
set_option maxHeartbeats 4000000 in
set_option maxRecDepth 1000000 in
theorem size_calls {b : Nat} {w : World} {g n : Nat} {l0 : List S47} {nd od bl ab : List Nat} (h : IsG b w g n l0 nd od bl ab) : Calls Tryd.prog 55 #[.pointer (some ⟨g, 0, none⟩)] w fun e w' => e = .returned (.int .i64 (n : Nat)) ∧ w' = w := by
 obtain ⟨A0, c0, A1, c1, A2, c2, P3, P4, h1, h2, h3, h4, h5, h6, h7⟩ := h
 have hx0 : w.cell? ⟨g, 0, none⟩ = some (.slice A0 n c0) := (cell_blk h1 0).trans rfl
 clear h1 h2 h3 h4 h5 h6 h7
 go_enter Tryd.func55, Tryd.ntmps55
 go_wp2
 go_ret
 exact ⟨rfl, rfl⟩
/-- The sum of the times of tasks. -/
def tsum (l0 : List S47) (l : List Nat) : Int := l.foldl (fun (s : Int) (i : Nat) => s + (rd_T47 l0 (i : Int)).f0) 0
theorem tsum_snoc (l0 : List S47) (l : List Nat) (i : Nat) : tsum l0 (l ++ [i]) = tsum l0 l + (rd_T47 l0 (i : Int)).f0 := by
 unfold tsum
 rw [List.foldl_append]
 rfl
theorem fine_time {l0 : List S47} (h : fine l0 = true) {i : Nat} (hi : i < l0.length) : 1 ≤ (rd_T47 l0 (i : Int)).f0 ∧ (rd_T47 l0 (i : Int)).f0 ≤ 20 := by
 have hm := (fine_task h).2 _ (mem_rdT hi)
 unfold fineT at hm
 simp only [Bool.and_eq_true, decide_eq_true_eq] at hm
 exact hm.2.1
set_option maxHeartbeats 8000000 in
set_option maxRecDepth 1000000 in
theorem total_calls {b : Nat} {w : World} {g n : Nat} {l0 : List S47} {nd od bl ab : List Nat} (h : IsG b w g n l0 nd od bl ab) (hn8 : n ≤ 8) (htm : ∀ i, i < n → 1 ≤ (rd_T47 l0 (i : Int)).f0 ∧ (rd_T47 l0 (i : Int)).f0 ≤ 20) {m : Nat} (hm : m < 2 ^ n) (ht : Tab w) :
  Calls Tryd.prog 36 #[.pointer (some ⟨g, 0, none⟩), .int .u16 (m : Nat)] w fun e w' => e = .returned (.int .i64 (tsum l0 (elems m))) ∧ Below w.heap.size w w' := by
 have HG := Aside0.mk h
 have HT := Aside0.mk ht
 have HM := Aside0.mk (show m < 65536 ∧ m < 2 ^ n ∧ n ≤ 8 from ⟨Nat.lt_trans (pow8 hn8 hm) (by decide), hm, hn8⟩)
 have HTM := Aside0.mk htm
 clear h ht hm hn8 htm
 refine enter_marks Tryd.func36 rfl ?_
 simp only [Tryd.ntmps36, List.size_toArray, List.length_cons, List.length_nil, Nat.reduceAdd, Nat.reduceSub, Array.replicate_succ, Array.replicate_zero, List.push_toArray, List.append_toArray, List.nil_append, List.cons_append]
 go_wp2_with (first | (go_at_call 31; refine (all_calls m _).mono ?_; rintro e w' ⟨rfl, rfl⟩))
 have hx := al_old (o := .cells #[.int .u16 (m : Nat)] 55) (al_old (o := .cells #[.int .i64 0] 3) (al_new w 58 #[.pointer (some ⟨g, 0, none⟩)]))
 have hsu := al_old (o := .cells #[.int .u16 (m : Nat)] 55) (al_new (w.alloc (.cells #[.pointer (some ⟨g, 0, none⟩)] 58)) 3 #[.int .i64 0])
 have hbs := (Boxed.new ((w.alloc (.cells #[.pointer (some ⟨g, 0, none⟩)] 58)).alloc (.cells #[.int .i64 0] 3)) 55 (.int .u16 (m : Nat))).cell
 simp only [World.size_alloc] at hsu hbs
 have HB := Aside0.mk ((((Below.refl w.heap.size w).alloc (Nat.le_refl _) (.cells #[.pointer (some ⟨g, 0, none⟩)] 58)).alloc (by simp) (.cells #[.int .i64 0] 3)).alloc (by simp; omega) (.cells #[.int .u16 (m : Nat)] 55))
 generalize ((w.alloc (.cells #[.pointer (some ⟨g, 0, none⟩)] 58)).alloc (.cells #[.int .i64 0] 3)).alloc (.cells #[.int .u16 (m : Nat)] 55) = w3 at hx hsu hbs HB ⊢
 obtain ⟨Bs, hBs⟩ : ∃ B, w.heap.size + 1 = B := ⟨_, rfl⟩
 obtain ⟨Bx, hBx⟩ : ∃ B, w.heap.size = B := ⟨_, rfl⟩
 have hlo : w.heap.size ≤ Bs := by omega
 have hsz := HB.out.size
 have HLO := Aside0.mk (show w.heap.size ≤ Bx ∧ w.heap.size ≤ Bs ∧ Bx ≠ Bs by omega)
 rw [hBs] at hsu hbs ⊢
 rw [hBx] at hx ⊢
 clear hBs hBx
 refine wp_range HM.out.1 rfl hbs (HT.out.below HB.out HT.out.pos) HT.out.pos hsz rfl
  (fun pre W => W.heap[Bx]? = some (.cells #[.pointer (some ⟨g, 0, none⟩)] 58 (0, 0)) ∧ W.heap[Bs]? = some (.cells #[.int .i64 (tsum l0 pre)] 3 (0, 0)) ∧ (0 ≤ tsum l0 pre ∧ tsum l0 pre ≤ 20 * pre.length) ∧ Below w.heap.size w W)
  (fun s W1 W2 row hs hg hr => ⟨blk_ownFrom hs.1 hg hr, blk_ownFrom hs.2.1 hg hr, hs.2.2.1, below_ownFrom hs.2.2.2 (Nat.le_refl _) hsz hg hr⟩)
  ⟨hx, hsu, by constructor <;> simp [tsum], HB.out⟩ ?a1 ?assign ?body ?done
 case assign =>
  intro l x W K hK
  gi_wp2
  exact hK
 case body =>
  rintro l pre k W hk hpl ⟨g1, g2, g3, g4⟩
  have hkn := elems_lt HM.out.2.2 HM.out.2.1 hk
  obtain ⟨Aa, ca, An, cn, Ao, co, Pb, Pa, hg, hca, hCt, hCn, hRo, hCb, hCa⟩ := HG.out.below g4
  obtain ⟨ad, An', cn', e1, ct, _⟩ := at_T47 hCt (k : Int) (by omega) (by omega)
  subst e1
  rw [Int.toNat_natCast] at ct
  have htk := HTM.out k hkn
  obtain ⟨tk, htk'⟩ : ∃ t, (rd_T47 l0 (k : Int)).f0 = t := ⟨_, rfl⟩
  rw [htk'] at ct htk
  obtain ⟨S, hS⟩ : ∃ s, tsum l0 pre = s := ⟨_, rfl⟩
  rw [hS] at g2 g3
  obtain ⟨v, hv⟩ : ∃ v, S + tk = v := ⟨_, rfl⟩
  have hw : wrap64 v = v := w64 (by omega) (by omega)
  have cx : W.cell? ⟨Bx, 0, none⟩ = some (.pointer (some ⟨g, 0, none⟩)) := (cell_blk g1 0).trans rfl
  have cg : W.cell? ⟨g, 0, none⟩ = some (.slice (some ad) n ca) := (cell_blk hg 0).trans rfl
  have cs0 : W.cell? ⟨Bs, 0, none⟩ = some (.int .i64 S) := (cell_blk g2 0).trans rfl
  have fz : W.frozen? ⟨Bs, 0, none⟩ = false := blk_frozen g2 _
  have qk : (k : Int) < (n : Int) := by omega
  have HF := Aside0.mk (show tsum l0 (pre ++ [k]) = v ∧ 0 ≤ v ∧ v ≤ 20 * ((pre ++ [k]).length : Nat) by
   refine ⟨by rw [tsum_snoc, hS, htk', hv], by omega, ?_⟩
   rw [List.length_append, List.length_singleton]
   omega)
  have G1 := Aside0.mk g1
  have G2 := Aside0.mk g2
  have G4 := Aside0.mk g4
  clear g1 g2 g3 g4 hg hca hCt hCn hRo hCb hCa hS htk htk' hk hpl hkn
  refine wpIn_block (startIn_ (S := Drawn0 W) (ds := [10]) #[false, false, false, false, false, false, false, false, false, false, false] (by kernel_rfl) (by rintro ⟨a, w, h⟩; exact h) (by kernel_rfl) rfl rfl (Drawn0.step (Drawn0.refl W) 1) (fun hHeld => ?_))
  refine takeN 0 10 (bs 11 1) hHeld rfl (.inl ⟨by rfl, fun w' s => by have s0 := (drawn_cell s _).trans cs0; go_simp; with_reducible rfl⟩) ?_
  refine takeN 1 11 (bs 11 3) hHeld rfl (.inl ⟨by rfl, fun w' s => by have s0 := (drawn_cell s _).trans cx; go_simp; with_reducible rfl⟩) ?_
  refine pureN 2 12 (bs 11 7) ?_
  refine pureN 3 13 (bs 11 15) ?_
  refine takeN 4 14 (bs 11 31) hHeld rfl (.inl ⟨by rfl, fun w' s => by have s0 := (drawn_cell s _).trans cg; go_simp; with_reducible rfl⟩) ?_
  refine pureN 5 15 (bs 11 63) ?_
  refine pureN 6 16 (bs 11 127) ?_
  refine pureN 7 17 (bs 11 255) ?_
  refine takeN 8 18 (bs 11 511) hHeld rfl (.inl ⟨by rfl, fun w' s => by have s0 := (drawn_cell s _).trans ct; go_simp; with_reducible rfl⟩) ?_
  refine pureN 9 19 (bs 11 1023) ?_
  refine last_ (i := 10) (N := none) (bs 11 2047) rfl rfl (by kernel_rfl) (by decide) (fun K hK => ?_)
  have s0 := (drawn_cell hHeld _).trans cs0
  have s1 : (W.drew).frozen? ⟨Bs, 0, none⟩ = false := (drawn_frozen hHeld _).trans fz
  refine skip_ (w1 := W.drew.setCell ⟨Bs, 0, none⟩ (.int .i64 v)) (by rfl) rfl (by go_simp; try rfl) ?_
  refine hK.out _ _ ?_
  refine done_ (by kernel_rfl) ?_
  clear s0 s1 hK K
  have hh := drawn_heap hHeld
  have hne := HLO.out.2.2
  have G1' : (W.drew).heap[Bx]? = some (.cells #[.pointer (some ⟨g, 0, none⟩)] 58 (0, 0)) := by rw [hh]; exact G1.out
  have G2' : (W.drew).heap[Bs]? = some (.cells #[.int .i64 S] 3 (0, 0)) := by rw [hh]; exact G2.out
  have hB7 := hHeld.below.mono G4.out.size
  exact ⟨keepsFrom_set (keepsFrom_below hHeld.below) _ _, hB7.setCell (p := ⟨Bs, 0, none⟩) HLO.out.2.1 _, (Below.heap_setCell _ _ _ Bx hne).trans G1', by rw [HF.out.1]; exact (blk_set G2' 0 _).trans rfl, by rw [HF.out.1]; exact HF.out.2, (G4.out.trans hB7).setCell (p := ⟨Bs, 0, none⟩) HLO.out.2.1 _⟩
 case done =>
  rintro D W hD ⟨g1, g2, g3, g4⟩ hK
  have cs0 : W.cell? ⟨Bs, 0, none⟩ = some (.int .i64 (tsum l0 (elems m))) := (cell_blk g2 0).trans rfl
  have G4 := Aside0.mk g4
  have HK := Aside0.mk hK
  have HD := Aside0.mk (Nat.le_trans hsz hD)
  clear g1 g2 g3 g4 hK hD hx hsu hbs hsz hlo HB
  go_wp2_with fail
  refine leave_ (Marks.one HD.out HK.out) (fun w' hw => ?_)
  exact ⟨_, results_tmp rfl _ _ _, rfl, hw.below G4.out⟩
end Go.Proofs.YtkafmfabkbmpbaaDoor.G
