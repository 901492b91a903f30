/-
 Several texts in one: HGOf, HTotal.
-/
import Derived.Test.YtbodhggmhbiebaaDoorHGraph
import Derived.Test.YtbodhggmhbiebaaDoorQNeeds
import Derived.Test.YtbodhggmhbiebaaDoorCG
import Derived.Test.YtbodhggmhbiebaaDoorG0
/-! graphOf: one contract for each answer. -/
namespace Go.Proofs.YtbodhggmhbiebaaDoor.G
open Go.RowKit Go.Proofs.YtbodhggmhbiebaaDoorW.PrintWords Go.Proofs.YtbodhggmhbiebaaDoorW.PrintLast Go.Proofs.YtbodhggmhbiebaaDoorW.PrintMore C
set_option linter.unusedVariables false
set_option linter.unusedSimpArgs false

theorem Tab.pos {w : World} (h : Tab w) : 0 < w.heap.size := World.block_lt_of_cell? w _ (h 0 (by decide))
/-- The graph is valid. -/
def gok (l0 : List S29) : Bool := fine l0 && decide (Full l0.length (nds l0))
/-- Its order; whom each task needs, who needs it. -/
def ord (l0 : List S29) : List Nat := topo l0.length (nds l0)
def bel (l0 : List S29) : List Nat := (gst (ndm l0) l0.length (ord l0)).1
def abv (l0 : List S29) : List Nat := (gst (ndm l0) l0.length (ord l0)).2
theorem gok_fine {l0 : List S29} (h : gok l0 = true) : fine l0 = true := by
 unfold gok at h
 simp only [Bool.and_eq_true] at h
 exact h.1
theorem gok_full {l0 : List S29} (h : gok l0 = true) : Full l0.length (nds l0) := by
 unfold gok at h
 simp only [Bool.and_eq_true, decide_eq_true_eq] at h
 exact h.2
theorem gok8 {l0 : List S29} (h : gok l0 = true) : l0.length ≤ 8 := (fine_task (gok_fine h)).1
theorem ord_mem {l0 : List S29} (h : gok l0 = true) {i : Nat} : i ∈ ord l0 ↔ i < l0.length := (gok_full h).mem
theorem ord_len {l0 : List S29} (h : gok l0 = true) : (ord l0).length = l0.length := gok_full h
theorem bel_bits {l0 : List S29} (h : gok l0 = true) {i : Nat} (hi : i < l0.length) : Bits ((bel l0).getD i 0) (fun k => C.Reach (nds l0) i k) := (gst_inv (nd := nds l0) (ndl := ndm l0) (gok8 h) (fun i hi => ndm_bits (gok_fine h) hi) (ord l0) (topo_pre _ _)).2.2.1 i ((ord_mem h).2 hi)
theorem abv_bits {l0 : List S29} (h : gok l0 = true) {k : Nat} (hk : k < l0.length) : Bits ((abv l0).getD k 0) (fun i => i < l0.length ∧ C.Reach (nds l0) i k) := ((gst_inv (nd := nds l0) (ndl := ndm l0) (gok8 h) (fun i hi => ndm_bits (gok_fine h) hi) (ord l0) (topo_pre _ _)).2.2.2.2 k hk).congr (fun i => by rw [ord_mem h])
theorem graphOf_yesF {A0 : Option Addr} {c0 : Nat} {l0 : List S29} {w : World} (h : gok l0 = true) (hr0 : Kd.C k29 w A0 l0.length l0) (hc0 : l0.length ≤ c0) (ht : Tab w) :
  Calls Tryd.prog 34 #[.slice A0 l0.length c0] w fun e w' => ∃ g, e = .returned (.tuple #[.pointer (some ⟨g, 0, none⟩), .bool true]) ∧ IsG w.heap.size w' g l0.length l0 (ndm l0) (ord l0) (bel l0) (abv l0) ∧ Below w.heap.size w w' ∧ IsGF A0 w w' g l0.length l0 (ndm l0) (ord l0) (bel l0) (abv l0) := by
 have hf := gok_fine h
 have h8 := gok8 h
 refine graphOf_fullF 200 A0 c0 l0 (ndm l0) (ord l0) _ w hr0 hc0 ht ht.pos h8 (by rw [needsOf_eq _ _ (by decide), if_pos hf]) (ndm_sets hf) (order_eq hf 200 (by decide)) (ord_len h) (fun i hi => (ord_mem h).1 hi) ?_
 rw [everything_eq h8, (full_iff hf).2 (gok_full h)]
theorem graphOf_yes {A0 : Option Addr} {c0 : Nat} {l0 : List S29} {w : World} (h : gok l0 = true) (hr0 : Kd.C k29 w A0 l0.length l0) (hc0 : l0.length ≤ c0) (ht : Tab w) :
  Calls Tryd.prog 34 #[.slice A0 l0.length c0] w fun e w' => ∃ g, e = .returned (.tuple #[.pointer (some ⟨g, 0, none⟩), .bool true]) ∧ IsG w.heap.size w' g l0.length l0 (ndm l0) (ord l0) (bel l0) (abv l0) ∧ Below w.heap.size w w' :=
 (graphOf_yesF h hr0 hc0 ht).mono (fun e w' ⟨g, e1, h1, h2, _⟩ => ⟨g, e1, h1, h2⟩)
theorem graphOf_no {A0 : Option Addr} {c0 : Nat} {l0 : List S29} {w : World} (h : gok l0 = false) (hr0 : Kd.C k29 w A0 l0.length l0) (hc0 : l0.length ≤ c0) :
  Calls Tryd.prog 34 #[.slice A0 l0.length c0] w fun e w' => e = .returned (.tuple #[.pointer none, .bool false]) ∧ Below w.heap.size w w' := by
 by_cases hf : fine l0 = true
 ·have h8 := (fine_task hf).1
  refine graphOf_ring 200 A0 c0 l0 (ndm l0) (ord l0) _ _ w hr0 hc0 (by simp [ndm]) (by rw [needsOf_eq _ _ (by decide), if_pos hf]) (order_eq hf 200 (by decide)) (everything_eq h8) (fun e => ?_)
  have hfull := (full_iff hf).1 e
  unfold gok at h
  rw [hf, decide_eq_true hfull] at h
  cases h
 ·exact graphOf_unfit 200 A0 c0 l0 [] w hr0 hc0 (by rw [needsOf_eq _ _ (by decide), if_neg hf])
def sok (l0 : List S29) (l1 : List Int) : Bool := gok l0 && ascB l0.length (-1) l1
theorem maskGo_lt {n : Nat} (hn : n ≤ 8) {l : List Int} (h : ascB n (-1) l = true) : maskGo 0 l < 2 ^ n := by
 have ha := ascB_mem h
 exact sets_of_bits (maskGo_bits hn l 0 _ Bits.zero (fun x hx => ⟨by have := ha x hx; omega, (ha x hx).2⟩)) (fun i hi => by
  rcases hi with hi | hi
  ·exact hi.elim
  ·have := ha _ hi
   omega)
theorem sok_cases {l0 : List S29} {l1 : List Int} (h : sok l0 l1 = false) : gok l0 = false ∨ (gok l0 = true ∧ ascB l0.length (-1) l1 = false) := by
 unfold sok at h
 cases hg : gok l0 with
 | false => exact .inl rfl
 | true =>
  rw [hg, Bool.true_and] at h
  exact .inr ⟨rfl, h⟩
end Go.Proofs.YtbodhggmhbiebaaDoor.G
/-! Methods of a graph by hand: size, total. -/
namespace Go.Proofs.YtbodhggmhbiebaaDoor.G
open Go.RowKit Go.Proofs.YtbodhggmhbiebaaDoorW.PrintWords Go.Proofs.YtbodhggmhbiebaaDoorW.PrintLast Go.Proofs.YtbodhggmhbiebaaDoorW.PrintMore C
set_option linter.unusedVariables false
set_option linter.unusedSimpArgs false
attribute [local go_sem] Oper.semAt_some

theorem IsG.below {b : Nat} {w w' : World} {g n : Nat} {l0 : List S29} {nd od bl ab : List Nat} (h : IsG b w g n l0 nd od bl ab) (hb : Below w.heap.size w w') : IsG b w' g n l0 nd od bl ab := by
 obtain ⟨A0, c0, A1, c1, A2, c2, P3, P4, h1, h2, h3, h4, h5, h6, h7⟩ := h
 exact ⟨A0, c0, A1, c1, A2, c2, P3, P4, (hb.block _ (Array.getElem?_eq_some_iff.1 h1).1).trans h1, h2, Kd.C_below h3 hb, Kd.C_below h4 hb, Kd.R_below h5 hb, Kd.C_below h6 hb, Kd.C_below h7 hb⟩
theorem IsG.drawn {b : Nat} {w w' : World} {g n : Nat} {l0 : List S29} {nd od bl ab : List Nat} (h : IsG b w g n l0 nd od bl ab) (hb : Drawn0 w w') : IsG b w' g n l0 nd od bl ab := h.below hb.below
set_option maxHeartbeats 4000000 in
set_option maxRecDepth 1000000 in
theorem size_calls {b : Nat} {w : World} {g n : Nat} {l0 : List S29} {nd od bl ab : List Nat} (h : IsG b w g n l0 nd od bl ab) : Calls Tryd.prog 54 #[.pointer (some ⟨g, 0, none⟩)] w fun e w' => e = .returned (.int .i64 (n : Nat)) ∧ w' = w := by
 obtain ⟨A0, c0, A1, c1, A2, c2, P3, P4, h1, h2, h3, h4, h5, h6, h7⟩ := h
 have hx0 : w.cell? ⟨g, 0, none⟩ = some (.slice A0 n c0) := (cell_blk h1 0).trans rfl
 clear h1 h2 h3 h4 h5 h6 h7
 go_enter Tryd.func54, Tryd.ntmps54
 go_wp2
 go_ret
 exact ⟨rfl, rfl⟩
/-- The sum of the times of tasks. -/
def tsum (l0 : List S29) (l : List Nat) : Int := l.foldl (fun (s : Int) (i : Nat) => s + (rd_T29 l0 (i : Int)).f0) 0
theorem tsum_snoc (l0 : List S29) (l : List Nat) (i : Nat) : tsum l0 (l ++ [i]) = tsum l0 l + (rd_T29 l0 (i : Int)).f0 := by
 unfold tsum
 rw [List.foldl_append]
 rfl
theorem fine_time {l0 : List S29} (h : fine l0 = true) {i : Nat} (hi : i < l0.length) : 1 ≤ (rd_T29 l0 (i : Int)).f0 ∧ (rd_T29 l0 (i : Int)).f0 ≤ 20 := by
 have hm := (fine_task h).2 _ (mem_rdT hi)
 unfold fineT at hm
 simp only [Bool.and_eq_true, decide_eq_true_eq] at hm
 exact hm.2.1
end Go.Proofs.YtbodhggmhbiebaaDoor.G
