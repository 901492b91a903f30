/-
 ValidGraph, related, AllUsers by hand.
-/
import Derived.Test.YtbodhggmhbiebaaDoorHGOf
import Derived.Test.YtbodhggmhbiebaaDoorG0
import Derived.Test.YtbodhggmhbiebaaDoorG11
namespace Go.Proofs.YtbodhggmhbiebaaDoor.G
open Go.RowKit Go.Proofs.YtbodhggmhbiebaaDoorW.PrintWords Go.Proofs.YtbodhggmhbiebaaDoorW.PrintLast Go.Proofs.YtbodhggmhbiebaaDoorW.PrintMore C
set_option linter.unusedVariables false
set_option linter.unusedSimpArgs false

def impl_ValidGraph.f (l0 : List S29) : Option (Bool) := some (gok l0)
set_option maxHeartbeats 4000000 in
set_option maxRecDepth 1000000 in
theorem impl_ValidGraph.calls (A0 : Option Addr) (c0 : Nat) (l0 : List S29) (r : Bool) (w : World) (hr0 : Kd.C k29 w A0 l0.length l0) (hc0 : l0.length ≤ c0) (h : impl_ValidGraph.f l0 = some r) (hT_ : Tab w) :
  Calls Tryd.prog 21 #[.slice A0 l0.length c0] w fun e w' => e = .returned (.bool r) ∧ Below w.heap.size w w' := by
 injection h with h
 subst h
 cases hg : gok l0 with
 | true =>
  have HGO := Aside0.mk (graphOf_yes hg hr0 hc0 hT_)
  clear hr0 hc0 hT_ hg
  go_enter Tryd.func21, Tryd.ntmps21
  go_wp2_with (first | (go_at_call 34; refine HGO.out.mono ?_; rintro e w1 ⟨g, rfl, hG, hB⟩; have HB := Aside0.mk hB; clear hG hB))
  go_ret
  exact ⟨rfl, HB.out⟩
 | false =>
  have HGO := Aside0.mk (graphOf_no hg hr0 hc0)
  clear hr0 hc0 hT_ hg
  go_enter Tryd.func21, Tryd.ntmps21
  go_wp2_with (first | (go_at_call 34; refine HGO.out.mono ?_; rintro e w1 ⟨rfl, hB⟩; have HB := Aside0.mk hB; clear hB))
  go_ret
  exact ⟨rfl, HB.out⟩
/-- A choice of a graph's rows. -/
def Of (f : FuncId) (sel : List S29 → List Nat) : Prop := ∀ {b : Nat} {w : World} {g n : Nat} {l0 : List S29}, IsG b w g n l0 (ndm l0) (ord l0) (bel l0) (abv l0) →
 Calls Tryd.prog f #[.pointer (some ⟨g, 0, none⟩)] w fun e w' => ∃ P, e = .returned (.slice (some ⟨P, 0, none⟩) n n) ∧ w' = w ∧ Kd.C (Kd.int .u16) w (some ⟨P, 0, none⟩) n (castL (sel l0))
set_option maxHeartbeats 4000000 in
set_option maxRecDepth 1000000 in
theorem of_needs : Of 39 bel := by
 intro b w g n l0 h
 obtain ⟨A0, c0, A1, c1, A2, c2, P3, P4, h1, h2, h3, h4, h5, h6, h7⟩ := h
 have hx : w.cell? ⟨g, 3, none⟩ = some (.slice (some ⟨P3, 0, none⟩) n n) := (cell_blk h1 3).trans rfl
 have H6 := Aside0.mk h6
 clear h1 h2 h3 h4 h5 h6 h7
 go_enter Tryd.func39, Tryd.ntmps39
 go_wp2
 go_ret
 exact ⟨P3, rfl, rfl, H6.out⟩
theorem gst_lens {l0 : List S29} (hg : gok l0 = true) : Sets l0.length (bel l0) ∧ Sets l0.length (abv l0) := gst_ok (gok8 hg) (ndm_sets (gok_fine hg)) (ord l0) (fun i hi => (ord_mem hg).1 hi)
def relF (sel : List S29 → List Nat) (l0 : List S29) (a : Int) : List Int := if gok l0 = true ∧ 0 ≤ a ∧ a ≤ (l0.length : Int) - 1 then castL (elems ((sel l0).getD a.toNat 0)) else []
set_option maxHeartbeats 8000000 in
set_option maxRecDepth 1000000 in
theorem related_needs {A0 : Option Addr} {c0 : Nat} {l0 : List S29} {a : Int} {w : World} (hr0 : Kd.C k29 w A0 l0.length l0) (hc0 : l0.length ≤ c0) (hT_ : Tab w) :
  Calls Tryd.prog 38 #[.slice A0 l0.length c0, .int .i64 a, .func (.func 39) #[] #[]] w fun e w' => ∃ v0_ : Value, e = .returned (v0_) ∧ Kd.R (Kd.int .i64) 3 w' w.heap.size (fun _ => True) v0_ (relF bel l0 a) ∧ Below w.heap.size w w' := by
 have HT := Aside0.mk hT_
 cases hg : gok l0 with
 | false =>
  have HGO := Aside0.mk (graphOf_no hg hr0 hc0)
  have HX := Aside0.mk (show relF bel l0 a = [] by unfold relF; rw [if_neg (by rw [hg]; simp)])
  clear hr0 hc0 hT_ hg
  go_enter Tryd.func38, Tryd.ntmps38
  go_wp2_with (first | (go_at_call 34; refine HGO.out.mono ?_; rintro e w1 ⟨rfl, hB⟩; have HB := Aside0.mk hB; clear hB))
  go_ret
  exact ⟨_, rfl, by rw [HX.out]; exact Kd.R_nil _ _ _ _ _, HB.out⟩
 | true =>
  have HGO := Aside0.mk (graphOf_yes hg hr0 hc0 hT_)
  have h8 := gok8 hg
  have hw1 : wrap64 ((l0.length : Int) - 1) = (l0.length : Int) - 1 := w64 (by omega) (by omega)
  by_cases ha : 0 ≤ a ∧ a ≤ (l0.length : Int) - 1
  ·have HX := Aside0.mk (show relF bel l0 a = castL (elems ((bel l0).getD a.toNat 0)) by unfold relF; rw [if_pos ⟨hg, ha⟩])
   have HW := Aside0.mk (show impl_within.f a 0 ((l0.length : Int) - 1) = some true by rw [within_eq, decide_eq_true ha])
   obtain ⟨i, rfl⟩ := Int.eq_ofNat_of_zero_le ha.1
   rw [Int.toNat_natCast] at HX
   obtain ⟨m, hm⟩ : ∃ m, (bel l0).getD i 0 = m := ⟨_, rfl⟩
   rw [hm] at HX
   have HM := Aside0.mk (show m < 65536 ∧ (bel l0).getD i 0 = m ∧ i < l0.length from ⟨by rw [← hm]; exact Nat.lt_trans (pow8 h8 (((gst_lens hg).1).get i)) (by decide), hm, by omega⟩)
   have qi : (i : Int) < (l0.length : Int) := by omega
   clear hr0 hc0 hT_ hg ha hm h8
   go_enter Tryd.func38, Tryd.ntmps38
   go_wp2_with (first | (go_at_call 34; refine HGO.out.mono ?_; rintro e w1 ⟨g, rfl, hG, hB⟩; have HG := Aside0.mk hG; have HB := Aside0.mk hB; clear hG hB) | (go_at_call 57; refine (impl_within.calls _ _ _ _ _ HW.out).mono ?_; rintro e w2 ⟨rfl, hD⟩; have HD := Aside0.mk hD; clear hD) | (go_at_call 39; refine (of_needs (HG.out.drawn HD.out)).mono ?_; rintro e w3 ⟨P, rfl, hw3, hC⟩; rw [hw3]; clear hw3 w3; obtain ⟨ad, e1, ci⟩ := Kd.at_int hC (i : Int) (by omega) (by omega); cases e1; rw [Int.toNat_natCast, rd_castL, HM.out.2.1, Addr.add_lit, Nat.zero_add] at ci; clear hC) | (go_at_call 58; have hB2 := HB.out.trans (HD.out.below.mono HB.out.size); refine (list_calls HM.out.1 (HT.out.below hB2 HT.out.pos) (HT.out.below hB2 HT.out.pos).pos).mono ?_; rintro e w4 ⟨v, rfl, hR, hB4⟩; have HR := Aside0.mk hR; have HB2 := Aside0.mk hB2; have HB4 := Aside0.mk hB4; clear hR hB4 hB2))
   go_ret
   exact ⟨v, rfl, by rw [HX.out]; exact Kd.R_lower HR.out HB2.out.size, HB2.out.trans (HB4.out.mono HB2.out.size)⟩
  ·have HX := Aside0.mk (show relF bel l0 a = [] by unfold relF; rw [if_neg (fun e => ha e.2)])
   have HW := Aside0.mk (show impl_within.f a 0 ((l0.length : Int) - 1) = some false by rw [within_eq, decide_eq_false ha])
   clear hr0 hc0 hT_ hg ha h8
   go_enter Tryd.func38, Tryd.ntmps38
   go_wp2_with (first | (go_at_call 34; refine HGO.out.mono ?_; rintro e w1 ⟨g, rfl, hG, hB⟩; have HB := Aside0.mk hB; clear hG hB) | (go_at_call 57; refine (impl_within.calls _ _ _ _ _ HW.out).mono ?_; rintro e w2 ⟨rfl, hD⟩; have HD := Aside0.mk hD; clear hD))
   go_ret
   exact ⟨_, rfl, by rw [HX.out]; exact Kd.R_nil _ _ _ _ _, HB.out.trans (HD.out.below.mono HB.out.size)⟩
def impl_AllNeeds.f (l0 : List S29) (a1 : Int) : Option (List Int) := some (relF bel l0 a1)
set_option maxHeartbeats 4000000 in
set_option maxRecDepth 1000000 in
theorem impl_AllNeeds.calls (A0 : Option Addr) (c0 : Nat) (l0 : List S29) (a1 : Int) (r : List Int) (w : World) (hr0 : Kd.C k29 w A0 l0.length l0) (hc0 : l0.length ≤ c0) (h : impl_AllNeeds.f l0 a1 = some r) (hT_ : Tab w) :
  Calls Tryd.prog 13 #[.slice A0 l0.length c0, .int .i64 a1] w fun e w' => ∃ v0_ : Value, e = .returned (v0_) ∧ Kd.R (Kd.int .i64) 3 w' w.heap.size (fun _ => True) v0_ r ∧ Below w.heap.size w w' := by
 injection h with h
 subst h
 have HC := Aside0.mk (related_needs (a := a1) hr0 hc0 hT_)
 clear hr0 hc0 hT_
 go_enter Tryd.func13, Tryd.ntmps13
 go_wp2_with (first | (go_at_call 38; refine HC.out.mono ?_; rintro e w1 ⟨v, rfl, hR, hB⟩; have HR := Aside0.mk hR; have HB := Aside0.mk hB; clear hR hB))
 go_ret
 exact ⟨v, rfl, HR.out, HB.out⟩
end Go.Proofs.YtbodhggmhbiebaaDoor.G
