/-
 ValidGraph, related, AllUsers by hand.
-/
import Derived.Test.YtcmhdcjdgchnfaaDoorHGOf
import Derived.Test.YtcmhdcjdgchnfaaDoorG0
namespace Go.Proofs.YtcmhdcjdgchnfaaDoor.G
open Go.RowKit Go.Proofs.YtcmhdcjdgchnfaaDoorW.PrintWords Go.Proofs.YtcmhdcjdgchnfaaDoorW.PrintLast Go.Proofs.YtcmhdcjdgchnfaaDoorW.PrintMore C
set_option linter.unusedVariables false
set_option linter.unusedSimpArgs false

def impl_ValidGraph.f (l0 : List S69) : Option (Bool) := some (gok l0)
set_option maxHeartbeats 4000000 in
set_option maxRecDepth 1000000 in
theorem impl_ValidGraph.calls (A0 : Option Addr) (c0 : Nat) (l0 : List S69) (r : Bool) (w : World) (hr0 : Kd.C k69 w A0 l0.length l0) (hc0 : l0.length ≤ c0) (h : impl_ValidGraph.f l0 = some r) (hT_ : Tab w) :
  Calls Tryd.prog 18 #[.slice A0 l0.length c0] w fun e w' => e = .returned (.bool r) ∧ Below w.heap.size w w' := by
 injection h with h
 subst h
 cases hg : gok l0 with
 | true =>
  have HGO := Aside0.mk (graphOf_yes hg hr0 hc0 hT_)
  clear hr0 hc0 hT_ hg
  go_enter Tryd.func18, Tryd.ntmps18
  go_wp2_with (first | (go_at_call 31; refine HGO.out.mono ?_; rintro e w1 ⟨g, rfl, hG, hB⟩; have HB := Aside0.mk hB; clear hG hB))
  go_ret
  exact ⟨rfl, HB.out⟩
 | false =>
  have HGO := Aside0.mk (graphOf_no hg hr0 hc0)
  clear hr0 hc0 hT_ hg
  go_enter Tryd.func18, Tryd.ntmps18
  go_wp2_with (first | (go_at_call 31; refine HGO.out.mono ?_; rintro e w1 ⟨rfl, hB⟩; have HB := Aside0.mk hB; clear hB))
  go_ret
  exact ⟨rfl, HB.out⟩
/-- A choice of a graph's rows. -/
def Of (f : FuncId) (sel : List S69 → List Nat) : Prop := ∀ {b : Nat} {w : World} {g n : Nat} {l0 : List S69}, IsG b w g n l0 (ndm l0) (ord l0) (bel l0) (abv l0) →
 Calls Tryd.prog f #[.pointer (some ⟨g, 0, none⟩)] w fun e w' => ∃ P, e = .returned (.slice (some ⟨P, 0, none⟩) n n) ∧ w' = w ∧ Kd.C (Kd.int .u16) w (some ⟨P, 0, none⟩) n (castL (sel l0))
theorem gst_lens {l0 : List S69} (hg : gok l0 = true) : Sets l0.length (bel l0) ∧ Sets l0.length (abv l0) := gst_ok (gok8 hg) (ndm_sets (gok_fine hg)) (ord l0) (fun i hi => (ord_mem hg).1 hi)
def relF (sel : List S69 → List Nat) (l0 : List S69) (a : Int) : List Int := if gok l0 = true ∧ 0 ≤ a ∧ a ≤ (l0.length : Int) - 1 then castL (elems ((sel l0).getD a.toNat 0)) else []
end Go.Proofs.YtcmhdcjdgchnfaaDoor.G
