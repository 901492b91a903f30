/-
 FnExactStagesOf: the law walked.
-/
import Derived.Test.YtbodhggmhbiebaaDoorHMarkS
import Derived.Test.YtbodhggmhbiebaaDoorQTask
import Derived.Test.YtbodhggmhbiebaaDoorHStages
import Derived.Test.YtbodhggmhbiebaaDoorQStages
import Derived.Test.YtbodhggmhbiebaaDoorRDoor
import Derived.Test.YtbodhggmhbiebaaDoorG0
import Derived.Test.YtbodhggmhbiebaaDoorG5
import Derived.Test.YtbodhggmhbiebaaDoorG6
import Derived.Test.YtbodhggmhbiebaaDoorG7
import Derived.Test.YtbodhggmhbiebaaDoorG9
namespace Go.Proofs.YtbodhggmhbiebaaDoor.G
open Go.RowKit Go.Proofs.YtbodhggmhbiebaaDoorW.PrintWords Go.Proofs.YtbodhggmhbiebaaDoorW.PrintLast Go.Proofs.YtbodhggmhbiebaaDoorW.PrintMore C
set_option linter.unusedVariables false
set_option linter.unusedSimpArgs false

set_option maxHeartbeats 16000000 in
set_option maxRecDepth 1000000 in
theorem fnExactStagesOf_big {A0 : Option Addr} {c0 : Nat} {l0 : List S64} {w : World} {K : Nat} {s : Int} (hr0 : Kd.C k64 w A0 l0.length l0) (hc0 : l0.length ≤ c0) (hz : laws_szTaskS.f K l0 1048576 = some s) (hs : s < 0) :
  Calls Tryd.prog 8 #[.slice A0 l0.length c0] w fun e w' => e = .returned (.bool true) ∧ Below w.heap.size w w' := by
 have HZ := Aside0.mk hz
 have HR0 := Aside0.mk hr0
 have HC0 := Aside0.mk hc0
 clear hz hr0 hc0
 go_enter Tryd.func8, Tryd.ntmps8
 go_wp2_with (first | (go_at_call 22; refine (laws_szTaskS.calls K A0 c0 l0 1048576 s _ HR0.out HC0.out HZ.out).mono ?_; rintro e w1 ⟨rfl, hB⟩; have HB := Aside0.mk hB; clear hB))
 go_ret
 exact ⟨rfl, HB.out⟩
set_option maxHeartbeats 16000000 in
set_option maxRecDepth 1000000 in
theorem fnExactStagesOf_all {A0 : Option Addr} {c0 : Nat} {l0 : List S64} {w : World} {K : Nat} {s mm : Int} {rv rvm : List (List Int)} (hr0 : Kd.C k64 w A0 l0.length l0) (hc0 : l0.length ≤ c0)  (hT_ : Tab w) (hz : laws_szTaskS.f K l0 1048576 = some s) (hs : ¬ s < 0) (hto : laws_toTaskS.f K l0 = some (toT l0)) (hlt : (toT l0).length ≤ 1048576) (hdt : ∀ t, t ∈ toT l0 → t.f1.length ≤ 1048576) (hsp : spec_StagesOf.f K (toT l0)  = some rv) (him : impl_StagesOf.f (toT l0)  = some rv) (heq : laws_eqIntSS.f K rv rv = some true) (heg : laws_eqTaskS.f K (toT l0) (toT l0) = some true) (hmr : 1 + (totQ rv rv.length : Int) = mm ∧ rvm.length = rv.length ∧ laws_heldIntSS.f K rvm 1 = some mm) (hrm : mkR rv rv.length = rvm) (hrx : rv.length ≤ 1000 ∧ ∀ x, x ∈ rv → x.length ≤ 1000) (hm0 : ¬ mm < 0)  :
  Calls Tryd.prog 8 #[.slice A0 l0.length c0] w fun e w' => e = .returned (.bool true) ∧ Below w.heap.size w w' := by
 have HZ := Aside0.mk hz
 have HTO := Aside0.mk hto
 have HLT := Aside0.mk hlt
 have HDT := Aside0.mk hdt
 have HSP := Aside0.mk hsp
 have HIM := Aside0.mk him
 have HEQ := Aside0.mk heq
 have HEG := Aside0.mk heg
 have HMR := Aside0.mk hmr
 have HT := Aside0.mk hT_
 have HR0 := Aside0.mk hr0
 have HC0 := Aside0.mk hc0
 have HRM := Aside0.mk hrm
 have HRX := Aside0.mk hrx
 clear hz hto hlt hdt hsp him heq heg hmr hT_ hr0 hc0 hrm hrx
 have hmm : (mm != mm) = false := bne_self_eq_false mm
 go_enter Tryd.func8, Tryd.ntmps8
 go_wp2_with (first | (go_at_call 31; refine (heldSS_calls HMR.out.2.1 CG0.out GM_15.out HMR.out.2.2).mono ?_; rintro e w16 ⟨rfl, hD⟩; have hB := hD.below; have W0_16 := Aside0.mk (Kd.S_below W0_15.out hB); have B4_16 := Aside0.mk (below_step B4_15.out hB); have GM_16 := Aside0.mk (Kd.C_below GM_15.out hB); clear W0_15 B4_15 GM_15 hD hB) | (go_at_call 29; refine (laws_eqIntSS.calls K AH0 cH0 rv AW0 cW0 rv true _ H0_14.out CH0.out (Kd.S_reads' W0_14.out).2.2 CW0.out HEQ.out).mono ?_; rintro e w15 ⟨rfl, hD⟩; have hB := hD.below; have W0_15 := Aside0.mk (Kd.S_below W0_14.out hB); have B4_15 := Aside0.mk (below_step B4_14.out hB); have GM_15 := Aside0.mk (Kd.C_below GM_14.out hB); clear W0_14 B4_14 GM_14 H0_14 hD hB) | (go_at_call 15; refine (impl_StagesOf.calls AHG cHG (toT l0) rv _ HG_13.out CHG.out  HIM.out (HT.out.below (HBS.out.trans (B4_13.out.mono HBS.out.size)) HT.out.pos)).mono ?_; rintro e w14 ⟨vH0, rfl, hR, hB⟩; obtain ⟨AH0, cH0, eH0⟩ := Kd.S_slice hR; subst eH0; have CH0 := Aside0.mk (Kd.S_reads' hR).2.1; have ZH0 := Aside0.mk hB.size; have W0_14 := Aside0.mk (Kd.S_below W0_13.out hB); have B4_14 := Aside0.mk (below_step B4_13.out hB); have GM_14 := Aside0.mk (Kd.C_below GM_13.out hB); have H0_14 := Aside0.mk ((Kd.S_reads' hR).2.2); clear W0_13 B4_13 GM_13 HG_13 hR hB) | (go_at_call 23; refine (laws_toTaskS.calls K A0 c0 l0 (toT l0) _ (Kd.C_below HR0.out (HBS.out.trans (B4_12.out.mono HBS.out.size))) HC0.out HTO.out).mono ?_; rintro e w13 ⟨vHG, rfl, hS, hB⟩; obtain ⟨AHG, cHG, eHG⟩ := Kd.S_slice hS; subst eHG; have CHG := Aside0.mk (Kd.S_reads' hS).2.1; have ZHG := Aside0.mk hB.size; have W0_13 := Aside0.mk (Kd.S_below W0_12.out hB); have B4_13 := Aside0.mk (below_step B4_12.out hB); have GM_13 := Aside0.mk (Kd.C_below GM_12.out hB); have HG_13 := Aside0.mk ((Kd.S_reads' hS).2.2); clear W0_12 B4_12 GM_12 hS hB) | (go_at_call 31; refine (heldSS_calls HMR.out.2.1 CG0.out GM_11.out HMR.out.2.2).mono ?_; rintro e w12 ⟨rfl, hD⟩; have hB := hD.below; have W0_12 := Aside0.mk (Kd.S_below W0_11.out hB); have B4_12 := Aside0.mk (below_step B4_11.out hB); have GM_12 := Aside0.mk (Kd.C_below GM_11.out hB); clear W0_11 B4_11 GM_11 hD hB) | (go_at_call 30; refine (markSS_calls (w0 := w3) B4_10.out (Kd.S_lower G0_10.out (by have := Z_.out; omega)) HRX.out.1 HRX.out.2).mono ?_; rintro e w11 ⟨rfl, hR, hB, hK⟩; rw [HMR.out.1]; rw [HRM.out] at hR; have W0_11 := Aside0.mk (Kd.S_kept W0_10.out hK (fun k hk hk2 => by (have := Z_.out; (try dsimp only at hk); (try dsimp only at hk2); omega))); have B4_11 := Aside0.mk (hB); have GM_11 := Aside0.mk ((Kd.S_reads' hR).2.2); clear W0_10 B4_10 G0_10 hR hB hK) | (go_at_call 29; refine (laws_eqIntSS.calls K AG0 cG0 rv AW0 cW0 rv true _ (Kd.S_reads' G0_9.out).2.2 CG0.out (Kd.S_reads' W0_9.out).2.2 CW0.out HEQ.out).mono ?_; rintro e w10 ⟨rfl, hD⟩; have hB := hD.below; have W0_10 := Aside0.mk (Kd.S_below W0_9.out hB); have B4_10 := Aside0.mk (below_step B4_9.out hB); have G0_10 := Aside0.mk (Kd.S_below G0_9.out hB); clear W0_9 B4_9 G0_9 hD hB) | (go_at_call 26; refine (markTask_calls (w0 := w3) (ok := fun k => w3.heap.size ≤ k ∧ k < w4.heap.size) B4_8.out (Kd.S_lower XG_8.out (Nat.le_refl _)) HLT.out HDT.out).mono ?_; rintro e w9 ⟨k0, rfl, hk0, hB, hK⟩; have Z_ := Aside0.mk (And.intro ZXG.out ZG0.out); have hk0a := hk0.1; have hk0b := hk0.2; have W0_9 := Aside0.mk (Kd.S_kept W0_8.out hK (fun k hk hk2 => by (have := Z_.out; (try dsimp only at hk); (try dsimp only at hk2); omega))); have B4_9 := Aside0.mk (hB); have G0_9 := Aside0.mk (Kd.S_kept G0_8.out hK (fun k hk hk2 => by (have := Z_.out; (try dsimp only at hk); (try dsimp only at hk2); omega))); clear W0_8 B4_8 XG_8 G0_8 hB hK hk0; have hneg : ¬ k0 < 0 := (by have := hk0a; omega)) | (go_at_call 25; refine (laws_eqTaskS.calls K AXG cXG (toT l0) AYG cYG (toT l0) true _ (Kd.S_reads' XG_7.out).2.2 CXG.out YG_7.out CYG.out HEG.out).mono ?_; rintro e w8 ⟨rfl, hB⟩; have W0_8 := Aside0.mk (Kd.S_below W0_7.out hB); have B4_8 := Aside0.mk (below_step B4_7.out hB); have XG_8 := Aside0.mk (Kd.S_below XG_7.out hB); have G0_8 := Aside0.mk (Kd.S_below G0_7.out hB); clear W0_7 B4_7 XG_7 G0_7 YG_7 hB) | (go_at_call 23; refine (laws_toTaskS.calls K A0 c0 l0 (toT l0) _ (Kd.C_below HR0.out (HBS.out.trans (B4_6.out.mono HBS.out.size))) HC0.out HTO.out).mono ?_; rintro e w7 ⟨vYG, rfl, hS, hB⟩; obtain ⟨AYG, cYG, eYG⟩ := Kd.S_slice hS; subst eYG; have CYG := Aside0.mk (Kd.S_reads' hS).2.1; have ZYG := Aside0.mk hB.size; have W0_7 := Aside0.mk (Kd.S_below W0_6.out hB); have B4_7 := Aside0.mk (below_step B4_6.out hB); have XG_7 := Aside0.mk (Kd.S_below XG_6.out hB); have G0_7 := Aside0.mk (Kd.S_below G0_6.out hB); have YG_7 := Aside0.mk ((Kd.S_reads' hS).2.2); clear W0_6 B4_6 XG_6 G0_6 hS hB) | (go_at_call 29; refine (laws_eqIntSS.calls K AG0 cG0 rv AW0 cW0 rv true _ (Kd.S_reads' G0_5.out).2.2 CG0.out (Kd.S_reads' W0_5.out).2.2 CW0.out HEQ.out).mono ?_; rintro e w6 ⟨rfl, hD⟩; have hB := hD.below; have W0_6 := Aside0.mk (Kd.S_below W0_5.out hB); have B4_6 := Aside0.mk (below_step B4_5.out hB); have XG_6 := Aside0.mk (Kd.S_below XG_5.out hB); have G0_6 := Aside0.mk (Kd.S_below G0_5.out hB); clear W0_5 B4_5 XG_5 G0_5 hD hB) | (go_at_call 15; refine (impl_StagesOf.calls AXG cXG (toT l0) rv _ (Kd.S_reads' XG_4.out).2.2 CXG.out  HIM.out (HT.out.below (HBS.out.trans (B4_4.out.mono HBS.out.size)) HT.out.pos)).mono ?_; rintro e w5 ⟨vG0, rfl, hR, hB⟩; obtain ⟨AG0, cG0, eG0⟩ := Kd.S_slice hR; subst eG0; have CG0 := Aside0.mk (Kd.S_reads' hR).2.1; have ZG0 := Aside0.mk hB.size; have W0_5 := Aside0.mk (Kd.S_below W0_4.out hB); have B4_5 := Aside0.mk (below_step B4_4.out hB); have XG_5 := Aside0.mk (Kd.S_below XG_4.out hB); have G0_5 := Aside0.mk (Kd.S_mono (Kd.S_bound hR) (ok' := fun k => w4.heap.size ≤ k ∧ k < w5.heap.size) (fun k hk => ⟨hk.2.1, hk.2.2.1⟩)); clear W0_4 B4_4 XG_4 hR hB) | (go_at_call 23; refine (laws_toTaskS.calls K A0 c0 l0 (toT l0) _ (Kd.C_below HR0.out (HBS.out.trans (B4_3.out.mono HBS.out.size))) HC0.out HTO.out).mono ?_; rintro e w4 ⟨vXG, rfl, hS, hB⟩; obtain ⟨AXG, cXG, eXG⟩ := Kd.S_slice hS; subst eXG; have CXG := Aside0.mk (Kd.S_reads' hS).2.1; have ZXG := Aside0.mk hB.size; have W0_4 := Aside0.mk (Kd.S_below W0_3.out hB); have B4_4 := Aside0.mk (below_step B4_3.out hB); have XG_4 := Aside0.mk (Kd.S_mono (Kd.S_bound hS) (ok' := fun k => w3.heap.size ≤ k ∧ k < w4.heap.size) (fun k hk => ⟨hk.2.1, hk.2.2.1⟩)); clear W0_3 B4_3 hS hB) | (go_at_call 17; refine (spec_StagesOf.calls K ASG cSG (toT l0) rv _ SG_2.out CSG.out  HSP.out).mono ?_; rintro e w3 ⟨vW0, rfl, hR, hB⟩; obtain ⟨AW0, cW0, eW0⟩ := Kd.S_slice hR; subst eW0; have CW0 := Aside0.mk (Kd.S_reads' hR).2.1; have ZW0 := Aside0.mk hB.size; have B_3 := Aside0.mk (below_step B_2.out hB); have W0_3 := Aside0.mk (Kd.S_mono (Kd.S_bound hR) (ok' := fun k => w2.heap.size ≤ k ∧ k < w3.heap.size) (fun k hk => ⟨hk.2.1, hk.2.2.1⟩)); clear B_2 SG_2 hR hB; have HBS := B_3; have B4_3 := Aside0.mk (Below.refl w3.heap.size w3); clear B_3) | (go_at_call 23; refine (laws_toTaskS.calls K A0 c0 l0 (toT l0) _ (Kd.C_below HR0.out B_1.out) HC0.out HTO.out).mono ?_; rintro e w2 ⟨vSG, rfl, hS, hB⟩; obtain ⟨ASG, cSG, eSG⟩ := Kd.S_slice hS; subst eSG; have CSG := Aside0.mk (Kd.S_reads' hS).2.1; have ZSG := Aside0.mk hB.size; have B_2 := Aside0.mk (below_step B_1.out hB); have SG_2 := Aside0.mk ((Kd.S_reads' hS).2.2); clear B_1 hS hB) | (go_at_call 22; refine (laws_szTaskS.calls K A0 c0 l0 1048576 s _ HR0.out HC0.out HZ.out).mono ?_; rintro e w1 ⟨rfl, hB⟩; have B_1 := Aside0.mk (hB) ; clear hB HZ))
 go_ret
 exact ⟨rfl, (HBS.out.trans (B4_16.out.mono HBS.out.size))⟩
def laws_FnExactStagesOf.f (k : Nat) (l0 : List S64)  : Option Bool := some true
theorem laws_FnExactStagesOf.calls (k : Nat) (A0 : Option Addr) (c0 : Nat) (l0 : List S64)  (r : Bool) (w : World) (hr0 : Kd.C k64 w A0 l0.length l0) (hc0 : l0.length ≤ c0)  (h : laws_FnExactStagesOf.f k l0 = some r) (hT_ : Tab w) :
  Calls Tryd.prog 8 #[.slice A0 l0.length c0] w fun e w' => e = .returned (.bool r) ∧ Below w.heap.size w w' := by
 injection h with h
 subst h
 obtain ⟨K, hK⟩ : ∃ K : Nat, 3000000 ≤ K := ⟨_, Nat.le_refl _⟩
 have hC := hr0.2.1
 have hlen0 : l0.length ≤ 9223372036854775807 := by omega
 obtain ⟨s, hz, hc⟩ := szTaskS_eq l0 hlen0 (okT64 hr0) K (by omega)
 rcases hc with hneg | ⟨hs, hl, hd⟩
 ·exact fnExactStagesOf_big hr0 hc0 hz hneg
 have hlt : (toT l0).length ≤ 1048576 := by rw [toT_length]; exact hl
 have hdt : ∀ t, t ∈ toT l0 → t.f1.length ≤ 1048576 := fun t ht => by
  obtain ⟨u, hu, rfl⟩ := List.mem_map.1 ht
  exact hd u hu
 have hsm : Small 1048576 (toT l0) := ⟨hlt, hdt⟩
 obtain ⟨rv, him, h8, h9⟩ : ∃ r, impl_StagesOf.f (toT l0) = some r ∧ r.length ≤ 8 ∧ ∀ x, x ∈ r → x.length ≤ 8 := by
  unfold impl_StagesOf.f
  refine ⟨_, rfl, ?_⟩
  split
  ·rename_i hg
   have g8 := gok8 hg
   have hb := stgsTo_bd (st := stg (toT l0)) (n := (toT l0).length) (fun i hi => stg_lt hg hi) (toT l0).length (Nat.le_refl _)
   exact ⟨by omega, fun x hx => by have := hb.2 x hx; omega⟩
  ·exact ⟨by simp, fun x hx => by cases hx⟩
 have hsp := (specStages_eq (B := 1048576) (by decide) hsm K (by omega)).trans him
 exact fnExactStagesOf_all hr0 hc0 hT_ hz hs (toTaskS_eq l0 K hl hd (by omega)) hlt hdt hsp him (eqSS_refl rv K (by omega) (fun x hx => by have := h9 x hx; omega) (by omega)) (eqTaskS_refl (toT l0) K hlt hdt (by omega)) ⟨rfl, mkR_len rv rv.length, heldSS_eq (by omega) (fun x hx => by have := h9 x hx; omega) K (by omega)⟩ rfl ⟨by omega, fun x hx => by have := h9 x hx; omega⟩ (by omega) 
end Go.Proofs.YtbodhggmhbiebaaDoor.G
