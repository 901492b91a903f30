/-
 FnExactStageOf: the law walked.
-/
import Derived.Test.YtbodhggmhbiebaaDoorHMark
import Derived.Test.YtbodhggmhbiebaaDoorQTask
import Derived.Test.YtbodhggmhbiebaaDoorHStage
import Derived.Test.YtbodhggmhbiebaaDoorQStage
import Derived.Test.YtbodhggmhbiebaaDoorRDoor
import Derived.Test.YtbodhggmhbiebaaDoorG0
import Derived.Test.YtbodhggmhbiebaaDoorG4
import Derived.Test.YtbodhggmhbiebaaDoorG5
import Derived.Test.YtbodhggmhbiebaaDoorG6
namespace Go.Proofs.YtbodhggmhbiebaaDoor.G
open Go.RowKit Go.Proofs.YtbodhggmhbiebaaDoorW.PrintWords Go.Proofs.YtbodhggmhbiebaaDoorW.PrintLast Go.Proofs.YtbodhggmhbiebaaDoorW.PrintMore C
set_option linter.unusedVariables false
set_option linter.unusedSimpArgs false

set_option maxHeartbeats 16000000 in
set_option maxRecDepth 1000000 in
theorem fnExactStageOf_big {A0 : Option Addr} {c0 : Nat} {l0 : List S64} {w : World} {K : Nat} {s : Int} (hr0 : Kd.C k64 w A0 l0.length l0) (hc0 : l0.length ≤ c0) (hz : laws_szTaskS.f K l0 1048576 = some s) (hs : s < 0) :
  Calls Tryd.prog 7 #[.slice A0 l0.length c0] w fun e w' => e = .returned (.bool true) ∧ Below w.heap.size w w' := by
 have HZ := Aside0.mk hz
 have HR0 := Aside0.mk hr0
 have HC0 := Aside0.mk hc0
 clear hz hr0 hc0
 go_enter Tryd.func7, Tryd.ntmps7
 go_wp2_with (first | (go_at_call 22; refine (laws_szTaskS.calls K A0 c0 l0 1048576 s _ HR0.out HC0.out HZ.out).mono ?_; rintro e w1 ⟨rfl, hB⟩; have HB := Aside0.mk hB; clear hB))
 go_ret
 exact ⟨rfl, HB.out⟩
set_option maxHeartbeats 16000000 in
set_option maxRecDepth 1000000 in
theorem fnExactStageOf_all {A0 : Option Addr} {c0 : Nat} {l0 : List S64} {w : World} {K : Nat} {s mm : Int} {rv rvm : List Int} (hr0 : Kd.C k64 w A0 l0.length l0) (hc0 : l0.length ≤ c0)  (hT_ : Tab w) (hz : laws_szTaskS.f K l0 1048576 = some s) (hs : ¬ s < 0) (hto : laws_toTaskS.f K l0 = some (toT l0)) (hlt : (toT l0).length ≤ 1048576) (hdt : ∀ t, t ∈ toT l0 → t.f1.length ≤ 1048576) (hsp : spec_StageOf.f K (toT l0)  = some rv) (him : impl_StageOf.f (toT l0)  = some rv) (heq : laws_eqIntS.f K rv rv = some true) (heg : laws_eqTaskS.f K (toT l0) (toT l0) = some true) (hmr : laws_markIntS.f K rv 1 = some (mm, rvm) ∧ rvm.length = rv.length ∧ laws_heldIntS.f K rvm 1 = some mm) (hm0 : ¬ mm < 0)  :
  Calls Tryd.prog 7 #[.slice A0 l0.length c0] w fun e w' => e = .returned (.bool true) ∧ Below w.heap.size w w' := by
 have HZ := Aside0.mk hz
 have HTO := Aside0.mk hto
 have HLT := Aside0.mk hlt
 have HDT := Aside0.mk hdt
 have HSP := Aside0.mk hsp
 have HIM := Aside0.mk him
 have HEQ := Aside0.mk heq
 have HEG := Aside0.mk heg
 have HMR := Aside0.mk hmr
 have HT := Aside0.mk hT_
 have HR0 := Aside0.mk hr0
 have HC0 := Aside0.mk hc0
 clear hz hto hlt hdt hsp him heq heg hmr hT_ hr0 hc0
 have hmm : (mm != mm) = false := bne_self_eq_false mm
 go_enter Tryd.func7, Tryd.ntmps7
 go_wp2_with (first | (go_at_call 28; refine (held_calls HMR.out.2.1 CG0.out GM_15.out HMR.out.2.2).mono ?_; rintro e w16 ⟨rfl, hD⟩; have hB := hD.below; have W0_16 := Aside0.mk (Kd.R_below W0_15.out hB); have B4_16 := Aside0.mk (below_step B4_15.out hB); have GM_16 := Aside0.mk (Kd.C_below GM_15.out hB); clear W0_15 B4_15 GM_15 hD hB) | (go_at_call 24; refine (laws_eqIntS.calls K AH0 cH0 rv AW0 cW0 rv true _ H0_14.out CH0.out (Kd.R_reads' W0_14.out).2.2 CW0.out HEQ.out).mono ?_; rintro e w15 ⟨rfl, hD⟩; have hB := hD.below; have W0_15 := Aside0.mk (Kd.R_below W0_14.out hB); have B4_15 := Aside0.mk (below_step B4_14.out hB); have GM_15 := Aside0.mk (Kd.C_below GM_14.out hB); clear W0_14 B4_14 GM_14 H0_14 hD hB) | (go_at_call 10; refine (impl_StageOf.calls AHG cHG (toT l0) rv _ HG_13.out CHG.out  HIM.out (HT.out.below (HBS.out.trans (B4_13.out.mono HBS.out.size)) HT.out.pos)).mono ?_; rintro e w14 ⟨vH0, rfl, hR, hB⟩; obtain ⟨AH0, cH0, eH0⟩ := Kd.R_slice hR; subst eH0; have CH0 := Aside0.mk (Kd.R_reads' hR).2.1; have ZH0 := Aside0.mk hB.size; have W0_14 := Aside0.mk (Kd.R_below W0_13.out hB); have B4_14 := Aside0.mk (below_step B4_13.out hB); have GM_14 := Aside0.mk (Kd.C_below GM_13.out hB); have H0_14 := Aside0.mk ((Kd.R_reads' hR).2.2); clear W0_13 B4_13 GM_13 HG_13 hR hB) | (go_at_call 23; refine (laws_toTaskS.calls K A0 c0 l0 (toT l0) _ (Kd.C_below HR0.out (HBS.out.trans (B4_12.out.mono HBS.out.size))) HC0.out HTO.out).mono ?_; rintro e w13 ⟨vHG, rfl, hS, hB⟩; obtain ⟨AHG, cHG, eHG⟩ := Kd.S_slice hS; subst eHG; have CHG := Aside0.mk (Kd.S_reads' hS).2.1; have ZHG := Aside0.mk hB.size; have W0_13 := Aside0.mk (Kd.R_below W0_12.out hB); have B4_13 := Aside0.mk (below_step B4_12.out hB); have GM_13 := Aside0.mk (Kd.C_below GM_12.out hB); have HG_13 := Aside0.mk ((Kd.S_reads' hS).2.2); clear W0_12 B4_12 GM_12 hS hB) | (go_at_call 28; refine (held_calls HMR.out.2.1 CG0.out GM_11.out HMR.out.2.2).mono ?_; rintro e w12 ⟨rfl, hD⟩; have hB := hD.below; have W0_12 := Aside0.mk (Kd.R_below W0_11.out hB); have B4_12 := Aside0.mk (below_step B4_11.out hB); have GM_12 := Aside0.mk (Kd.C_below GM_11.out hB); clear W0_11 B4_11 GM_11 hD hB) | (go_at_call 27; refine (laws_markIntS.calls K _ (.slice AG0 rv.length cG0) rv 1 mm rvm w3 _ B4_10.out (Kd.R_lower G0_10.out (by have := Z_.out; omega)) HMR.out.1).mono ?_; rintro e w11 ⟨rfl, hR, hB, hK⟩; have W0_11 := Aside0.mk (Kd.R_kept W0_10.out hK (fun k hk hk2 => by (have := Z_.out; (try dsimp only at hk); (try dsimp only at hk2); omega))); have B4_11 := Aside0.mk (hB); have GM_11 := Aside0.mk ((Kd.R_reads' hR).2.2); clear W0_10 B4_10 G0_10 hR hB hK) | (go_at_call 24; refine (laws_eqIntS.calls K AG0 cG0 rv AW0 cW0 rv true _ (Kd.R_reads' G0_9.out).2.2 CG0.out (Kd.R_reads' W0_9.out).2.2 CW0.out HEQ.out).mono ?_; rintro e w10 ⟨rfl, hD⟩; have hB := hD.below; have W0_10 := Aside0.mk (Kd.R_below W0_9.out hB); have B4_10 := Aside0.mk (below_step B4_9.out hB); have G0_10 := Aside0.mk (Kd.R_below G0_9.out hB); clear W0_9 B4_9 G0_9 hD hB) | (go_at_call 26; refine (markTask_calls (w0 := w3) (ok := fun k => w3.heap.size ≤ k ∧ k < w4.heap.size) B4_8.out (Kd.S_lower XG_8.out (Nat.le_refl _)) HLT.out HDT.out).mono ?_; rintro e w9 ⟨k0, rfl, hk0, hB, hK⟩; have Z_ := Aside0.mk (And.intro ZXG.out ZG0.out); have hk0a := hk0.1; have hk0b := hk0.2; have W0_9 := Aside0.mk (Kd.R_kept W0_8.out hK (fun k hk hk2 => by (have := Z_.out; (try dsimp only at hk); (try dsimp only at hk2); omega))); have B4_9 := Aside0.mk (hB); have G0_9 := Aside0.mk (Kd.R_kept G0_8.out hK (fun k hk hk2 => by (have := Z_.out; (try dsimp only at hk); (try dsimp only at hk2); omega))); clear W0_8 B4_8 XG_8 G0_8 hB hK hk0; have hneg : ¬ k0 < 0 := (by have := hk0a; omega)) | (go_at_call 25; refine (laws_eqTaskS.calls K AXG cXG (toT l0) AYG cYG (toT l0) true _ (Kd.S_reads' XG_7.out).2.2 CXG.out YG_7.out CYG.out HEG.out).mono ?_; rintro e w8 ⟨rfl, hB⟩; have W0_8 := Aside0.mk (Kd.R_below W0_7.out hB); have B4_8 := Aside0.mk (below_step B4_7.out hB); have XG_8 := Aside0.mk (Kd.S_below XG_7.out hB); have G0_8 := Aside0.mk (Kd.R_below G0_7.out hB); clear W0_7 B4_7 XG_7 G0_7 YG_7 hB) | (go_at_call 23; refine (laws_toTaskS.calls K A0 c0 l0 (toT l0) _ (Kd.C_below HR0.out (HBS.out.trans (B4_6.out.mono HBS.out.size))) HC0.out HTO.out).mono ?_; rintro e w7 ⟨vYG, rfl, hS, hB⟩; obtain ⟨AYG, cYG, eYG⟩ := Kd.S_slice hS; subst eYG; have CYG := Aside0.mk (Kd.S_reads' hS).2.1; have ZYG := Aside0.mk hB.size; have W0_7 := Aside0.mk (Kd.R_below W0_6.out hB); have B4_7 := Aside0.mk (below_step B4_6.out hB); have XG_7 := Aside0.mk (Kd.S_below XG_6.out hB); have G0_7 := Aside0.mk (Kd.R_below G0_6.out hB); have YG_7 := Aside0.mk ((Kd.S_reads' hS).2.2); clear W0_6 B4_6 XG_6 G0_6 hS hB) | (go_at_call 24; refine (laws_eqIntS.calls K AG0 cG0 rv AW0 cW0 rv true _ (Kd.R_reads' G0_5.out).2.2 CG0.out (Kd.R_reads' W0_5.out).2.2 CW0.out HEQ.out).mono ?_; rintro e w6 ⟨rfl, hD⟩; have hB := hD.below; have W0_6 := Aside0.mk (Kd.R_below W0_5.out hB); have B4_6 := Aside0.mk (below_step B4_5.out hB); have XG_6 := Aside0.mk (Kd.S_below XG_5.out hB); have G0_6 := Aside0.mk (Kd.R_below G0_5.out hB); clear W0_5 B4_5 XG_5 G0_5 hD hB) | (go_at_call 10; refine (impl_StageOf.calls AXG cXG (toT l0) rv _ (Kd.S_reads' XG_4.out).2.2 CXG.out  HIM.out (HT.out.below (HBS.out.trans (B4_4.out.mono HBS.out.size)) HT.out.pos)).mono ?_; rintro e w5 ⟨vG0, rfl, hR, hB⟩; obtain ⟨AG0, cG0, eG0⟩ := Kd.R_slice hR; subst eG0; have CG0 := Aside0.mk (Kd.R_reads' hR).2.1; have ZG0 := Aside0.mk hB.size; have W0_5 := Aside0.mk (Kd.R_below W0_4.out hB); have B4_5 := Aside0.mk (below_step B4_4.out hB); have XG_5 := Aside0.mk (Kd.S_below XG_4.out hB); have G0_5 := Aside0.mk (Kd.R_mono (Kd.R_bound hR) (ok' := fun k => w4.heap.size ≤ k ∧ k < w5.heap.size) (fun k hk => ⟨hk.2.1, hk.2.2.1⟩)); clear W0_4 B4_4 XG_4 hR hB) | (go_at_call 23; refine (laws_toTaskS.calls K A0 c0 l0 (toT l0) _ (Kd.C_below HR0.out (HBS.out.trans (B4_3.out.mono HBS.out.size))) HC0.out HTO.out).mono ?_; rintro e w4 ⟨vXG, rfl, hS, hB⟩; obtain ⟨AXG, cXG, eXG⟩ := Kd.S_slice hS; subst eXG; have CXG := Aside0.mk (Kd.S_reads' hS).2.1; have ZXG := Aside0.mk hB.size; have W0_4 := Aside0.mk (Kd.R_below W0_3.out hB); have B4_4 := Aside0.mk (below_step B4_3.out hB); have XG_4 := Aside0.mk (Kd.S_mono (Kd.S_bound hS) (ok' := fun k => w3.heap.size ≤ k ∧ k < w4.heap.size) (fun k hk => ⟨hk.2.1, hk.2.2.1⟩)); clear W0_3 B4_3 hS hB) | (go_at_call 12; refine (spec_StageOf.calls K ASG cSG (toT l0) rv _ SG_2.out CSG.out  HSP.out).mono ?_; rintro e w3 ⟨vW0, rfl, hR, hB⟩; obtain ⟨AW0, cW0, eW0⟩ := Kd.R_slice hR; subst eW0; have CW0 := Aside0.mk (Kd.R_reads' hR).2.1; have ZW0 := Aside0.mk hB.size; have B_3 := Aside0.mk (below_step B_2.out hB); have W0_3 := Aside0.mk (Kd.R_mono (Kd.R_bound hR) (ok' := fun k => w2.heap.size ≤ k ∧ k < w3.heap.size) (fun k hk => ⟨hk.2.1, hk.2.2.1⟩)); clear B_2 SG_2 hR hB; have HBS := B_3; have B4_3 := Aside0.mk (Below.refl w3.heap.size w3); clear B_3) | (go_at_call 23; refine (laws_toTaskS.calls K A0 c0 l0 (toT l0) _ (Kd.C_below HR0.out B_1.out) HC0.out HTO.out).mono ?_; rintro e w2 ⟨vSG, rfl, hS, hB⟩; obtain ⟨ASG, cSG, eSG⟩ := Kd.S_slice hS; subst eSG; have CSG := Aside0.mk (Kd.S_reads' hS).2.1; have ZSG := Aside0.mk hB.size; have B_2 := Aside0.mk (below_step B_1.out hB); have SG_2 := Aside0.mk ((Kd.S_reads' hS).2.2); clear B_1 hS hB) | (go_at_call 22; refine (laws_szTaskS.calls K A0 c0 l0 1048576 s _ HR0.out HC0.out HZ.out).mono ?_; rintro e w1 ⟨rfl, hB⟩; have B_1 := Aside0.mk (hB) ; clear hB HZ))
 go_ret
 exact ⟨rfl, (HBS.out.trans (B4_16.out.mono HBS.out.size))⟩
def laws_FnExactStageOf.f (k : Nat) (l0 : List S64)  : Option Bool := some true
theorem laws_FnExactStageOf.calls (k : Nat) (A0 : Option Addr) (c0 : Nat) (l0 : List S64)  (r : Bool) (w : World) (hr0 : Kd.C k64 w A0 l0.length l0) (hc0 : l0.length ≤ c0)  (h : laws_FnExactStageOf.f k l0 = some r) (hT_ : Tab w) :
  Calls Tryd.prog 7 #[.slice A0 l0.length c0] w fun e w' => e = .returned (.bool r) ∧ Below w.heap.size w w' := by
 injection h with h
 subst h
 obtain ⟨K, hK⟩ : ∃ K : Nat, 3000000 ≤ K := ⟨_, Nat.le_refl _⟩
 have hC := hr0.2.1
 have hlen0 : l0.length ≤ 9223372036854775807 := by omega
 obtain ⟨s, hz, hc⟩ := szTaskS_eq l0 hlen0 (okT64 hr0) K (by omega)
 rcases hc with hneg | ⟨hs, hl, hd⟩
 ·exact fnExactStageOf_big hr0 hc0 hz hneg
 have hlt : (toT l0).length ≤ 1048576 := by rw [toT_length]; exact hl
 have hdt : ∀ t, t ∈ toT l0 → t.f1.length ≤ 1048576 := fun t ht => by
  obtain ⟨u, hu, rfl⟩ := List.mem_map.1 ht
  exact hd u hu
 have hsm : Small 1048576 (toT l0) := ⟨hlt, hdt⟩
 obtain ⟨rv, him, h8⟩ := (show ∃ r, impl_StageOf.f (toT l0) = some r ∧ r.length ≤ 8 from let ⟨r, h, h8, _⟩ := stage_val (toT l0); ⟨r, h, h8⟩)
 have hsp := (specStage_eq (B := 1048576) (by decide) hsm K (by omega)).trans him
 obtain ⟨rvm, hm1, hm2, hm3⟩ := markI_eq rv 1 K ⟨by decide, by decide⟩ (by omega) (by omega)
 have hm4 := heldI_eq rvm 1 K ⟨by decide, by decide⟩ (by omega) (by rw [hm2]; exact hm3) (by omega)
 rw [hm2] at hm4
 exact fnExactStageOf_all hr0 hc0 hT_ hz hs (toTaskS_eq l0 K hl hd (by omega)) hlt hdt hsp him (eqIntS_refl rv K (by omega) (by omega)) (eqTaskS_refl (toT l0) K hlt hdt (by omega)) ⟨hm1, hm2, hm4⟩ (by omega) 
end Go.Proofs.YtbodhggmhbiebaaDoor.G
