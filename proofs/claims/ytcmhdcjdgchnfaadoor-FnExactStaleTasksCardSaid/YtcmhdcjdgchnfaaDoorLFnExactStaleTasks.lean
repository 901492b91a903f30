/-
 FnExactStaleTasks: the law walked.
-/
import Derived.Test.YtcmhdcjdgchnfaaDoorHMark
import Derived.Test.YtcmhdcjdgchnfaaDoorQTask
import Derived.Test.YtcmhdcjdgchnfaaDoorHStale
import Derived.Test.YtcmhdcjdgchnfaaDoorQStaleL
import Derived.Test.YtcmhdcjdgchnfaaDoorRDoor
import Derived.Test.YtcmhdcjdgchnfaaDoorG0
import Derived.Test.YtcmhdcjdgchnfaaDoorG10
import Derived.Test.YtcmhdcjdgchnfaaDoorG3
import Derived.Test.YtcmhdcjdgchnfaaDoorG4
namespace Go.Proofs.YtcmhdcjdgchnfaaDoor.G
open Go.RowKit Go.Proofs.YtcmhdcjdgchnfaaDoorW.PrintWords Go.Proofs.YtcmhdcjdgchnfaaDoorW.PrintLast Go.Proofs.YtcmhdcjdgchnfaaDoorW.PrintMore C
set_option linter.unusedVariables false
set_option linter.unusedSimpArgs false

set_option maxHeartbeats 16000000 in
set_option maxRecDepth 1000000 in
theorem fnExactStaleTasks_long1 {A0 : Option Addr} {c0 : Nat} {l0 : List S68} {A1 : Option Addr} {c1 : Nat} {l1 : List Int} {w : World} (hl : (l1.length : Int) > 1048576) :
  Calls Tryd.prog 8 #[.slice A0 l0.length c0, .slice A1 l1.length c1] w fun e w' => e = .returned (.bool true) ∧ Below w.heap.size w w' := by
 go_enter Tryd.func8, Tryd.ntmps8
 go_wp2
 go_ret
 exact ⟨rfl, Below.refl _ _⟩
set_option maxHeartbeats 16000000 in
set_option maxRecDepth 1000000 in
theorem fnExactStaleTasks_big {A0 : Option Addr} {c0 : Nat} {l0 : List S68} {A1 : Option Addr} {c1 : Nat} {l1 : List Int} {w : World} {K : Nat} {s : Int} (hr0 : Kd.C k68 w A0 l0.length l0) (hc0 : l0.length ≤ c0) (hs1 : ¬ (l1.length : Int) > 1048576) (hz : laws_szTaskS.f K l0 1048576 = some s) (hs : s < 0) :
  Calls Tryd.prog 8 #[.slice A0 l0.length c0, .slice A1 l1.length c1] w fun e w' => e = .returned (.bool true) ∧ Below w.heap.size w w' := by
 have HZ := Aside0.mk hz
 have HR0 := Aside0.mk hr0
 have HC0 := Aside0.mk hc0
 clear hz hr0 hc0
 go_enter Tryd.func8, Tryd.ntmps8
 go_wp2_with (first | (go_at_call 19; refine (laws_szTaskS.calls K A0 c0 l0 1048576 s _ HR0.out HC0.out HZ.out).mono ?_; rintro e w1 ⟨rfl, hB⟩; have HB := Aside0.mk hB; clear hB))
 go_ret
 exact ⟨rfl, HB.out⟩
set_option maxHeartbeats 16000000 in
set_option maxRecDepth 1000000 in
theorem fnExactStaleTasks_all {A0 : Option Addr} {c0 : Nat} {l0 : List S68} {A1 : Option Addr} {c1 : Nat} {l1 : List Int} {w : World} {K : Nat} {s mm : Int} {rv rvm : List Int} {mk1 : Int → List Int} (hr0 : Kd.C k68 w A0 l0.length l0) (hc0 : l0.length ≤ c0) (hr1 : Kd.C (Kd.int .i64) w A1 l1.length l1) (hc1 : l1.length ≤ c1) (hs1 : ¬ (l1.length : Int) > 1048576)  (hT_ : Tab w) (hz : laws_szTaskS.f K l0 1048576 = some s) (hs : ¬ s < 0) (hto : laws_toTaskS.f K l0 = some (toT l0)) (hlt : (toT l0).length ≤ 1048576) (hdt : ∀ t, t ∈ toT l0 → t.f1.length ≤ 1048576) (hsp : spec_StaleTasks.f K (toT l0) l1 = some rv) (him : impl_StaleTasks.f (toT l0) l1 = some rv) (heq : laws_eqIntS.f K rv rv = some true) (heg : laws_eqTaskS.f K (toT l0) (toT l0) = some true) (hmr : laws_markIntS.f K rv 1 = some (mm, rvm) ∧ rvm.length = rv.length ∧ laws_heldIntS.f K rvm 1 = some mm) (hm0 : ¬ mm < 0) (hl1 : l1.length ≤ 1048576) (hti1 : laws_toIntS.f K l1 = some l1) (hei1 : laws_eqIntS.f K l1 l1 = some true) (hmi1 : ∀ c : Int, 0 ≤ c ∧ c ≤ 3000000000000000 → laws_markIntS.f K l1 c = some (c + (l1.length : Int), mk1 c) ∧ True) :
  Calls Tryd.prog 8 #[.slice A0 l0.length c0, .slice A1 l1.length c1] w fun e w' => e = .returned (.bool true) ∧ Below w.heap.size w w' := by
 have HZ := Aside0.mk hz
 have HTO := Aside0.mk hto
 have HLT := Aside0.mk hlt
 have HDT := Aside0.mk hdt
 have HSP := Aside0.mk hsp
 have HIM := Aside0.mk him
 have HEQ := Aside0.mk heq
 have HEG := Aside0.mk heg
 have HMR := Aside0.mk hmr
 have HT := Aside0.mk hT_
 have HR0 := Aside0.mk hr0
 have HR1 := Aside0.mk hr1
 have HC0 := Aside0.mk hc0
 have HC1 := Aside0.mk hc1
 have HLI1 := Aside0.mk hl1
 have HTI1 := Aside0.mk hti1
 have HEI1 := Aside0.mk hei1
 have HMI1 := Aside0.mk hmi1
 clear hz hto hlt hdt hsp him heq heg hmr hT_ hr0 hr1 hc0 hc1 hl1 hti1 hei1 hmi1
 have hmm : (mm != mm) = false := bne_self_eq_false mm
 go_enter Tryd.func8, Tryd.ntmps8
 go_wp2_with (first | (go_at_call 26; refine (held_calls HMR.out.2.1 CG0.out GM_21.out HMR.out.2.2).mono ?_; rintro e w22 ⟨rfl, hD⟩; have hB := hD.below; have W0_22 := Aside0.mk (Kd.R_below W0_21.out hB); have B4_22 := Aside0.mk (below_step B4_21.out hB); have GM_22 := Aside0.mk (Kd.C_below GM_21.out hB); clear W0_21 B4_21 GM_21 hD hB) | (go_at_call 22; refine (laws_eqIntS.calls K AH0 cH0 rv AW0 cW0 rv true _ H0_20.out CH0.out (Kd.R_reads' W0_20.out).2.2 CW0.out HEQ.out).mono ?_; rintro e w21 ⟨rfl, hD⟩; have hB := hD.below; have W0_21 := Aside0.mk (Kd.R_below W0_20.out hB); have B4_21 := Aside0.mk (below_step B4_20.out hB); have GM_21 := Aside0.mk (Kd.C_below GM_20.out hB); clear W0_20 B4_20 GM_20 H0_20 hD hB) | (go_at_call 13; refine (impl_StaleTasks.calls AHG cHG (toT l0) AHI1 cHI1 l1 rv _ HG_19.out CHG.out HI1_19.out CHI1.out HIM.out (HT.out.below (HBS.out.trans (B4_19.out.mono HBS.out.size)) HT.out.pos)).mono ?_; rintro e w20 ⟨vH0, rfl, hR, hB⟩; obtain ⟨AH0, cH0, eH0⟩ := Kd.R_slice hR; subst eH0; have CH0 := Aside0.mk (Kd.R_reads' hR).2.1; have ZH0 := Aside0.mk hB.size; have W0_20 := Aside0.mk (Kd.R_below W0_19.out hB); have B4_20 := Aside0.mk (below_step B4_19.out hB); have GM_20 := Aside0.mk (Kd.C_below GM_19.out hB); have H0_20 := Aside0.mk ((Kd.R_reads' hR).2.2); clear W0_19 B4_19 GM_19 HG_19 HI1_19 hR hB) | (go_at_call 21; refine (laws_toIntS.calls K A1 c1 l1 l1 _ (Kd.C_below HR1.out (HBS.out.trans (B4_18.out.mono HBS.out.size))) HC1.out HTI1.out).mono ?_; rintro e w19 ⟨vHI1, rfl, hR, hB⟩; obtain ⟨AHI1, cHI1, eHI1⟩ := Kd.R_slice hR; subst eHI1; have CHI1 := Aside0.mk (Kd.R_reads' hR).2.1; have ZHI1 := Aside0.mk hB.size; have W0_19 := Aside0.mk (Kd.R_below W0_18.out hB); have B4_19 := Aside0.mk (below_step B4_18.out hB); have GM_19 := Aside0.mk (Kd.C_below GM_18.out hB); have HG_19 := Aside0.mk (Kd.C_below HG_18.out hB); have HI1_19 := Aside0.mk ((Kd.R_reads' hR).2.2); clear W0_18 B4_18 GM_18 HG_18 hR hB) | (go_at_call 20; refine (laws_toTaskS.calls K A0 c0 l0 (toT l0) _ (Kd.C_below HR0.out (HBS.out.trans (B4_17.out.mono HBS.out.size))) HC0.out HTO.out).mono ?_; rintro e w18 ⟨vHG, rfl, hS, hB⟩; obtain ⟨AHG, cHG, eHG⟩ := Kd.S_slice hS; subst eHG; have CHG := Aside0.mk (Kd.S_reads' hS).2.1; have ZHG := Aside0.mk hB.size; have W0_18 := Aside0.mk (Kd.R_below W0_17.out hB); have B4_18 := Aside0.mk (below_step B4_17.out hB); have GM_18 := Aside0.mk (Kd.C_below GM_17.out hB); have HG_18 := Aside0.mk ((Kd.S_reads' hS).2.2); clear W0_17 B4_17 GM_17 hS hB) | (go_at_call 26; refine (held_calls HMR.out.2.1 CG0.out GM_16.out HMR.out.2.2).mono ?_; rintro e w17 ⟨rfl, hD⟩; have hB := hD.below; have W0_17 := Aside0.mk (Kd.R_below W0_16.out hB); have B4_17 := Aside0.mk (below_step B4_16.out hB); have GM_17 := Aside0.mk (Kd.C_below GM_16.out hB); clear W0_16 B4_16 GM_16 hD hB) | (go_at_call 25; refine (laws_markIntS.calls K _ (.slice AG0 rv.length cG0) rv 1 mm rvm w4 _ B4_15.out (Kd.R_lower G0_15.out (by have := Z_.out; omega)) HMR.out.1).mono ?_; rintro e w16 ⟨rfl, hR, hB, hK⟩; have W0_16 := Aside0.mk (Kd.R_kept W0_15.out hK (fun k hk hk2 => by (have := Z_.out; (try dsimp only at hk); (try dsimp only at hk2); omega))); have B4_16 := Aside0.mk (hB); have GM_16 := Aside0.mk ((Kd.R_reads' hR).2.2); clear W0_15 B4_15 G0_15 hR hB hK) | (go_at_call 22; refine (laws_eqIntS.calls K AG0 cG0 rv AW0 cW0 rv true _ (Kd.R_reads' G0_14.out).2.2 CG0.out (Kd.R_reads' W0_14.out).2.2 CW0.out HEQ.out).mono ?_; rintro e w15 ⟨rfl, hD⟩; have hB := hD.below; have W0_15 := Aside0.mk (Kd.R_below W0_14.out hB); have B4_15 := Aside0.mk (below_step B4_14.out hB); have G0_15 := Aside0.mk (Kd.R_below G0_14.out hB); clear W0_14 B4_14 G0_14 hD hB) | (go_at_call 25; refine (laws_markIntS.calls K _ (.slice AXI1 l1.length cXI1) l1 k0 (k0 + (l1.length : Int)) (mk1 k0) w4 _ B4_13.out (Kd.R_lower XI1_13.out (by have := Z_.out; omega)) (HMI1.out k0 ⟨hk0a, by omega⟩).1).mono ?_; rintro e w14 ⟨rfl, hR, hB, hK⟩; obtain ⟨k1, ek1⟩ : ∃ k, k0 + (l1.length : Int) = k := ⟨_, rfl⟩; rw [ek1]; have hk1a : 0 ≤ k1 := (by have := hk0a; omega); have hk1b : k1 ≤ 2000000002000000 := (by have := hk0b; have := HLI1.out; omega); have W0_14 := Aside0.mk (Kd.R_kept W0_13.out hK (fun k hk hk2 => by (have := Z_.out; (try dsimp only at hk); (try dsimp only at hk2); omega))); have B4_14 := Aside0.mk (hB); have G0_14 := Aside0.mk (Kd.R_kept G0_13.out hK (fun k hk hk2 => by (have := Z_.out; (try dsimp only at hk); (try dsimp only at hk2); omega))); clear W0_13 B4_13 XI1_13 G0_13 hR hB hK ek1; have hneg : ¬ k1 < 0 := (by have := hk1a; omega)) | (go_at_call 24; refine (markTask_calls (w0 := w4) (ok := fun k => w4.heap.size ≤ k ∧ k < w5.heap.size) B4_12.out (Kd.S_lower XG_12.out (Nat.le_refl _)) HLT.out HDT.out).mono ?_; rintro e w13 ⟨k0, rfl, hk0, hB, hK⟩; have Z_ := Aside0.mk (And.intro ZXG.out (And.intro ZXI1.out ZG0.out)); have hk0a := hk0.1; have hk0b := hk0.2; have W0_13 := Aside0.mk (Kd.R_kept W0_12.out hK (fun k hk hk2 => by (have := Z_.out; (try dsimp only at hk); (try dsimp only at hk2); omega))); have B4_13 := Aside0.mk (hB); have XI1_13 := Aside0.mk (Kd.R_kept XI1_12.out hK (fun k hk hk2 => by (have := Z_.out; (try dsimp only at hk); (try dsimp only at hk2); omega))); have G0_13 := Aside0.mk (Kd.R_kept G0_12.out hK (fun k hk hk2 => by (have := Z_.out; (try dsimp only at hk); (try dsimp only at hk2); omega))); clear W0_12 B4_12 XG_12 XI1_12 G0_12 hB hK hk0) | (go_at_call 22; refine (laws_eqIntS.calls K AXI1 cXI1 l1 AYI1 cYI1 l1 true _ (Kd.R_reads' XI1_11.out).2.2 CXI1.out YI1_11.out CYI1.out HEI1.out).mono ?_; rintro e w12 ⟨rfl, hD⟩; have hB := hD.below; have W0_12 := Aside0.mk (Kd.R_below W0_11.out hB); have B4_12 := Aside0.mk (below_step B4_11.out hB); have XG_12 := Aside0.mk (Kd.S_below XG_11.out hB); have XI1_12 := Aside0.mk (Kd.R_below XI1_11.out hB); have G0_12 := Aside0.mk (Kd.R_below G0_11.out hB); clear W0_11 B4_11 XG_11 XI1_11 G0_11 YI1_11 hD hB) | (go_at_call 21; refine (laws_toIntS.calls K A1 c1 l1 l1 _ (Kd.C_below HR1.out (HBS.out.trans (B4_10.out.mono HBS.out.size))) HC1.out HTI1.out).mono ?_; rintro e w11 ⟨vYI1, rfl, hR, hB⟩; obtain ⟨AYI1, cYI1, eYI1⟩ := Kd.R_slice hR; subst eYI1; have CYI1 := Aside0.mk (Kd.R_reads' hR).2.1; have ZYI1 := Aside0.mk hB.size; have W0_11 := Aside0.mk (Kd.R_below W0_10.out hB); have B4_11 := Aside0.mk (below_step B4_10.out hB); have XG_11 := Aside0.mk (Kd.S_below XG_10.out hB); have XI1_11 := Aside0.mk (Kd.R_below XI1_10.out hB); have G0_11 := Aside0.mk (Kd.R_below G0_10.out hB); have YI1_11 := Aside0.mk ((Kd.R_reads' hR).2.2); clear W0_10 B4_10 XG_10 XI1_10 G0_10 hR hB) | (go_at_call 23; refine (laws_eqTaskS.calls K AXG cXG (toT l0) AYG cYG (toT l0) true _ (Kd.S_reads' XG_9.out).2.2 CXG.out YG_9.out CYG.out HEG.out).mono ?_; rintro e w10 ⟨rfl, hB⟩; have W0_10 := Aside0.mk (Kd.R_below W0_9.out hB); have B4_10 := Aside0.mk (below_step B4_9.out hB); have XG_10 := Aside0.mk (Kd.S_below XG_9.out hB); have XI1_10 := Aside0.mk (Kd.R_below XI1_9.out hB); have G0_10 := Aside0.mk (Kd.R_below G0_9.out hB); clear W0_9 B4_9 XG_9 XI1_9 G0_9 YG_9 hB) | (go_at_call 20; refine (laws_toTaskS.calls K A0 c0 l0 (toT l0) _ (Kd.C_below HR0.out (HBS.out.trans (B4_8.out.mono HBS.out.size))) HC0.out HTO.out).mono ?_; rintro e w9 ⟨vYG, rfl, hS, hB⟩; obtain ⟨AYG, cYG, eYG⟩ := Kd.S_slice hS; subst eYG; have CYG := Aside0.mk (Kd.S_reads' hS).2.1; have ZYG := Aside0.mk hB.size; have W0_9 := Aside0.mk (Kd.R_below W0_8.out hB); have B4_9 := Aside0.mk (below_step B4_8.out hB); have XG_9 := Aside0.mk (Kd.S_below XG_8.out hB); have XI1_9 := Aside0.mk (Kd.R_below XI1_8.out hB); have G0_9 := Aside0.mk (Kd.R_below G0_8.out hB); have YG_9 := Aside0.mk ((Kd.S_reads' hS).2.2); clear W0_8 B4_8 XG_8 XI1_8 G0_8 hS hB) | (go_at_call 22; refine (laws_eqIntS.calls K AG0 cG0 rv AW0 cW0 rv true _ (Kd.R_reads' G0_7.out).2.2 CG0.out (Kd.R_reads' W0_7.out).2.2 CW0.out HEQ.out).mono ?_; rintro e w8 ⟨rfl, hD⟩; have hB := hD.below; have W0_8 := Aside0.mk (Kd.R_below W0_7.out hB); have B4_8 := Aside0.mk (below_step B4_7.out hB); have XG_8 := Aside0.mk (Kd.S_below XG_7.out hB); have XI1_8 := Aside0.mk (Kd.R_below XI1_7.out hB); have G0_8 := Aside0.mk (Kd.R_below G0_7.out hB); clear W0_7 B4_7 XG_7 XI1_7 G0_7 hD hB) | (go_at_call 13; refine (impl_StaleTasks.calls AXG cXG (toT l0) AXI1 cXI1 l1 rv _ (Kd.S_reads' XG_6.out).2.2 CXG.out (Kd.R_reads' XI1_6.out).2.2 CXI1.out HIM.out (HT.out.below (HBS.out.trans (B4_6.out.mono HBS.out.size)) HT.out.pos)).mono ?_; rintro e w7 ⟨vG0, rfl, hR, hB⟩; obtain ⟨AG0, cG0, eG0⟩ := Kd.R_slice hR; subst eG0; have CG0 := Aside0.mk (Kd.R_reads' hR).2.1; have ZG0 := Aside0.mk hB.size; have W0_7 := Aside0.mk (Kd.R_below W0_6.out hB); have B4_7 := Aside0.mk (below_step B4_6.out hB); have XG_7 := Aside0.mk (Kd.S_below XG_6.out hB); have XI1_7 := Aside0.mk (Kd.R_below XI1_6.out hB); have G0_7 := Aside0.mk (Kd.R_mono (Kd.R_bound hR) (ok' := fun k => w6.heap.size ≤ k ∧ k < w7.heap.size) (fun k hk => ⟨hk.2.1, hk.2.2.1⟩)); clear W0_6 B4_6 XG_6 XI1_6 hR hB) | (go_at_call 21; refine (laws_toIntS.calls K A1 c1 l1 l1 _ (Kd.C_below HR1.out (HBS.out.trans (B4_5.out.mono HBS.out.size))) HC1.out HTI1.out).mono ?_; rintro e w6 ⟨vXI1, rfl, hR, hB⟩; obtain ⟨AXI1, cXI1, eXI1⟩ := Kd.R_slice hR; subst eXI1; have CXI1 := Aside0.mk (Kd.R_reads' hR).2.1; have ZXI1 := Aside0.mk hB.size; have W0_6 := Aside0.mk (Kd.R_below W0_5.out hB); have B4_6 := Aside0.mk (below_step B4_5.out hB); have XG_6 := Aside0.mk (Kd.S_below XG_5.out hB); have XI1_6 := Aside0.mk (Kd.R_mono (Kd.R_bound hR) (ok' := fun k => w5.heap.size ≤ k ∧ k < w6.heap.size) (fun k hk => ⟨hk.2.1, hk.2.2.1⟩)); clear W0_5 B4_5 XG_5 hR hB) | (go_at_call 20; refine (laws_toTaskS.calls K A0 c0 l0 (toT l0) _ (Kd.C_below HR0.out (HBS.out.trans (B4_4.out.mono HBS.out.size))) HC0.out HTO.out).mono ?_; rintro e w5 ⟨vXG, rfl, hS, hB⟩; obtain ⟨AXG, cXG, eXG⟩ := Kd.S_slice hS; subst eXG; have CXG := Aside0.mk (Kd.S_reads' hS).2.1; have ZXG := Aside0.mk hB.size; have W0_5 := Aside0.mk (Kd.R_below W0_4.out hB); have B4_5 := Aside0.mk (below_step B4_4.out hB); have XG_5 := Aside0.mk (Kd.S_mono (Kd.S_bound hS) (ok' := fun k => w4.heap.size ≤ k ∧ k < w5.heap.size) (fun k hk => ⟨hk.2.1, hk.2.2.1⟩)); clear W0_4 B4_4 hS hB) | (go_at_call 27; refine (spec_StaleTasks.calls K ASG cSG (toT l0) ASI1 cSI1 l1 rv _ SG_3.out CSG.out SI1_3.out CSI1.out HSP.out).mono ?_; rintro e w4 ⟨vW0, rfl, hR, hB⟩; obtain ⟨AW0, cW0, eW0⟩ := Kd.R_slice hR; subst eW0; have CW0 := Aside0.mk (Kd.R_reads' hR).2.1; have ZW0 := Aside0.mk hB.size; have B_4 := Aside0.mk (below_step B_3.out hB); have W0_4 := Aside0.mk (Kd.R_mono (Kd.R_bound hR) (ok' := fun k => w3.heap.size ≤ k ∧ k < w4.heap.size) (fun k hk => ⟨hk.2.1, hk.2.2.1⟩)); clear B_3 SG_3 SI1_3 hR hB; have HBS := B_4; have B4_4 := Aside0.mk (Below.refl w4.heap.size w4); clear B_4) | (go_at_call 21; refine (laws_toIntS.calls K A1 c1 l1 l1 _ (Kd.C_below HR1.out B_2.out) HC1.out HTI1.out).mono ?_; rintro e w3 ⟨vSI1, rfl, hR, hB⟩; obtain ⟨ASI1, cSI1, eSI1⟩ := Kd.R_slice hR; subst eSI1; have CSI1 := Aside0.mk (Kd.R_reads' hR).2.1; have ZSI1 := Aside0.mk hB.size; have B_3 := Aside0.mk (below_step B_2.out hB); have SG_3 := Aside0.mk (Kd.C_below SG_2.out hB); have SI1_3 := Aside0.mk ((Kd.R_reads' hR).2.2); clear B_2 SG_2 hR hB) | (go_at_call 20; refine (laws_toTaskS.calls K A0 c0 l0 (toT l0) _ (Kd.C_below HR0.out B_1.out) HC0.out HTO.out).mono ?_; rintro e w2 ⟨vSG, rfl, hS, hB⟩; obtain ⟨ASG, cSG, eSG⟩ := Kd.S_slice hS; subst eSG; have CSG := Aside0.mk (Kd.S_reads' hS).2.1; have ZSG := Aside0.mk hB.size; have B_2 := Aside0.mk (below_step B_1.out hB); have SG_2 := Aside0.mk ((Kd.S_reads' hS).2.2); clear B_1 hS hB) | (go_at_call 19; refine (laws_szTaskS.calls K A0 c0 l0 1048576 s _ HR0.out HC0.out HZ.out).mono ?_; rintro e w1 ⟨rfl, hB⟩; have B_1 := Aside0.mk (hB) ; clear hB HZ))
 go_ret
 exact ⟨rfl, (HBS.out.trans (B4_22.out.mono HBS.out.size))⟩
def laws_FnExactStaleTasks.f (k : Nat) (l0 : List S68) (l1 : List Int) : Option Bool := some true
theorem laws_FnExactStaleTasks.calls (k : Nat) (A0 : Option Addr) (c0 : Nat) (l0 : List S68) (A1 : Option Addr) (c1 : Nat) (l1 : List Int) (r : Bool) (w : World) (hr0 : Kd.C k68 w A0 l0.length l0) (hc0 : l0.length ≤ c0) (hr1 : Kd.C (Kd.int .i64) w A1 l1.length l1) (hc1 : l1.length ≤ c1) (h : laws_FnExactStaleTasks.f k l0 l1 = some r) (hT_ : Tab w) :
  Calls Tryd.prog 8 #[.slice A0 l0.length c0, .slice A1 l1.length c1] w fun e w' => e = .returned (.bool r) ∧ Below w.heap.size w w' := by
 injection h with h
 subst h
 by_cases hs1 : (l1.length : Int) > 1048576
 ·exact fnExactStaleTasks_long1 hs1
 obtain ⟨K, hK⟩ : ∃ K : Nat, 3000000 ≤ K := ⟨_, Nat.le_refl _⟩
 have hC := hr0.2.1
 have hlen0 : l0.length ≤ 9223372036854775807 := by omega
 obtain ⟨s, hz, hc⟩ := szTaskS_eq l0 hlen0 (okT68 hr0) K (by omega)
 rcases hc with hneg | ⟨hs, hl, hd⟩
 ·exact fnExactStaleTasks_big hr0 hc0 hs1 hz hneg
 have hlt : (toT l0).length ≤ 1048576 := by rw [toT_length]; exact hl
 have hdt : ∀ t, t ∈ toT l0 → t.f1.length ≤ 1048576 := fun t ht => by
  obtain ⟨u, hu, rfl⟩ := List.mem_map.1 ht
  exact hd u hu
 have hsm : Small 1048576 (toT l0) := ⟨hlt, hdt⟩
 obtain ⟨rv, him, h8⟩ := (show ∃ r, impl_StaleTasks.f (toT l0) l1 = some r ∧ r.length ≤ 16 from by
  unfold impl_StaleTasks.f
  refine ⟨_, rfl, ?_⟩
  split
  ·rw [castL_length]
   exact elems_len _
  ·simp)
 have hsp := (specStaleTasks_eq (B := 1048576) (by decide) hsm (by omega) K (by omega)).trans him
 obtain ⟨rvm, hm1, hm2, hm3⟩ := markI_eq rv 1 K ⟨by decide, by decide⟩ (by omega) (by omega)
 have hm4 := heldI_eq rvm 1 K ⟨by decide, by decide⟩ (by omega) (by rw [hm2]; exact hm3) (by omega)
 rw [hm2] at hm4
 have hmk1 : ∃ f : Int → List Int, ∀ c : Int, 0 ≤ c ∧ c ≤ 3000000000000000 → laws_markIntS.f K l1 c = some (c + (l1.length : Int), f c) ∧ True := by
  refine ⟨fun c => ((laws_markIntS.f K l1 c).getD (0, [])).2, fun c hc => ?_⟩
  obtain ⟨l', h1, _, _⟩ := markI_eq l1 c K ⟨hc.1, by omega⟩ (by omega) (by omega)
  show laws_markIntS.f K l1 c = some (c + (l1.length : Int), ((laws_markIntS.f K l1 c).getD (0, [])).2) ∧ True
  rw [h1]
  exact ⟨rfl, trivial⟩
 obtain ⟨f1, hf1⟩ := hmk1
 exact fnExactStaleTasks_all hr0 hc0 hr1 hc1 hs1 hT_ hz hs (toTaskS_eq l0 K hl hd (by omega)) hlt hdt hsp him (eqIntS_refl rv K (by omega) (by omega)) (eqTaskS_refl (toT l0) K hlt hdt (by omega)) ⟨hm1, hm2, hm4⟩ (by omega) (by omega) (toIntS_eq l1 K (by omega) (by omega)) (eqIntS_refl l1 K (by omega) (by omega)) hf1
end Go.Proofs.YtcmhdcjdgchnfaaDoor.G
