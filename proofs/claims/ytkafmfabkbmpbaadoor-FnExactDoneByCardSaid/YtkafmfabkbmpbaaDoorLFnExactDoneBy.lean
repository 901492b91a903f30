/-
 FnExactDoneBy: the law walked.
-/
import Derived.Test.YtkafmfabkbmpbaaDoorHMark
import Derived.Test.YtkafmfabkbmpbaaDoorQTask
import Derived.Test.YtkafmfabkbmpbaaDoorHDoneBy
import Derived.Test.YtkafmfabkbmpbaaDoorQDoneBy
import Derived.Test.YtkafmfabkbmpbaaDoorRDoor
import Derived.Test.YtkafmfabkbmpbaaDoorG0
import Derived.Test.YtkafmfabkbmpbaaDoorG1
import Derived.Test.YtkafmfabkbmpbaaDoorG4
import Derived.Test.YtkafmfabkbmpbaaDoorG5
import Derived.Test.YtkafmfabkbmpbaaDoorG7
namespace Go.Proofs.YtkafmfabkbmpbaaDoor.G
open Go.RowKit Go.Proofs.YtkafmfabkbmpbaaDoorW.PrintWords Go.Proofs.YtkafmfabkbmpbaaDoorW.PrintLast Go.Proofs.YtkafmfabkbmpbaaDoorW.PrintMore C
set_option linter.unusedVariables false
set_option linter.unusedSimpArgs false

set_option maxHeartbeats 16000000 in
set_option maxRecDepth 1000000 in
theorem fnExactDoneBy_big {A0 : Option Addr} {c0 : Nat} {l0 : List S44} {A1 : Option Addr} {c1 : Nat} {l1 : List S50} {a2 : Int} {w : World} {K : Nat} {s : Int} (hr0 : Kd.C k44 w A0 l0.length l0) (hc0 : l0.length ≤ c0) (hz : laws_szTaskS.f K l0 1048576 = some s) (hs : s < 0) :
  Calls Tryd.prog 3 #[.slice A0 l0.length c0, .slice A1 l1.length c1, .int .i64 a2] w fun e w' => e = .returned (.bool true) ∧ Below w.heap.size w w' := by
 have HZ := Aside0.mk hz
 have HR0 := Aside0.mk hr0
 have HC0 := Aside0.mk hc0
 clear hz hr0 hc0
 go_enter Tryd.func3, Tryd.ntmps3
 go_wp2_with (first | (go_at_call 7; refine (laws_szTaskS.calls K A0 c0 l0 1048576 s _ HR0.out HC0.out HZ.out).mono ?_; rintro e w1 ⟨rfl, hB⟩; have HB := Aside0.mk hB; clear hB))
 go_ret
 exact ⟨rfl, HB.out⟩
set_option maxHeartbeats 16000000 in
set_option maxRecDepth 1000000 in
theorem fnExactDoneBy_big2 {A0 : Option Addr} {c0 : Nat} {l0 : List S44} {A1 : Option Addr} {c1 : Nat} {l1 : List S50} {a2 : Int} {w : World} {K : Nat} {s s2 : Int} (hr0 : Kd.C k44 w A0 l0.length l0) (hc0 : l0.length ≤ c0) (hr1 : Kd.C k50 w A1 l1.length l1) (hc1 : l1.length ≤ c1) (hz : laws_szTaskS.f K l0 1048576 = some s) (hs : ¬ s < 0) (hse : laws_szEventS.f l1 s = some s2) (hs2 : s2 < 0) :
  Calls Tryd.prog 3 #[.slice A0 l0.length c0, .slice A1 l1.length c1, .int .i64 a2] w fun e w' => e = .returned (.bool true) ∧ Below w.heap.size w w' := by
 have HZ := Aside0.mk hz
 have HR0 := Aside0.mk hr0
 have HC0 := Aside0.mk hc0
 have HR1 := Aside0.mk hr1
 have HC1 := Aside0.mk hc1
 have HSE := Aside0.mk hse
 clear hz hr0 hc0 hr1 hc1 hse
 go_enter Tryd.func3, Tryd.ntmps3
 go_wp2_with (first | (go_at_call 8; refine (laws_szEventS.calls A1 c1 l1 s s2 _ (Kd.C_below HR1.out HB.out) HC1.out HSE.out).mono ?_; rintro e w2 ⟨rfl, hD⟩; have HB2 := Aside0.mk (below_step HB.out hD.below); clear hD) | (go_at_call 7; refine (laws_szTaskS.calls K A0 c0 l0 1048576 s _ HR0.out HC0.out HZ.out).mono ?_; rintro e w1 ⟨rfl, hB⟩; have HB := Aside0.mk hB; clear hB))
 go_ret
 exact ⟨rfl, HB2.out⟩
set_option maxHeartbeats 16000000 in
set_option maxRecDepth 1000000 in
theorem fnExactDoneBy_all {A0 : Option Addr} {c0 : Nat} {l0 : List S44} {A1 : Option Addr} {c1 : Nat} {l1 : List S50} {a2 : Int} {w : World} {K : Nat} {s mm : Int} {rv rvm : List Int} {mk1 : Int → List S46} {s2 : Int} (hr0 : Kd.C k44 w A0 l0.length l0) (hc0 : l0.length ≤ c0) (hr1 : Kd.C k50 w A1 l1.length l1) (hc1 : l1.length ≤ c1) (hse : laws_szEventS.f l1 s = some s2) (hs2 : ¬ s2 < 0)  (hT_ : Tab w) (hz : laws_szTaskS.f K l0 1048576 = some s) (hs : ¬ s < 0) (hto : laws_toTaskS.f K l0 = some (toT l0)) (hlt : (toT l0).length ≤ 1048576) (hdt : ∀ t, t ∈ toT l0 → t.f1.length ≤ 1048576) (hsp : spec_DoneBy.f K (toT l0) (toEv l1) a2 = some rv) (him : impl_DoneBy.f (toT l0) (toEv l1) a2 = some rv) (heq : laws_eqIntS.f K rv rv = some true) (heg : laws_eqTaskS.f K (toT l0) (toT l0) = some true) (hmr : laws_markIntS.f K rv 1 = some (mm, rvm) ∧ rvm.length = rv.length ∧ laws_heldIntS.f K rvm 1 = some mm) (hm0 : ¬ mm < 0) (hl1 : (toEv l1).length ≤ 1048576) (hti1 : laws_toEventS.f K l1 = some (toEv l1)) (hei1 : laws_eqEventS.f K (toEv l1) (toEv l1) = some true) (hmi1 : ∀ c : Int, 0 ≤ c ∧ c ≤ 3000000000000000 → laws_markEventS.f K (toEv l1) c = some (c + 3 * ((toEv l1).length : Int), mk1 c) ∧ True) :
  Calls Tryd.prog 3 #[.slice A0 l0.length c0, .slice A1 l1.length c1, .int .i64 a2] w fun e w' => e = .returned (.bool true) ∧ Below w.heap.size w w' := by
 have HZ := Aside0.mk hz
 have HTO := Aside0.mk hto
 have HLT := Aside0.mk hlt
 have HDT := Aside0.mk hdt
 have HSP := Aside0.mk hsp
 have HIM := Aside0.mk him
 have HEQ := Aside0.mk heq
 have HEG := Aside0.mk heg
 have HMR := Aside0.mk hmr
 have HT := Aside0.mk hT_
 have HR0 := Aside0.mk hr0
 have HR1 := Aside0.mk hr1
 have HC0 := Aside0.mk hc0
 have HC1 := Aside0.mk hc1
 have HLI1 := Aside0.mk hl1
 have HTI1 := Aside0.mk hti1
 have HEI1 := Aside0.mk hei1
 have HMI1 := Aside0.mk hmi1
 have HSE := Aside0.mk hse
 clear hz hto hlt hdt hsp him heq heg hmr hT_ hr0 hr1 hc0 hc1 hl1 hti1 hei1 hmi1 hse
 have hmm : (mm != mm) = false := bne_self_eq_false mm
 go_enter Tryd.func3, Tryd.ntmps3
 go_wp2_with (first | (go_at_call 19; refine (held_calls HMR.out.2.1 CG0.out GM_22.out HMR.out.2.2).mono ?_; rintro e w23 ⟨rfl, hD⟩; have hB := hD.below; have W0_23 := Aside0.mk (Kd.R_below W0_22.out hB); have B4_23 := Aside0.mk (below_step B4_22.out hB); have GM_23 := Aside0.mk (Kd.C_below GM_22.out hB); clear W0_22 B4_22 GM_22 hD hB) | (go_at_call 13; refine (laws_eqIntS.calls K AH0 cH0 rv AW0 cW0 rv true _ H0_21.out CH0.out (Kd.R_reads' W0_21.out).2.2 CW0.out HEQ.out).mono ?_; rintro e w22 ⟨rfl, hD⟩; have hB := hD.below; have W0_22 := Aside0.mk (Kd.R_below W0_21.out hB); have B4_22 := Aside0.mk (below_step B4_21.out hB); have GM_22 := Aside0.mk (Kd.C_below GM_21.out hB); clear W0_21 B4_21 GM_21 H0_21 hD hB) | (go_at_call 12; refine (impl_DoneBy.calls AHG cHG (toT l0) AHI1 cHI1 (toEv l1) a2 rv _ HG_20.out CHG.out HI1_20.out CHI1.out HIM.out (HT.out.below (HBS.out.trans (B4_20.out.mono HBS.out.size)) HT.out.pos)).mono ?_; rintro e w21 ⟨vH0, rfl, hR, hB⟩; obtain ⟨AH0, cH0, eH0⟩ := Kd.R_slice hR; subst eH0; have CH0 := Aside0.mk (Kd.R_reads' hR).2.1; have ZH0 := Aside0.mk hB.size; have W0_21 := Aside0.mk (Kd.R_below W0_20.out hB); have B4_21 := Aside0.mk (below_step B4_20.out hB); have GM_21 := Aside0.mk (Kd.C_below GM_20.out hB); have H0_21 := Aside0.mk ((Kd.R_reads' hR).2.2); clear W0_20 B4_20 GM_20 HG_20 HI1_20 hR hB) | (go_at_call 11; refine (laws_toEventS.calls K A1 c1 l1 (toEv l1) _ (Kd.C_below HR1.out (HBS.out.trans (B4_19.out.mono HBS.out.size))) HC1.out HTI1.out).mono ?_; rintro e w20 ⟨vHI1, rfl, hR, hB⟩; obtain ⟨AHI1, cHI1, eHI1⟩ := Kd.R_slice hR; subst eHI1; have CHI1 := Aside0.mk (Kd.R_reads' hR).2.1; have ZHI1 := Aside0.mk hB.size; have W0_20 := Aside0.mk (Kd.R_below W0_19.out hB); have B4_20 := Aside0.mk (below_step B4_19.out hB); have GM_20 := Aside0.mk (Kd.C_below GM_19.out hB); have HG_20 := Aside0.mk (Kd.C_below HG_19.out hB); have HI1_20 := Aside0.mk ((Kd.R_reads' hR).2.2); clear W0_19 B4_19 GM_19 HG_19 hR hB) | (go_at_call 10; refine (laws_toTaskS.calls K A0 c0 l0 (toT l0) _ (Kd.C_below HR0.out (HBS.out.trans (B4_18.out.mono HBS.out.size))) HC0.out HTO.out).mono ?_; rintro e w19 ⟨vHG, rfl, hS, hB⟩; obtain ⟨AHG, cHG, eHG⟩ := Kd.S_slice hS; subst eHG; have CHG := Aside0.mk (Kd.S_reads' hS).2.1; have ZHG := Aside0.mk hB.size; have W0_19 := Aside0.mk (Kd.R_below W0_18.out hB); have B4_19 := Aside0.mk (below_step B4_18.out hB); have GM_19 := Aside0.mk (Kd.C_below GM_18.out hB); have HG_19 := Aside0.mk ((Kd.S_reads' hS).2.2); clear W0_18 B4_18 GM_18 hS hB) | (go_at_call 19; refine (held_calls HMR.out.2.1 CG0.out GM_17.out HMR.out.2.2).mono ?_; rintro e w18 ⟨rfl, hD⟩; have hB := hD.below; have W0_18 := Aside0.mk (Kd.R_below W0_17.out hB); have B4_18 := Aside0.mk (below_step B4_17.out hB); have GM_18 := Aside0.mk (Kd.C_below GM_17.out hB); clear W0_17 B4_17 GM_17 hD hB) | (go_at_call 18; refine (laws_markIntS.calls K _ (.slice AG0 rv.length cG0) rv 1 mm rvm w5 _ B4_16.out (Kd.R_lower G0_16.out (by have := Z_.out; omega)) HMR.out.1).mono ?_; rintro e w17 ⟨rfl, hR, hB, hK⟩; have W0_17 := Aside0.mk (Kd.R_kept W0_16.out hK (fun k hk hk2 => by (have := Z_.out; (try dsimp only at hk); (try dsimp only at hk2); omega))); have B4_17 := Aside0.mk (hB); have GM_17 := Aside0.mk ((Kd.R_reads' hR).2.2); clear W0_16 B4_16 G0_16 hR hB hK) | (go_at_call 13; refine (laws_eqIntS.calls K AG0 cG0 rv AW0 cW0 rv true _ (Kd.R_reads' G0_15.out).2.2 CG0.out (Kd.R_reads' W0_15.out).2.2 CW0.out HEQ.out).mono ?_; rintro e w16 ⟨rfl, hD⟩; have hB := hD.below; have W0_16 := Aside0.mk (Kd.R_below W0_15.out hB); have B4_16 := Aside0.mk (below_step B4_15.out hB); have G0_16 := Aside0.mk (Kd.R_below G0_15.out hB); clear W0_15 B4_15 G0_15 hD hB) | (go_at_call 17; refine (laws_markEventS.calls K _ (.slice AXI1 (toEv l1).length cXI1) (toEv l1) k0 (k0 + 3 * ((toEv l1).length : Int)) (mk1 k0) w5 _ B4_14.out (Kd.R_lower XI1_14.out (by have := Z_.out; omega)) (HMI1.out k0 ⟨hk0a, by omega⟩).1).mono ?_; rintro e w15 ⟨rfl, hR, hB, hK⟩; obtain ⟨k1, ek1⟩ : ∃ k, k0 + 3 * ((toEv l1).length : Int) = k := ⟨_, rfl⟩; rw [ek1]; have hk1a : 0 ≤ k1 := (by have := hk0a; omega); have hk1b : k1 ≤ 2000000006000000 := (by have := hk0b; have := HLI1.out; omega); have W0_15 := Aside0.mk (Kd.R_kept W0_14.out hK (fun k hk hk2 => by (have := Z_.out; (try dsimp only at hk); (try dsimp only at hk2); omega))); have B4_15 := Aside0.mk (hB); have G0_15 := Aside0.mk (Kd.R_kept G0_14.out hK (fun k hk hk2 => by (have := Z_.out; (try dsimp only at hk); (try dsimp only at hk2); omega))); clear W0_14 B4_14 XI1_14 G0_14 hR hB hK ek1; have hneg : ¬ k1 < 0 := (by have := hk1a; omega)) | (go_at_call 16; refine (markTask_calls (w0 := w5) (ok := fun k => w5.heap.size ≤ k ∧ k < w6.heap.size) B4_13.out (Kd.S_lower XG_13.out (Nat.le_refl _)) HLT.out HDT.out).mono ?_; rintro e w14 ⟨k0, rfl, hk0, hB, hK⟩; have Z_ := Aside0.mk (And.intro ZXG.out (And.intro ZXI1.out ZG0.out)); have hk0a := hk0.1; have hk0b := hk0.2; have W0_14 := Aside0.mk (Kd.R_kept W0_13.out hK (fun k hk hk2 => by (have := Z_.out; (try dsimp only at hk); (try dsimp only at hk2); omega))); have B4_14 := Aside0.mk (hB); have XI1_14 := Aside0.mk (Kd.R_kept XI1_13.out hK (fun k hk hk2 => by (have := Z_.out; (try dsimp only at hk); (try dsimp only at hk2); omega))); have G0_14 := Aside0.mk (Kd.R_kept G0_13.out hK (fun k hk hk2 => by (have := Z_.out; (try dsimp only at hk); (try dsimp only at hk2); omega))); clear W0_13 B4_13 XG_13 XI1_13 G0_13 hB hK hk0) | (go_at_call 15; refine (laws_eqEventS.calls K AXI1 cXI1 (toEv l1) AYI1 cYI1 (toEv l1) true _ (Kd.R_reads' XI1_12.out).2.2 CXI1.out YI1_12.out CYI1.out HEI1.out).mono ?_; rintro e w13 ⟨rfl, hB⟩; have W0_13 := Aside0.mk (Kd.R_below W0_12.out hB); have B4_13 := Aside0.mk (below_step B4_12.out hB); have XG_13 := Aside0.mk (Kd.S_below XG_12.out hB); have XI1_13 := Aside0.mk (Kd.R_below XI1_12.out hB); have G0_13 := Aside0.mk (Kd.R_below G0_12.out hB); clear W0_12 B4_12 XG_12 XI1_12 G0_12 YI1_12 hB) | (go_at_call 11; refine (laws_toEventS.calls K A1 c1 l1 (toEv l1) _ (Kd.C_below HR1.out (HBS.out.trans (B4_11.out.mono HBS.out.size))) HC1.out HTI1.out).mono ?_; rintro e w12 ⟨vYI1, rfl, hR, hB⟩; obtain ⟨AYI1, cYI1, eYI1⟩ := Kd.R_slice hR; subst eYI1; have CYI1 := Aside0.mk (Kd.R_reads' hR).2.1; have ZYI1 := Aside0.mk hB.size; have W0_12 := Aside0.mk (Kd.R_below W0_11.out hB); have B4_12 := Aside0.mk (below_step B4_11.out hB); have XG_12 := Aside0.mk (Kd.S_below XG_11.out hB); have XI1_12 := Aside0.mk (Kd.R_below XI1_11.out hB); have G0_12 := Aside0.mk (Kd.R_below G0_11.out hB); have YI1_12 := Aside0.mk ((Kd.R_reads' hR).2.2); clear W0_11 B4_11 XG_11 XI1_11 G0_11 hR hB) | (go_at_call 14; refine (laws_eqTaskS.calls K AXG cXG (toT l0) AYG cYG (toT l0) true _ (Kd.S_reads' XG_10.out).2.2 CXG.out YG_10.out CYG.out HEG.out).mono ?_; rintro e w11 ⟨rfl, hB⟩; have W0_11 := Aside0.mk (Kd.R_below W0_10.out hB); have B4_11 := Aside0.mk (below_step B4_10.out hB); have XG_11 := Aside0.mk (Kd.S_below XG_10.out hB); have XI1_11 := Aside0.mk (Kd.R_below XI1_10.out hB); have G0_11 := Aside0.mk (Kd.R_below G0_10.out hB); clear W0_10 B4_10 XG_10 XI1_10 G0_10 YG_10 hB) | (go_at_call 10; refine (laws_toTaskS.calls K A0 c0 l0 (toT l0) _ (Kd.C_below HR0.out (HBS.out.trans (B4_9.out.mono HBS.out.size))) HC0.out HTO.out).mono ?_; rintro e w10 ⟨vYG, rfl, hS, hB⟩; obtain ⟨AYG, cYG, eYG⟩ := Kd.S_slice hS; subst eYG; have CYG := Aside0.mk (Kd.S_reads' hS).2.1; have ZYG := Aside0.mk hB.size; have W0_10 := Aside0.mk (Kd.R_below W0_9.out hB); have B4_10 := Aside0.mk (below_step B4_9.out hB); have XG_10 := Aside0.mk (Kd.S_below XG_9.out hB); have XI1_10 := Aside0.mk (Kd.R_below XI1_9.out hB); have G0_10 := Aside0.mk (Kd.R_below G0_9.out hB); have YG_10 := Aside0.mk ((Kd.S_reads' hS).2.2); clear W0_9 B4_9 XG_9 XI1_9 G0_9 hS hB) | (go_at_call 13; refine (laws_eqIntS.calls K AG0 cG0 rv AW0 cW0 rv true _ (Kd.R_reads' G0_8.out).2.2 CG0.out (Kd.R_reads' W0_8.out).2.2 CW0.out HEQ.out).mono ?_; rintro e w9 ⟨rfl, hD⟩; have hB := hD.below; have W0_9 := Aside0.mk (Kd.R_below W0_8.out hB); have B4_9 := Aside0.mk (below_step B4_8.out hB); have XG_9 := Aside0.mk (Kd.S_below XG_8.out hB); have XI1_9 := Aside0.mk (Kd.R_below XI1_8.out hB); have G0_9 := Aside0.mk (Kd.R_below G0_8.out hB); clear W0_8 B4_8 XG_8 XI1_8 G0_8 hD hB) | (go_at_call 12; refine (impl_DoneBy.calls AXG cXG (toT l0) AXI1 cXI1 (toEv l1) a2 rv _ (Kd.S_reads' XG_7.out).2.2 CXG.out (Kd.R_reads' XI1_7.out).2.2 CXI1.out HIM.out (HT.out.below (HBS.out.trans (B4_7.out.mono HBS.out.size)) HT.out.pos)).mono ?_; rintro e w8 ⟨vG0, rfl, hR, hB⟩; obtain ⟨AG0, cG0, eG0⟩ := Kd.R_slice hR; subst eG0; have CG0 := Aside0.mk (Kd.R_reads' hR).2.1; have ZG0 := Aside0.mk hB.size; have W0_8 := Aside0.mk (Kd.R_below W0_7.out hB); have B4_8 := Aside0.mk (below_step B4_7.out hB); have XG_8 := Aside0.mk (Kd.S_below XG_7.out hB); have XI1_8 := Aside0.mk (Kd.R_below XI1_7.out hB); have G0_8 := Aside0.mk (Kd.R_mono (Kd.R_bound hR) (ok' := fun k => w7.heap.size ≤ k ∧ k < w8.heap.size) (fun k hk => ⟨hk.2.1, hk.2.2.1⟩)); clear W0_7 B4_7 XG_7 XI1_7 hR hB) | (go_at_call 11; refine (laws_toEventS.calls K A1 c1 l1 (toEv l1) _ (Kd.C_below HR1.out (HBS.out.trans (B4_6.out.mono HBS.out.size))) HC1.out HTI1.out).mono ?_; rintro e w7 ⟨vXI1, rfl, hR, hB⟩; obtain ⟨AXI1, cXI1, eXI1⟩ := Kd.R_slice hR; subst eXI1; have CXI1 := Aside0.mk (Kd.R_reads' hR).2.1; have ZXI1 := Aside0.mk hB.size; have W0_7 := Aside0.mk (Kd.R_below W0_6.out hB); have B4_7 := Aside0.mk (below_step B4_6.out hB); have XG_7 := Aside0.mk (Kd.S_below XG_6.out hB); have XI1_7 := Aside0.mk (Kd.R_mono (Kd.R_bound hR) (ok' := fun k => w6.heap.size ≤ k ∧ k < w7.heap.size) (fun k hk => ⟨hk.2.1, hk.2.2.1⟩)); clear W0_6 B4_6 XG_6 hR hB) | (go_at_call 10; refine (laws_toTaskS.calls K A0 c0 l0 (toT l0) _ (Kd.C_below HR0.out (HBS.out.trans (B4_5.out.mono HBS.out.size))) HC0.out HTO.out).mono ?_; rintro e w6 ⟨vXG, rfl, hS, hB⟩; obtain ⟨AXG, cXG, eXG⟩ := Kd.S_slice hS; subst eXG; have CXG := Aside0.mk (Kd.S_reads' hS).2.1; have ZXG := Aside0.mk hB.size; have W0_6 := Aside0.mk (Kd.R_below W0_5.out hB); have B4_6 := Aside0.mk (below_step B4_5.out hB); have XG_6 := Aside0.mk (Kd.S_mono (Kd.S_bound hS) (ok' := fun k => w5.heap.size ≤ k ∧ k < w6.heap.size) (fun k hk => ⟨hk.2.1, hk.2.2.1⟩)); clear W0_5 B4_5 hS hB) | (go_at_call 9; refine (spec_DoneBy.calls K ASG cSG (toT l0) ASI1 cSI1 (toEv l1) a2 rv _ SG_4.out CSG.out SI1_4.out CSI1.out HSP.out).mono ?_; rintro e w5 ⟨vW0, rfl, hR, hB⟩; obtain ⟨AW0, cW0, eW0⟩ := Kd.R_slice hR; subst eW0; have CW0 := Aside0.mk (Kd.R_reads' hR).2.1; have ZW0 := Aside0.mk hB.size; have B_5 := Aside0.mk (below_step B_4.out hB); have W0_5 := Aside0.mk (Kd.R_mono (Kd.R_bound hR) (ok' := fun k => w4.heap.size ≤ k ∧ k < w5.heap.size) (fun k hk => ⟨hk.2.1, hk.2.2.1⟩)); clear B_4 SG_4 SI1_4 hR hB; have HBS := B_5; have B4_5 := Aside0.mk (Below.refl w5.heap.size w5); clear B_5) | (go_at_call 11; refine (laws_toEventS.calls K A1 c1 l1 (toEv l1) _ (Kd.C_below HR1.out B_3.out) HC1.out HTI1.out).mono ?_; rintro e w4 ⟨vSI1, rfl, hR, hB⟩; obtain ⟨ASI1, cSI1, eSI1⟩ := Kd.R_slice hR; subst eSI1; have CSI1 := Aside0.mk (Kd.R_reads' hR).2.1; have ZSI1 := Aside0.mk hB.size; have B_4 := Aside0.mk (below_step B_3.out hB); have SG_4 := Aside0.mk (Kd.C_below SG_3.out hB); have SI1_4 := Aside0.mk ((Kd.R_reads' hR).2.2); clear B_3 SG_3 hR hB) | (go_at_call 10; refine (laws_toTaskS.calls K A0 c0 l0 (toT l0) _ (Kd.C_below HR0.out B_2.out) HC0.out HTO.out).mono ?_; rintro e w3 ⟨vSG, rfl, hS, hB⟩; obtain ⟨ASG, cSG, eSG⟩ := Kd.S_slice hS; subst eSG; have CSG := Aside0.mk (Kd.S_reads' hS).2.1; have ZSG := Aside0.mk hB.size; have B_3 := Aside0.mk (below_step B_2.out hB); have SG_3 := Aside0.mk ((Kd.S_reads' hS).2.2); clear B_2 hS hB) | (go_at_call 8; refine (laws_szEventS.calls A1 c1 l1 s s2 _ (Kd.C_below HR1.out B_1.out) HC1.out HSE.out).mono ?_; rintro e w2 ⟨rfl, hD⟩; have hB := hD.below; have B_2 := Aside0.mk (below_step B_1.out hB); clear B_1 hD hB) | (go_at_call 7; refine (laws_szTaskS.calls K A0 c0 l0 1048576 s _ HR0.out HC0.out HZ.out).mono ?_; rintro e w1 ⟨rfl, hB⟩; have B_1 := Aside0.mk (hB) ; clear hB HZ))
 go_ret
 exact ⟨rfl, (HBS.out.trans (B4_23.out.mono HBS.out.size))⟩
def laws_FnExactDoneBy.f (k : Nat) (l0 : List S44) (l1 : List S50) (a2 : Int) : Option Bool := some true
theorem laws_FnExactDoneBy.calls (k : Nat) (A0 : Option Addr) (c0 : Nat) (l0 : List S44) (A1 : Option Addr) (c1 : Nat) (l1 : List S50) (a2 : Int) (r : Bool) (w : World) (hr0 : Kd.C k44 w A0 l0.length l0) (hc0 : l0.length ≤ c0) (hr1 : Kd.C k50 w A1 l1.length l1) (hc1 : l1.length ≤ c1) (h : laws_FnExactDoneBy.f k l0 l1 a2 = some r) (hT_ : Tab w) :
  Calls Tryd.prog 3 #[.slice A0 l0.length c0, .slice A1 l1.length c1, .int .i64 a2] w fun e w' => e = .returned (.bool r) ∧ Below w.heap.size w w' := by
 injection h with h
 subst h
 obtain ⟨K, hK⟩ : ∃ K : Nat, 4000000 ≤ K := ⟨_, Nat.le_refl _⟩
 have hC := hr0.2.1
 have hC1 := hr1.2.1
 have hlen0 : l0.length ≤ 9223372036854775807 := by omega
 have hlen1 : l1.length ≤ 9223372036854775807 := by omega
 obtain ⟨s, hz, hc⟩ := szTaskS_le l0 hlen0 (okT44 hr0) K (by omega)
 rcases hc with hneg | ⟨hs, hl, hd⟩
 ·exact fnExactDoneBy_big hr0 hc0 hz hneg
 rcases szEventS_eq l1 s hs hlen1 with he | ⟨s2, he, he1, he2⟩
 ·exact fnExactDoneBy_big2 hr0 hc0 hr1 hc1 hz (by omega) he (by decide)
 have hlt : (toT l0).length ≤ 1048576 := by rw [toT_length]; exact hl
 have hle : (toEv l1).length ≤ 1048576 := by rw [toEv_length]; exact he2
 have hdt : ∀ t, t ∈ toT l0 → t.f1.length ≤ 1048576 := fun t ht => by
  obtain ⟨u, hu, rfl⟩ := List.mem_map.1 ht
  exact hd u hu
 have hsm : Small 1048576 (toT l0) := ⟨hlt, hdt⟩
 obtain ⟨rv, him, h8⟩ := doneBy_val (toT l0) (toEv l1) a2
 have hsp := (specDoneBy_eq (B := 1048576) (by decide) hsm a2 K (by omega)).trans him
 obtain ⟨rvm, hm1, hm2, hm3⟩ := markI_eq rv 1 K ⟨by decide, by decide⟩ (by omega) (by omega)
 have hm4 := heldI_eq rvm 1 K ⟨by decide, by decide⟩ (by omega) (by rw [hm2]; exact hm3) (by omega)
 rw [hm2] at hm4
 have hmk1 : ∃ f : Int → List S46, ∀ c : Int, 0 ≤ c ∧ c ≤ 3000000000000000 → laws_markEventS.f K (toEv l1) c = some (c + 3 * ((toEv l1).length : Int), f c) ∧ True := by
  refine ⟨fun c => ((laws_markEventS.f K (toEv l1) c).getD (0, [])).2, fun c hc => ?_⟩
  obtain ⟨l', h1⟩ := markE_eq (toEv l1) c K ⟨hc.1, by omega⟩ hle (by omega)
  show laws_markEventS.f K (toEv l1) c = some (c + 3 * ((toEv l1).length : Int), ((laws_markEventS.f K (toEv l1) c).getD (0, [])).2) ∧ True
  rw [h1]
  exact ⟨rfl, trivial⟩
 obtain ⟨f1, hf1⟩ := hmk1
 exact fnExactDoneBy_all hr0 hc0 hr1 hc1 he he1 hT_ hz (by omega) (toTaskS_eq l0 K hl hd (by omega)) hlt hdt hsp him (eqIntS_refl rv K (by omega) (by omega)) (eqTaskS_refl (toT l0) K hlt hdt (by omega)) ⟨hm1, hm2, hm4⟩ (by omega) hle (toEventS_eq l1 K he2 (by omega)) (eqEventS_refl (toEv l1) K hle (by omega)) hf1
end Go.Proofs.YtkafmfabkbmpbaaDoor.G
