/-
  FnExactAddTime: the law walked.
-/
import Derived.Test.YtflponipbdgkeaaHMarkI
import Derived.Test.YtflponipbdgkeaaQAddX
import Derived.Test.YtflponipbdgkeaaQMark
import Derived.Test.YtflponipbdgkeaaQToInt
import Derived.Test.YtflponipbdgkeaaG0
import Derived.Test.YtflponipbdgkeaaG5
import Derived.Test.YtflponipbdgkeaaG9
namespace Go.Proofs.Ytflponipbdgkeaa.G
open Go.RowKit Go.Proofs.YtflponipbdgkeaaW.PrintWords Go.Proofs.YtflponipbdgkeaaW.PrintLast Go.Proofs.YtflponipbdgkeaaW.PrintMore
set_option linter.unusedVariables false
set_option linter.unusedSimpArgs false

set_option maxHeartbeats 16000000 in
set_option maxRecDepth 1000000 in
theorem addTime_long {A0 : Option Addr} {c0 : Nat} {l0 : List Int} {a1 : Int} {w : World} (hl : (l0.length : Int) > 1048576) :
    Calls Try.prog 4 #[.slice A0 l0.length c0, .int .i64 a1] w fun e w' => e = .returned (.bool true) ∧ Below w.heap.size w w' := by
  go_enter Try.func4, Try.ntmps4
  go_wp2
  go_ret
  exact ⟨rfl, Below.refl _ _⟩
set_option maxHeartbeats 16000000 in
set_option maxRecDepth 1000000 in
theorem addTime_yes {A0 : Option Addr} {c0 : Nat} {l0 : List Int} {a1 : Int} {w : World} {K : Nat} {y l0m : List Int} {m0 : Int} (hr0 : Kd.C (Kd.int .i64) w A0 l0.length l0) (hc0 : l0.length ≤ c0) (hs0 : ¬ (l0.length : Int) > 1048576) (hti : laws_toIntS.f K l0 = some l0) (hsp : spec_AddTime.f K l0 a1 = some (y, true))
    (had : ∀ (A : Option Addr) (c : Nat) (W : World), Kd.C (Kd.int .i64) W A l0.length l0 → l0.length ≤ c → Calls Try.prog 13 #[.slice A l0.length c, .int .i64 a1] W fun e w' => ∃ B off, e = .returned (.tuple #[.slice (some ⟨B, off, none⟩) y.length y.length, .bool true]) ∧ W.heap.size ≤ B ∧ RawI w' B off y ∧ Below W.heap.size W w')
    (heq : laws_eqIntS.f K y y = some true) (hei : laws_eqIntS.f K l0 l0 = some true) (hmi : laws_markIntS.f K l0 1 = some (m0, l0m)) (hm0 : ¬ m0 < 0) (hn9 : y.length ≤ 9) (hhe : laws_heldIntS.f K (ones y.length) 1 = some (1 + (y.length : Int))) :
    Calls Try.prog 4 #[.slice A0 l0.length c0, .int .i64 a1] w fun e w' => e = .returned (.bool true) ∧ Below w.heap.size w w' := by
  have HR0 := Aside0.mk hr0
  have HC0 := Aside0.mk hc0
  have HTI := Aside0.mk hti
  have HSP := Aside0.mk hsp
  have HAD := Aside0.mk had
  have HEQ := Aside0.mk heq
  have HEI := Aside0.mk hei
  have HMI := Aside0.mk hmi
  have HN9 := Aside0.mk hn9
  have HHE := Aside0.mk hhe
  have hlC : ∀ {W : World} {B off : Nat}, RawI W B off y → Kd.C (Kd.int .i64) W (some ⟨B, off, none⟩) y.length y := fun h => h.C HN9.out
  have hlM : ∀ {W : World} {B off : Nat}, RawI W B off (ones y.length) → Kd.C (Kd.int .i64) W (some ⟨B, off, none⟩) (ones y.length).length (ones y.length) := fun h => h.C (by rw [ones_len]; exact HN9.out)
  have hq1 : ¬ (1 + (y.length : Int) < 0) := by omega
  have hq2 : ((1 + (y.length : Int)) != 1 + (y.length : Int)) = false := bne_self_eq_false _
  clear hr0 hc0 hti hsp had heq hei hmi hn9 hhe
  go_enter Try.func4, Try.ntmps4
  go_wp2_with (first | (go_at_call 16; refine (held_calls (ones_len y.length) (Nat.le_refl _) (hlM G0_14.out) HHE.out).mono ?_; rintro e w15 ⟨rfl, hD⟩; have hB := hD.below; have BX_15 := Aside0.mk (below_step BX_14.out hB); have G0_15 := Aside0.mk (RawI.kept G0_14.out (hB.block _ (RawI.lt G0_14.out))); clear BX_14 G0_14 hD hB) | (go_at_call 14; refine (laws_eqIntS.calls K _ _ y AW cW y true _ (hlC H0_13.out) (Nat.le_refl _) (Kd.C_below HW0.out BX_13.out) CW.out HEQ.out).mono ?_; rintro e w14 ⟨rfl, hD⟩; have hB := hD.below; have BX_14 := Aside0.mk (below_step BX_13.out hB); have G0_14 := Aside0.mk (RawI.kept G0_13.out (hB.block _ (RawI.lt G0_13.out))); clear BX_13 G0_13 H0_13 hD hB) | (go_at_call 13; refine (HAD.out AH cH _ HI_12.out CH.out).mono ?_; rintro e w13 ⟨Bh, oh, rfl, hg1, hg2, hB⟩; have BX_13 := Aside0.mk (below_step BX_12.out hB); have G0_13 := Aside0.mk (RawI.kept G0_12.out (hB.block _ (RawI.lt G0_12.out))); have H0_13 := Aside0.mk (hg2); clear BX_12 G0_12 HI_12 hg1 hg2 hB) | (go_at_call 12; refine (laws_toIntS.calls K A0 c0 l0 l0 _ (Kd.C_below HR0.out (HBX.out.trans (BX_11.out.mono HBX.out.size))) HC0.out HTI.out).mono ?_; rintro e w12 ⟨vH, rfl, hR, hB⟩; obtain ⟨AH, cH, eH⟩ := Kd.R_slice hR; subst eH; have CH := Aside0.mk (Kd.R_reads' hR).2.1; have BX_12 := Aside0.mk (below_step BX_11.out hB); have G0_12 := Aside0.mk (RawI.kept G0_11.out (hB.block _ (RawI.lt G0_11.out))); have HI_12 := Aside0.mk ((Kd.R_reads' hR).2.2); clear BX_11 G0_11 hR hB) | (go_at_call 16; refine (held_calls (ones_len y.length) (Nat.le_refl _) (hlM G0_10.out) HHE.out).mono ?_; rintro e w11 ⟨rfl, hD⟩; have hB := hD.below; have BX_11 := Aside0.mk (below_step BX_10.out hB); have G0_11 := Aside0.mk (RawI.kept G0_10.out (hB.block _ (RawI.lt G0_10.out))); clear BX_10 G0_10 hD hB) | (go_at_call 15; refine (markRaw (w0 := w2) rfl HN9.out G0_9.out (by have := HGB.out; have := HZ.out; omega) BX_9.out).mono ?_; rintro e w10 ⟨rfl, hg2, hB, hK⟩; have BX_10 := Aside0.mk (hB); have G0_10 := Aside0.mk (hg2); clear BX_9 G0_9 hg2 hB hK) | (go_at_call 14; refine (laws_eqIntS.calls K _ _ y AW cW y true _ (hlC G0_8.out) (Nat.le_refl _) (Kd.C_below HW0.out BX_8.out) CW.out HEQ.out).mono ?_; rintro e w9 ⟨rfl, hD⟩; have hB := hD.below; have BX_9 := Aside0.mk (below_step BX_8.out hB); have G0_9 := Aside0.mk (RawI.kept G0_8.out (hB.block _ (RawI.lt G0_8.out))); clear BX_8 G0_8 hD hB) | (go_at_call 15; refine (laws_markIntS.calls K _ (.slice AX l0.length cX) l0 1 m0 l0m w2 _ BX_7.out (Kd.R_lower XI_7.out (Nat.le_refl _)) HMI.out).mono ?_; rintro e w8 ⟨rfl, hR, hB, hK⟩; have BX_8 := Aside0.mk (hB); have G0_8 := Aside0.mk (RawI.kept G0_7.out (hK.2 _ (RawI.lt G0_7.out) (fun hk => by have := HGB.out; (try dsimp only at hk); omega))); clear BX_7 XI_7 G0_7 hR hB hK) | (go_at_call 14; refine (laws_eqIntS.calls K AX cX l0 AY cY l0 true _ (Kd.R_reads' XI_6.out).2.2 CX.out YI_6.out CY.out HEI.out).mono ?_; rintro e w7 ⟨rfl, hD⟩; have hB := hD.below; have BX_7 := Aside0.mk (below_step BX_6.out hB); have XI_7 := Aside0.mk (Kd.R_below XI_6.out hB); have G0_7 := Aside0.mk (RawI.kept G0_6.out (hB.block _ (RawI.lt G0_6.out))); clear BX_6 XI_6 G0_6 YI_6 hD hB) | (go_at_call 12; refine (laws_toIntS.calls K A0 c0 l0 l0 _ (Kd.C_below HR0.out (HBX.out.trans (BX_5.out.mono HBX.out.size))) HC0.out HTI.out).mono ?_; rintro e w6 ⟨vY, rfl, hR, hB⟩; obtain ⟨AY, cY, eY⟩ := Kd.R_slice hR; subst eY; have CY := Aside0.mk (Kd.R_reads' hR).2.1; have BX_6 := Aside0.mk (below_step BX_5.out hB); have XI_6 := Aside0.mk (Kd.R_below XI_5.out hB); have G0_6 := Aside0.mk (RawI.kept G0_5.out (hB.block _ (RawI.lt G0_5.out))); have YI_6 := Aside0.mk ((Kd.R_reads' hR).2.2); clear BX_5 XI_5 G0_5 hR hB) | (go_at_call 14; refine (laws_eqIntS.calls K _ _ y AW cW y true _ (hlC G0_4.out) (Nat.le_refl _) (Kd.C_below HW0.out BX_4.out) CW.out HEQ.out).mono ?_; rintro e w5 ⟨rfl, hD⟩; have hB := hD.below; have BX_5 := Aside0.mk (below_step BX_4.out hB); have XI_5 := Aside0.mk (Kd.R_below XI_4.out hB); have G0_5 := Aside0.mk (RawI.kept G0_4.out (hB.block _ (RawI.lt G0_4.out))); clear BX_4 XI_4 G0_4 hD hB) | (go_at_call 13; refine (HAD.out AX cX _ (Kd.R_reads' XI_3.out).2.2 CX.out).mono ?_; rintro e w4 ⟨Bg, og, rfl, hg1, hg2, hB⟩; have HGB := Aside0.mk hg1; have BX_4 := Aside0.mk (below_step BX_3.out hB); have XI_4 := Aside0.mk (Kd.R_below XI_3.out hB); have G0_4 := Aside0.mk (hg2); clear BX_3 XI_3 hg1 hg2 hB) | (go_at_call 12; refine (laws_toIntS.calls K A0 c0 l0 l0 _ (Kd.C_below HR0.out (HBX.out.trans (BX_2.out.mono HBX.out.size))) HC0.out HTI.out).mono ?_; rintro e w3 ⟨vX, rfl, hR, hB⟩; obtain ⟨AX, cX, eX⟩ := Kd.R_slice hR; subst eX; have CX := Aside0.mk (Kd.R_reads' hR).2.1; have BX_3 := Aside0.mk (below_step BX_2.out hB); have XI_3 := Aside0.mk (Kd.R_mono (Kd.R_bound hR) (ok' := fun k => w2.heap.size ≤ k ∧ k < w3.heap.size) (fun k hk => ⟨hk.2.1, hk.2.2.1⟩)); have HZ := Aside0.mk hB.size; clear BX_2 hR hB) | (go_at_call 11; refine (spec_AddTime.calls K AS cS l0 a1 y true _ SI_1.out CS.out HSP.out).mono ?_; rintro e w2 ⟨vW, rfl, hR, hB⟩; obtain ⟨AW, cW, eW⟩ := Kd.R_slice hR; subst eW; have CW := Aside0.mk (Kd.R_reads' hR).2.1; have HW0 := Aside0.mk (Kd.R_reads' hR).2.2; have HBX := Aside0.mk (below_step B_1.out hB); have BX_2 := Aside0.mk (Below.refl w2.heap.size w2); clear B_1 SI_1 hR hB) | (go_at_call 12; refine (laws_toIntS.calls K A0 c0 l0 l0 _ HR0.out HC0.out HTI.out).mono ?_; rintro e w1 ⟨vS, rfl, hR, hB⟩; obtain ⟨AS, cS, eS⟩ := Kd.R_slice hR; subst eS; have CS := Aside0.mk (Kd.R_reads' hR).2.1; have B_1 := Aside0.mk (hB); have SI_1 := Aside0.mk ((Kd.R_reads' hR).2.2); clear  hR hB))
  go_ret
  exact ⟨rfl, (HBX.out.trans (BX_15.out.mono HBX.out.size))⟩
set_option maxHeartbeats 16000000 in
set_option maxRecDepth 1000000 in
theorem addTime_no {A0 : Option Addr} {c0 : Nat} {l0 : List Int} {a1 : Int} {w : World} {K : Nat} {l0m : List Int} {m0 : Int} (hr0 : Kd.C (Kd.int .i64) w A0 l0.length l0) (hc0 : l0.length ≤ c0) (hs0 : ¬ (l0.length : Int) > 1048576) (hti : laws_toIntS.f K l0 = some l0) (hsp : spec_AddTime.f K l0 a1 = some ([], false))
    (had : ∀ (A : Option Addr) (c : Nat) (W : World), Kd.C (Kd.int .i64) W A l0.length l0 → l0.length ≤ c → Calls Try.prog 13 #[.slice A l0.length c, .int .i64 a1] W fun e w' => e = .returned (.tuple #[.slice none 0 0, .bool false]) ∧ Below W.heap.size W w')
    (heq : laws_eqIntS.f K [] [] = some true) (hei : laws_eqIntS.f K l0 l0 = some true) (hmi : laws_markIntS.f K l0 1 = some (m0, l0m)) (hm0 : ¬ m0 < 0) (hmn : laws_markIntS.f K [] 1 = some (1, [])) (hhn : laws_heldIntS.f K [] 1 = some 1) :
    Calls Try.prog 4 #[.slice A0 l0.length c0, .int .i64 a1] w fun e w' => e = .returned (.bool true) ∧ Below w.heap.size w w' := by
  have HR0 := Aside0.mk hr0
  have HC0 := Aside0.mk hc0
  have HTI := Aside0.mk hti
  have HSP := Aside0.mk hsp
  have HAD := Aside0.mk had
  have HEQ := Aside0.mk heq
  have HEI := Aside0.mk hei
  have HMI := Aside0.mk hmi
  have HMN := Aside0.mk hmn
  have HHN := Aside0.mk hhn
  have hnil : ∀ (W : World), Kd.C (Kd.int .i64) W none 0 [] := fun W => Kd.C_of_reads (d := (0 : Int)) (h1 := fun _ => rfl) ⟨rfl, by omega, fun h => by omega⟩
  clear hr0 hc0 hti hsp had heq hei hmi hmn hhn
  go_enter Try.func4, Try.ntmps4
  go_wp2_with (first | (go_at_call 16; refine (laws_heldIntS.calls K none 0 [] 1 1 _ (hnil _) (Nat.le_refl _) HHN.out).mono ?_; rintro e w15 ⟨rfl, hD⟩; have hB := hD.below; have BX_15 := Aside0.mk (below_step BX_14.out hB); clear BX_14 hD hB) | (go_at_call 14; refine (laws_eqIntS.calls K none 0 [] AW cW [] true _ (hnil _) (Nat.le_refl _) (Kd.C_below HW0.out BX_13.out) CW.out HEQ.out).mono ?_; rintro e w14 ⟨rfl, hD⟩; have hB := hD.below; have BX_14 := Aside0.mk (below_step BX_13.out hB); clear BX_13 hD hB) | (go_at_call 13; refine (HAD.out AH cH _ HI_12.out CH.out).mono ?_; rintro e w13 ⟨rfl, hB⟩; have BX_13 := Aside0.mk (below_step BX_12.out hB); clear BX_12 HI_12 hB) | (go_at_call 12; refine (laws_toIntS.calls K A0 c0 l0 l0 _ (Kd.C_below HR0.out (HBX.out.trans (BX_11.out.mono HBX.out.size))) HC0.out HTI.out).mono ?_; rintro e w12 ⟨vH, rfl, hR, hB⟩; obtain ⟨AH, cH, eH⟩ := Kd.R_slice hR; subst eH; have CH := Aside0.mk (Kd.R_reads' hR).2.1; have BX_12 := Aside0.mk (below_step BX_11.out hB); have HI_12 := Aside0.mk ((Kd.R_reads' hR).2.2); clear BX_11 hR hB) | (go_at_call 16; refine (laws_heldIntS.calls K none 0 [] 1 1 _ (hnil _) (Nat.le_refl _) HHN.out).mono ?_; rintro e w11 ⟨rfl, hD⟩; have hB := hD.below; have BX_11 := Aside0.mk (below_step BX_10.out hB); clear BX_10 hD hB) | (go_at_call 15; refine (laws_markIntS.calls K (fun _ => False) (.slice none 0 0) [] 1 1 [] w2 _ BX_9.out (Kd.R_nil _ _ _ _ _) HMN.out).mono ?_; rintro e w10 ⟨rfl, hR, hB, hK⟩; have BX_10 := Aside0.mk (hB); clear BX_9 hR hB hK) | (go_at_call 14; refine (laws_eqIntS.calls K none 0 [] AW cW [] true _ (hnil _) (Nat.le_refl _) (Kd.C_below HW0.out BX_8.out) CW.out HEQ.out).mono ?_; rintro e w9 ⟨rfl, hD⟩; have hB := hD.below; have BX_9 := Aside0.mk (below_step BX_8.out hB); clear BX_8 hD hB) | (go_at_call 15; refine (laws_markIntS.calls K _ (.slice AX l0.length cX) l0 1 m0 l0m w2 _ BX_7.out (Kd.R_lower XI_7.out (Nat.le_refl _)) HMI.out).mono ?_; rintro e w8 ⟨rfl, hR, hB, hK⟩; have BX_8 := Aside0.mk (hB); clear BX_7 XI_7 hR hB hK) | (go_at_call 14; refine (laws_eqIntS.calls K AX cX l0 AY cY l0 true _ (Kd.R_reads' XI_6.out).2.2 CX.out YI_6.out CY.out HEI.out).mono ?_; rintro e w7 ⟨rfl, hD⟩; have hB := hD.below; have BX_7 := Aside0.mk (below_step BX_6.out hB); have XI_7 := Aside0.mk (Kd.R_below XI_6.out hB); clear BX_6 XI_6 YI_6 hD hB) | (go_at_call 12; refine (laws_toIntS.calls K A0 c0 l0 l0 _ (Kd.C_below HR0.out (HBX.out.trans (BX_5.out.mono HBX.out.size))) HC0.out HTI.out).mono ?_; rintro e w6 ⟨vY, rfl, hR, hB⟩; obtain ⟨AY, cY, eY⟩ := Kd.R_slice hR; subst eY; have CY := Aside0.mk (Kd.R_reads' hR).2.1; have BX_6 := Aside0.mk (below_step BX_5.out hB); have XI_6 := Aside0.mk (Kd.R_below XI_5.out hB); have YI_6 := Aside0.mk ((Kd.R_reads' hR).2.2); clear BX_5 XI_5 hR hB) | (go_at_call 14; refine (laws_eqIntS.calls K none 0 [] AW cW [] true _ (hnil _) (Nat.le_refl _) (Kd.C_below HW0.out BX_4.out) CW.out HEQ.out).mono ?_; rintro e w5 ⟨rfl, hD⟩; have hB := hD.below; have BX_5 := Aside0.mk (below_step BX_4.out hB); have XI_5 := Aside0.mk (Kd.R_below XI_4.out hB); clear BX_4 XI_4 hD hB) | (go_at_call 13; refine (HAD.out AX cX _ (Kd.R_reads' XI_3.out).2.2 CX.out).mono ?_; rintro e w4 ⟨rfl, hB⟩; have BX_4 := Aside0.mk (below_step BX_3.out hB); have XI_4 := Aside0.mk (Kd.R_below XI_3.out hB); clear BX_3 XI_3 hB) | (go_at_call 12; refine (laws_toIntS.calls K A0 c0 l0 l0 _ (Kd.C_below HR0.out (HBX.out.trans (BX_2.out.mono HBX.out.size))) HC0.out HTI.out).mono ?_; rintro e w3 ⟨vX, rfl, hR, hB⟩; obtain ⟨AX, cX, eX⟩ := Kd.R_slice hR; subst eX; have CX := Aside0.mk (Kd.R_reads' hR).2.1; have BX_3 := Aside0.mk (below_step BX_2.out hB); have XI_3 := Aside0.mk (Kd.R_mono (Kd.R_bound hR) (ok' := fun k => w2.heap.size ≤ k ∧ k < w3.heap.size) (fun k hk => ⟨hk.2.1, hk.2.2.1⟩)); have HZ := Aside0.mk hB.size; clear BX_2 hR hB) | (go_at_call 11; refine (spec_AddTime.calls K AS cS l0 a1 [] false _ SI_1.out CS.out HSP.out).mono ?_; rintro e w2 ⟨vW, rfl, hR, hB⟩; obtain ⟨AW, cW, eW⟩ := Kd.R_slice hR; subst eW; have CW := Aside0.mk (Kd.R_reads' hR).2.1; have HW0 := Aside0.mk (Kd.R_reads' hR).2.2; have HBX := Aside0.mk (below_step B_1.out hB); have BX_2 := Aside0.mk (Below.refl w2.heap.size w2); clear B_1 SI_1 hR hB) | (go_at_call 12; refine (laws_toIntS.calls K A0 c0 l0 l0 _ HR0.out HC0.out HTI.out).mono ?_; rintro e w1 ⟨vS, rfl, hR, hB⟩; obtain ⟨AS, cS, eS⟩ := Kd.R_slice hR; subst eS; have CS := Aside0.mk (Kd.R_reads' hR).2.1; have B_1 := Aside0.mk (hB); have SI_1 := Aside0.mk ((Kd.R_reads' hR).2.2); clear  hR hB))
  go_ret
  exact ⟨rfl, (HBX.out.trans (BX_15.out.mono HBX.out.size))⟩
/-- AddTime refuses. -/
theorem addRefuse (A0 : Option Addr) (c0 : Nat) (l0 : List Int) (a1 : Int) (w : World) (hno : ¬ (vt l0 = true ∧ okT a1 = true)) (hr0 : Kd.C (Kd.int .i64) w A0 l0.length l0) (hc0 : l0.length ≤ c0) :
    Calls Try.prog 13 #[.slice A0 l0.length c0, .int .i64 a1] w fun e w' => e = .returned (.tuple #[.slice none 0 0, .bool false]) ∧ Below w.heap.size w w' := by
  have HR0 := Aside0.mk hr0
  have HC0 := Aside0.mk hc0
  have hT := timeValid_f a1
  have hE := earlierValid_f l0
  clear hr0 hc0
  cases hv : vt l0 with
  | false =>
    rw [hv] at hE
    have HE := Aside0.mk hE
    clear hE hT hv hno
    go_enter Try.func13, Try.ntmps13
    go_wp2_with (first | (go_at_call 30; refine (impl_earlierValid.calls A0 c0 l0 _ _ HR0.out HC0.out HE.out).mono ?_; rintro e w' ⟨rfl, hb⟩; have HB := Aside0.mk hb; clear hb))
    go_ret2
    exact ⟨rfl, HB.out⟩
  | true =>
    cases ho : okT a1 with
    | true => exact absurd ⟨hv, ho⟩ hno
    | false =>
      rw [hv] at hE
      rw [ho] at hT
      have HE := Aside0.mk hE
      have HT := Aside0.mk hT
      clear hE hT hv ho hno
      go_enter Try.func13, Try.ntmps13
      go_wp2_with (first | (go_at_call 30; refine (impl_earlierValid.calls A0 c0 l0 _ _ HR0.out HC0.out HE.out).mono ?_; rintro e w' ⟨rfl, hb⟩; have HB := Aside0.mk hb; clear hb) | (go_at_call 20; refine (impl_timeValid.calls a1 _ _ HT.out).mono ?_; rintro e w' ⟨rfl, ⟨nd, rfl⟩⟩))
      go_ret2
      exact ⟨rfl, pw_below_drewN HB.out _⟩
def laws_FnExactAddTime.f (k : Nat) (l0 : List Int) (a1 : Int) : Option Bool := some true
theorem laws_FnExactAddTime.calls (k : Nat) (A0 : Option Addr) (c0 : Nat) (l0 : List Int) (a1 : Int) (r : Bool) (w : World) (hr0 : Kd.C (Kd.int .i64) w A0 l0.length l0) (hc0 : l0.length ≤ c0) (h : laws_FnExactAddTime.f k l0 a1 = some r) :
    Calls Try.prog 4 #[.slice A0 l0.length c0, .int .i64 a1] w fun e w' => e = .returned (.bool r) ∧ Below w.heap.size w w' := by
  injection h with h
  subst h
  by_cases hs0 : (l0.length : Int) > 1048576
  · exact addTime_long hs0
  obtain ⟨K, hK⟩ : ∃ K : Nat, 3000000 ≤ K := ⟨_, Nat.le_refl _⟩
  obtain ⟨l0m, hm, _, _⟩ := markI_eq l0 1 K ⟨by decide, by decide⟩ (by omega) (by omega)
  have hti := toIntS_eq l0 K (by omega) (by omega)
  have hei := eqIntS_refl l0 K (by omega) (by omega)
  by_cases hvo : vt l0 = true ∧ okT a1 = true
  · have hsp := specAdd l0 a1 K (by omega)
    unfold addP at hsp
    rw [if_pos hvo] at hsp
    have hl6 := ((vt_iff l0).1 hvo.1).1
    have hyl : ((l0 ++ [a1]).drop (l0.length + 1 - 6)).length ≤ 6 := by
      rw [List.length_drop, List.length_append, List.length_singleton]
      omega
    have hh := heldI_eq (ones ((l0 ++ [a1]).drop (l0.length + 1 - 6)).length) 1 K ⟨by decide, by decide⟩ (by rw [ones_len]; omega) (fun j hj => by rw [ones_len] at hj; exact ones_at hj) (by rw [ones_len]; omega)
    rw [ones_len] at hh
    exact addTime_yes hr0 hc0 hs0 hti hsp (fun A c W h1 h2 => addRaw A c l0 a1 W hvo.1 hvo.2 h1 h2) (eqIntS_refl _ K (by omega) (by omega)) hei hm (by omega) (by omega) hh
  · have hsp := specAdd l0 a1 K (by omega)
    unfold addP at hsp
    rw [if_neg hvo] at hsp
    have hmn : laws_markIntS.f K [] 1 = some (1, []) := by
      obtain ⟨K, rfl⟩ : ∃ m, K = m + 1 := ⟨K - 1, by omega⟩
      rfl
    have hhn : laws_heldIntS.f K [] 1 = some 1 := by
      obtain ⟨K, rfl⟩ : ∃ m, K = m + 1 := ⟨K - 1, by omega⟩
      rfl
    exact addTime_no hr0 hc0 hs0 hti hsp (fun A c W h1 h2 => addRefuse A c l0 a1 W hvo h1 h2) (eqIntS_refl _ K (by simp) (by simp; omega)) hei hm (by omega) hmn hhn
end Go.Proofs.Ytflponipbdgkeaa.G
