/-
  container/heap by hand, over a *line: down.
-/
import Derived.Test.YtflponipbdgkeaaHUp
import Derived.Test.YtflponipbdgkeaaG0
namespace Go.Proofs.Ytflponipbdgkeaa.G
open Go.RowKit Go.Proofs.YtflponipbdgkeaaW.PrintWords Go.Proofs.YtflponipbdgkeaaW.PrintLast Go.Proofs.YtflponipbdgkeaaW.PrintMore
set_option linter.unusedVariables false
set_option linter.unusedSimpArgs false

theorem IsLine.less' {ok : Nat → Prop} {b L : Nat} {us : List S30} {who : List Int} {w : World} (h : IsLine ok b w L us who) (hr : WhoIn us who) (i k : Nat) (hi : i < who.length) (hk : k < who.length) {v : Bool} (hv : lessR us (rd who i) (rd who k) = v) :
    Calls Try.prog 61 #[.pointer (some ⟨L, 0, none⟩), .int .i64 i, .int .i64 k] w fun e w' => e = .returned (.bool v) ∧ Below w.heap.size w w' := by
  rw [← hv]
  exact h.less hr i k hi hk
def childI (us : List S30) (n : Nat) (l : List Int) (i : Nat) : Nat := if 2 * i + 2 < n ∧ lessR us (rd l (2 * i + 2 : Nat)) (rd l (2 * i + 1 : Nat)) = true then 2 * i + 2 else 2 * i + 1
def downI (us : List S30) (n : Nat) : Nat → List Int → Nat → List Int
  | 0, l, _ => l
  | f + 1, l, i => if n ≤ 2 * i + 1 ∨ lessR us (rd l (childI us n l i : Nat)) (rd l i) = false then l else downI us n f (swapI l i (childI us n l i)) (childI us n l i)
theorem downI_stop {us : List S30} {n : Nat} {f : Nat} {l : List Int} {i : Nat} (h : n ≤ 2 * i + 1 ∨ lessR us (rd l (childI us n l i : Nat)) (rd l i) = false) : downI us n f l i = l := by
  cases f with
  | zero => rfl
  | succ f => unfold downI; rw [if_pos h]
theorem downI_go {us : List S30} {n : Nat} {f : Nat} {l : List Int} {i c : Nat} (hc : childI us n l i = c) (h1 : 2 * i + 1 < n) (h2 : lessR us (rd l (c : Nat)) (rd l i) = true) : downI us n (f + 1) l i = downI us n f (swapI l i c) c := by
  conv => lhs; unfold downI
  rw [hc, if_neg (by rw [h2]; simp; omega)]
set_option maxHeartbeats 16000000 in
set_option maxRecDepth 1000000 in
theorem down_calls {ok : Nat → Prop} {b L : Nat} {us : List S30} {who : List Int} {w : World} (h : IsLine ok b w L us who) (hr : WhoIn us who) (hb : b ≤ w.heap.size) (hlen : who.length ≤ 1000) (i n : Nat) (hi : i ≤ n) (hn : n ≤ who.length) :
    Calls Try.prog 43 #[.iface 46 (.pointer (some ⟨L, 0, none⟩)), .int .i64 i, .int .i64 n] w fun e w' => (∃ r : Bool, e = .returned (.bool r)) ∧ IsLine ok b w' L us (downI us n n who i) ∧ Bel ok b w w' := by
  have HI := Aside0.mk h
  have HR := Aside0.mk hr
  have HB := Aside0.mk (And.intro hb (And.intro hlen (And.intro hi hn)))
  clear h hr hb hlen hi hn
  go_enter Try.func43, Try.ntmps43
  go_wp2
  go_loopw [7] (fun v7 w' => ∃ (q f : Nat) (l : List Int), v7 = .int .i64 q ∧ Aside0 (IsLine ok b w' L us l ∧ WhoIn us l ∧ l.length = who.length ∧ q ≤ n ∧ n ≤ f + q ∧ downI us n f l q = downI us n n who i ∧ Bel ok b w w')) (fun v7 _ => n - (intOf v7).toNat)
  case atStart => exact ⟨i, n, who, rfl, ⟨HI.out, HR.out, rfl, HB.out.2.2.1, by omega, rfl, Bel.refl _ _ _⟩⟩
  case round =>
    obtain ⟨q, f, l, rfl, HA⟩ := hrel
    have nl := fun (a : Addr) (w : World) => (show (nilAhead 188 46 (.pointer (some a)) "Less").run Try.prog w = .ok (some false) w by kernel_rfl)
    have ml := fun (a : Addr) (w : World) => (show (method 188 46 (.pointer (some a)) "Less").run Try.prog w = .ok (61, .pointer (some a)) w by kernel_rfl)
    have ns := fun (a : Addr) (w : World) => (show (nilAhead 188 46 (.pointer (some a)) "Swap").run Try.prog w = .ok (some false) w by kernel_rfl)
    have ms := fun (a : Addr) (w : World) => (show (method 188 46 (.pointer (some a)) "Swap").run Try.prog w = .ok (64, .pointer (some a)) w by kernel_rfl)
    have hAA := HA.out
    have hBB := HB.out
    have HL := Aside0.mk hAA.1
    have HW := Aside0.mk hAA.2.1
    have HU := Aside0.mk hAA.2.2.2.2.2.1
    have HBw := Aside0.mk hAA.2.2.2.2.2.2
    have hle : b ≤ wr.heap.size := Nat.le_trans hBB.1 HBw.out.size
    obtain ⟨_, _, hlen, hq, hf, _⟩ := hAA
    obtain ⟨hb, h1000, hi, hn⟩ := hBB
    obtain ⟨j1, hj1⟩ : ∃ j, j = 2 * q + 1 := ⟨_, rfl⟩
    obtain ⟨j2, hj2⟩ : ∃ j, j = 2 * q + 2 := ⟨_, rfl⟩
    have e1 : wrap64 (wrap64 (2 * (q : Int)) + 1) = (j1 : Int) := by rw [w64 (x := 2 * (q : Int)) (by omega) (by omega), w64 (by omega) (by omega)]; omega
    have e2 : wrap64 ((j1 : Int) + 1) = (j2 : Int) := by rw [w64 (by omega) (by omega)]; omega
    have g0 : decide ((j1 : Int) < 0) = false := decide_eq_false (by omega)
    by_cases c1 : n ≤ j1
    · have g1 : decide ((j1 : Int) ≥ (n : Int)) = true := decide_eq_true (by omega)
      have g1' : decide (n ≤ j1) = true := decide_eq_true (by omega)
      have HX := Aside0.mk (And.intro hj1 c1)
      have HQ := Aside0.mk (And.intro hlen (And.intro hq (And.intro hf hle)))
      clear hj1 hj2 c1 hlen hq hf hb h1000 hi hn hle HA
      go_wp2
      go_ret
      refine ⟨⟨_, rfl⟩, ?_, HBw.out⟩
      rw [← HU.out, downI_stop (.inl (by have := HX.out; omega))]
      exact HL.out
    · have g1 : decide ((j1 : Int) ≥ (n : Int)) = false := decide_eq_false (by omega)
      have g1' : decide (n ≤ j1) = false := decide_eq_false (by omega)
      have l1 : j1 < l.length := by omega
      have lq : q < l.length := by omega
      by_cases c2 : j2 < n
      · have g2 : decide ((j2 : Int) < (n : Int)) = true := decide_eq_true (by omega)
        have g2' : decide (j2 < n) = true := decide_eq_true (by omega)
        have l2 : j2 < l.length := by omega
        cases hl : lessR us (rd l (j2 : Int)) (rd l (j1 : Int)) with
        | true =>
          have HC := Aside0.mk (show childI us n l q = j2 by unfold childI; rw [← hj1, ← hj2, if_pos ⟨c2, hl⟩])
          have HLA := Aside0.mk (HL.out.less' HW.out j2 j1 l2 l1 hl)
          have LC := Aside0.mk (show j2 < l.length by omega)
          have LQ := Aside0.mk lq
          have HQ := Aside0.mk (And.intro hlen (And.intro hq (And.intro hf hle)))
          have HCQ := Aside0.mk (show q < j2 ∧ j2 < n ∧ 2 * q + 1 < n by omega)
          clear hl hj1 hj2 c1 c2 hlen hq hf hb h1000 hi hn hle HA l1 l2 lq
          cases hl2 : lessR us (rd l (j2 : Int)) (rd l (q : Int)) with
          | false =>
            have HX2 := Aside0.mk hl2
            clear hl2
            go_wp2_with (first | (go_at_call 61; refine HLA.out.mono ?_; clear HLA; rintro e w' ⟨rfl, hb⟩; have HB1 := Aside0.mk hb; clear hb) | (go_at_call 61; refine ((HL.out.below HB1.out).less' HW.out j2 q LC.out LQ.out HX2.out).mono ?_; rintro e w' ⟨rfl, hb⟩; have HB2 := Aside0.mk hb; clear hb))
            go_ret
            refine ⟨⟨_, rfl⟩, ?_, (HBw.out.trans (Bel.of HB1.out HQ.out.2.2.2)).trans (Bel.of HB2.out (Nat.le_trans HQ.out.2.2.2 HB1.out.size))⟩
            rw [← HU.out, downI_stop (.inr (by rw [HC.out]; exact HX2.out))]
            exact ((HL.out.below HB1.out).below HB2.out)
          | true =>
            have HX2 := Aside0.mk hl2
            clear hl2
            go_wp2_with (first | (go_at_call 61; refine HLA.out.mono ?_; clear HLA; rintro e w' ⟨rfl, hb⟩; have HB1 := Aside0.mk hb; clear hb) | (go_at_call 61; refine ((HL.out.below HB1.out).less' HW.out j2 q LC.out LQ.out HX2.out).mono ?_; rintro e w' ⟨rfl, hb⟩; have HB2 := Aside0.mk hb; clear hb) | (go_at_call 64; refine (((HL.out.below HB1.out).below HB2.out).swap q j2 LQ.out LC.out).mono ?_; rintro e w' ⟨rfl, hI2, hb2⟩; have HI2 := Aside0.mk hI2; have HB3 := Aside0.mk hb2; clear hI2 hb2))
            go_roundw
            case measure =>
              have := HCQ.out
              simp [intOf]
              omega
            case rel =>
              have hQ := HQ.out
              have hCQ := HCQ.out
              obtain ⟨f', rfl⟩ : ∃ f', f = f' + 1 := ⟨f - 1, by omega⟩
              refine ⟨j2, f', swapI l q j2, rfl, ⟨HI2.out, HW.out.swap LQ.out LC.out, by rw [swapI_length]; exact hQ.1, by omega, by omega, ?_, ((HBw.out.trans (Bel.of HB1.out HQ.out.2.2.2)).trans (Bel.of HB2.out (Nat.le_trans HQ.out.2.2.2 HB1.out.size))).trans HB3.out⟩⟩
              rw [← HU.out, downI_go HC.out (by omega) HX2.out]
        | false =>
          have HC := Aside0.mk (show childI us n l q = j1 by unfold childI; rw [← hj1, ← hj2, if_neg (by rw [hl]; simp)])
          have HLA := Aside0.mk (HL.out.less' HW.out j2 j1 l2 l1 hl)
          have LC := Aside0.mk (show j1 < l.length by omega)
          have LQ := Aside0.mk lq
          have HQ := Aside0.mk (And.intro hlen (And.intro hq (And.intro hf hle)))
          have HCQ := Aside0.mk (show q < j1 ∧ j1 < n ∧ 2 * q + 1 < n by omega)
          clear hl hj1 hj2 c1 c2 hlen hq hf hb h1000 hi hn hle HA l1 l2 lq
          cases hl2 : lessR us (rd l (j1 : Int)) (rd l (q : Int)) with
          | false =>
            have HX2 := Aside0.mk hl2
            clear hl2
            go_wp2_with (first | (go_at_call 61; refine HLA.out.mono ?_; clear HLA; rintro e w' ⟨rfl, hb⟩; have HB1 := Aside0.mk hb; clear hb) | (go_at_call 61; refine ((HL.out.below HB1.out).less' HW.out j1 q LC.out LQ.out HX2.out).mono ?_; rintro e w' ⟨rfl, hb⟩; have HB2 := Aside0.mk hb; clear hb))
            go_ret
            refine ⟨⟨_, rfl⟩, ?_, (HBw.out.trans (Bel.of HB1.out HQ.out.2.2.2)).trans (Bel.of HB2.out (Nat.le_trans HQ.out.2.2.2 HB1.out.size))⟩
            rw [← HU.out, downI_stop (.inr (by rw [HC.out]; exact HX2.out))]
            exact ((HL.out.below HB1.out).below HB2.out)
          | true =>
            have HX2 := Aside0.mk hl2
            clear hl2
            go_wp2_with (first | (go_at_call 61; refine HLA.out.mono ?_; clear HLA; rintro e w' ⟨rfl, hb⟩; have HB1 := Aside0.mk hb; clear hb) | (go_at_call 61; refine ((HL.out.below HB1.out).less' HW.out j1 q LC.out LQ.out HX2.out).mono ?_; rintro e w' ⟨rfl, hb⟩; have HB2 := Aside0.mk hb; clear hb) | (go_at_call 64; refine (((HL.out.below HB1.out).below HB2.out).swap q j1 LQ.out LC.out).mono ?_; rintro e w' ⟨rfl, hI2, hb2⟩; have HI2 := Aside0.mk hI2; have HB3 := Aside0.mk hb2; clear hI2 hb2))
            go_roundw
            case measure =>
              have := HCQ.out
              simp [intOf]
              omega
            case rel =>
              have hQ := HQ.out
              have hCQ := HCQ.out
              obtain ⟨f', rfl⟩ : ∃ f', f = f' + 1 := ⟨f - 1, by omega⟩
              refine ⟨j1, f', swapI l q j1, rfl, ⟨HI2.out, HW.out.swap LQ.out LC.out, by rw [swapI_length]; exact hQ.1, by omega, by omega, ?_, ((HBw.out.trans (Bel.of HB1.out HQ.out.2.2.2)).trans (Bel.of HB2.out (Nat.le_trans HQ.out.2.2.2 HB1.out.size))).trans HB3.out⟩⟩
              rw [← HU.out, downI_go HC.out (by omega) HX2.out]
      · have g2 : decide ((j2 : Int) < (n : Int)) = false := decide_eq_false (by omega)
        have g2' : decide (j2 < n) = false := decide_eq_false (by omega)
        have HC := Aside0.mk (show childI us n l q = j1 by unfold childI; rw [← hj1, ← hj2, if_neg (by omega)])
        have LC := Aside0.mk (show j1 < l.length by omega)
        have LQ := Aside0.mk lq
        have HQ := Aside0.mk (And.intro hlen (And.intro hq (And.intro hf hle)))
        have HCQ := Aside0.mk (show q < j1 ∧ j1 < n ∧ 2 * q + 1 < n by omega)
        clear hj1 hj2 c1 c2 hlen hq hf hb h1000 hi hn hle HA l1 lq
        cases hl2 : lessR us (rd l (j1 : Int)) (rd l (q : Int)) with
        | false =>
          have HX2 := Aside0.mk hl2
          clear hl2
          go_wp2_with (first | (go_at_call 61; refine (HL.out.less' HW.out j1 q LC.out LQ.out HX2.out).mono ?_; rintro e w' ⟨rfl, hb⟩; have HB2 := Aside0.mk hb; clear hb))
          go_ret
          refine ⟨⟨_, rfl⟩, ?_, HBw.out.trans (Bel.of HB2.out HQ.out.2.2.2)⟩
          rw [← HU.out, downI_stop (.inr (by rw [HC.out]; exact HX2.out))]
          exact (HL.out.below HB2.out)
        | true =>
          have HX2 := Aside0.mk hl2
          clear hl2
          go_wp2_with (first | (go_at_call 61; refine (HL.out.less' HW.out j1 q LC.out LQ.out HX2.out).mono ?_; rintro e w' ⟨rfl, hb⟩; have HB2 := Aside0.mk hb; clear hb) | (go_at_call 64; refine ((HL.out.below HB2.out).swap q j1 LQ.out LC.out).mono ?_; rintro e w' ⟨rfl, hI2, hb2⟩; have HI2 := Aside0.mk hI2; have HB3 := Aside0.mk hb2; clear hI2 hb2))
          go_roundw
          case measure =>
            have := HCQ.out
            simp [intOf]
            omega
          case rel =>
            have hQ := HQ.out
            have hCQ := HCQ.out
            obtain ⟨f', rfl⟩ : ∃ f', f = f' + 1 := ⟨f - 1, by omega⟩
            refine ⟨j1, f', swapI l q j1, rfl, ⟨HI2.out, HW.out.swap LQ.out LC.out, by rw [swapI_length]; exact hQ.1, by omega, by omega, ?_, (HBw.out.trans (Bel.of HB2.out HQ.out.2.2.2)).trans HB3.out⟩⟩
            rw [← HU.out, downI_go HC.out (by omega) HX2.out]
end Go.Proofs.Ytflponipbdgkeaa.G
