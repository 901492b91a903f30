/-
 ProgressOf by hand.
-/
import Derived.Test.YtgdoajmgheokbaaDoorHDone
import Derived.Test.YtgdoajmgheokbaaDoorG0
import Derived.Test.YtgdoajmgheokbaaDoorG13
namespace Go.Proofs.YtgdoajmgheokbaaDoor.G
open Go.RowKit Go.Proofs.YtgdoajmgheokbaaDoorW.PrintWords Go.Proofs.YtgdoajmgheokbaaDoorW.PrintLast Go.Proofs.YtgdoajmgheokbaaDoorW.PrintMore C
set_option linter.unusedVariables false
set_option linter.unusedSimpArgs false
attribute [local go_sem] Oper.semAt_some

/-- The sum of times of tasks: at least one each, at most twenty each. -/
theorem tsum_bdD {l0 : List S74} (hf : fine l0 = true) : ∀ (L : List Nat) (a : Int), (∀ i, i ∈ L → i < l0.length) → a + (L.length : Int) ≤ L.foldl (fun (s : Int) (i : Nat) => s + (rd_T74 l0 (i : Int)).f0) a ∧ L.foldl (fun (s : Int) (i : Nat) => s + (rd_T74 l0 (i : Int)).f0) a ≤ a + 20 * (L.length : Int)
 | [], a, _ => by simp
 | x :: r, a, h => by
  have ih := tsum_bdD hf r (a + (rd_T74 l0 (x : Int)).f0) (fun i hi => h i (by simp [hi]))
  have hx := fine_time hf (h x (by simp))
  rw [List.foldl_cons, List.length_cons]
  constructor <;> omega
theorem full_elems {n : Nat} (hn : n ≤ 8) : elems (2 ^ n - 1) = List.range n := by
 have h2 : 2 ^ n ≤ 2 ^ 8 := Nat.pow_le_pow_right (by decide) hn
 have h1 := Nat.two_pow_pos n
 refine Bits.elems_eq (P := fun i => i < n) ⟨by omega, fun i => by rw [Nat.testBit_two_pow_sub_one, decide_eq_true_eq]⟩ List.pairwise_lt_range (fun i => List.mem_range)
/-- How far the work is, in thousandths. -/
def prog (l0 : List S74) (l1 : List Int) : Int := if l0.length = 0 then 1000 else Int.tdiv (1000 * tsum l0 (elems (maskGo 0 l1))) (tsum l0 (elems (2 ^ l0.length - 1)))
def impl_ProgressOf.f (l0 : List S74) (l1 : List Int) : Option (Int) := some (if dok l0 l1 = true then prog l0 l1 else -1)
set_option maxHeartbeats 8000000 in
set_option maxRecDepth 1000000 in
theorem progress_yes {A0 A1 : Option Addr} {c0 c1 : Nat} {l0 : List S74} {l1 : List Int} {w : World} (h : dok l0 l1 = true) (hr0 : Kd.C k74 w A0 l0.length l0) (hc0 : l0.length ≤ c0) (hr1 : Kd.C (Kd.int .i64) w A1 l1.length l1) (hc1 : l1.length ≤ c1) (ht : Tab w) :
  Calls Tryd.prog 29 #[.slice A0 l0.length c0, .slice A1 l1.length c1] w fun e w' => e = .returned (.int .i64 (prog l0 l1)) ∧ Below w.heap.size w w' := by
 have HC := Aside0.mk (done_yes h hr0 hc0 hr1 hc1 ht)
 have HT := Aside0.mk ht
 have hg : gok l0 = true ∧ ascB l0.length (-1) l1 = true := by
  unfold dok sok at h
  simp only [Bool.and_eq_true] at h
  exact h.1
 have h8 := gok8 hg.1
 have hml := maskGo_lt h8 hg.2
 have hfine := gok_fine hg.1
 obtain ⟨m, hm⟩ : ∃ m, maskGo 0 l1 = m := ⟨_, rfl⟩
 unfold prog
 rw [hm] at HC hml ⊢
 clear h hr0 hc0 hr1 hc1 ht hm
 by_cases hn : l0.length = 0
 ·rw [if_pos hn]
  clear hg h8 hml hfine
  rw [hn] at HC ⊢
  clear hn
  go_enter Tryd.func29, Tryd.ntmps29
  go_wp2_with (first | (go_at_call 37; refine HC.out.mono ?_; rintro e w1 ⟨g, rfl, hG, hB⟩; have HG := Aside0.mk hG; have HB := Aside0.mk hB; clear hB hG) | (go_at_call 43; refine (size_calls HG.out).mono ?_; rintro e w2 ⟨rfl, hw2⟩; rw [hw2]; clear hw2 w2))
  go_ret
  exact ⟨rfl, HB.out⟩
 ·rw [if_neg hn]
  have hb : ((l0.length : Int) == 0) = false := beq_eq_false_iff_ne.2 (by omega)
  have hal : 2 ^ l0.length - 1 < 2 ^ l0.length := by have := Nat.two_pow_pos l0.length; omega
  have b1 := tsum_bdD hfine (elems m) 0 (fun i hi => elems_lt h8 hml hi)
  have b2 := tsum_bdD hfine (elems (2 ^ l0.length - 1)) 0 (fun i hi => elems_lt h8 hal hi)
  have hl1 := elems_len m
  have hl2 : (elems (2 ^ l0.length - 1)).length = l0.length := by rw [full_elems h8, List.length_range]
  have HT1 := Aside0.mk (fun (b : Nat) (w : World) (g : Nat) (h : IsG b w g l0.length l0 (ndm l0) (ord l0) (bel l0) (abv l0)) (ht : Tab w) => total_calls h h8 (fun i hi => fine_time hfine hi) hml ht)
  have HT2 := Aside0.mk (fun (b : Nat) (w : World) (g : Nat) (h : IsG b w g l0.length l0 (ndm l0) (ord l0) (bel l0) (abv l0)) (ht : Tab w) => total_calls h h8 (fun i hi => fine_time hfine hi) hal ht)
  have HE := Aside0.mk (everything_eq h8)
  have e1 : tsum l0 (elems m) = (elems m).foldl (fun (s : Int) (i : Nat) => s + (rd_T74 l0 (i : Int)).f0) 0 := rfl
  have e2 : tsum l0 (elems (2 ^ l0.length - 1)) = (elems (2 ^ l0.length - 1)).foldl (fun (s : Int) (i : Nat) => s + (rd_T74 l0 (i : Int)).f0) 0 := rfl
  rw [← e1] at b1
  rw [← e2] at b2
  obtain ⟨S, hS⟩ : ∃ S, tsum l0 (elems m) = S := ⟨_, rfl⟩
  obtain ⟨T, hT⟩ : ∃ T, tsum l0 (elems (2 ^ l0.length - 1)) = T := ⟨_, rfl⟩
  rw [hS] at HT1 b1 ⊢
  rw [hT] at HT2 b2 ⊢
  obtain ⟨al, hall⟩ : ∃ a, 2 ^ l0.length - 1 = a := ⟨_, rfl⟩
  rw [hall] at HT2 HE
  have hS0 : 0 ≤ S ∧ S ≤ 320 := by omega
  have hT1 : 1 ≤ T := by omega
  have hw1 : wrap64 (1000 * S) = 1000 * S := w64 (by omega) (by omega)
  have hp0 : 0 ≤ 1000 * S ∧ 1000 * S ≤ 320000 := by omega
  have hTz : T ≠ 0 := by omega
  have hq2 : wrap64 (Int.tdiv (1000 * S) T) = Int.tdiv (1000 * S) T := by
   rw [Int.tdiv_eq_ediv_of_nonneg hp0.1]
   have h1 : 0 ≤ 1000 * S / T := Int.ediv_nonneg hp0.1 (by omega)
   have h2 : 1000 * S / T ≤ 1000 * S := Int.ediv_le_self T hp0.1
   exact w64 (by omega) (by omega)
  clear hp0 hS0
  clear hg h8 hml hfine hal hl1 hl2 e1 e2 b1 b2 hS hT hall hn
  obtain ⟨n, hn⟩ : ∃ n, l0.length = n := ⟨_, rfl⟩
  rw [hn] at HC HT1 HT2 HE hb ⊢
  clear hn
  go_enter Tryd.func29, Tryd.ntmps29
  go_wp2_with (first | (go_at_call 37; refine HC.out.mono ?_; rintro e w1 ⟨g, rfl, hG, hB⟩; have HG := Aside0.mk hG; have HB := Aside0.mk hB; have HTb := Aside0.mk (HT.out.below hB HT.out.pos); clear hB hG) | (go_at_call 43; first | (refine (size_calls HG3.out).mono ?_; rintro e w2 ⟨rfl, hw2⟩; rw [hw2]; clear hw2 w2) | (refine (size_calls HG.out).mono ?_; rintro e w2 ⟨rfl, hw2⟩; rw [hw2]; clear hw2 w2)) | (go_at_call 61; refine (HT2.out _ _ _ HG4.out HT4.out).mono ?_; rintro e w5 ⟨rfl, hB5⟩; have HB5 := Aside0.mk (HB4.out.trans (hB5.mono HB4.out.size)); clear hB5) | (go_at_call 61; refine (HT1.out _ _ _ HG.out HTb.out).mono ?_; rintro e w3 ⟨rfl, hB3⟩; have HG3 := Aside0.mk (HG.out.below hB3); have HB3 := Aside0.mk (HB.out.trans (hB3.mono HB.out.size)); have HT3 := Aside0.mk (HTb.out.below hB3 HTb.out.pos); clear hB3) | (go_at_call 62; refine (impl_everything.calls _ _ _ HE.out).mono ?_; rintro e w4 ⟨rfl, hD4⟩; have HG4 := Aside0.mk (HG3.out.drawn hD4); have HB4 := Aside0.mk (HB3.out.trans (hD4.below.mono HB3.out.size)); have HT4 := Aside0.mk (HT3.out.below hD4.below HT3.out.pos); clear hD4))
  go_ret
  exact ⟨congrArg (fun z => Ending.returned (Value.int .i64 z)) hq2, HB5.out⟩
theorem impl_ProgressOf.calls (A0 : Option Addr) (c0 : Nat) (l0 : List S74) (A1 : Option Addr) (c1 : Nat) (l1 : List Int) (r : Int) (w : World) (hr0 : Kd.C k74 w A0 l0.length l0) (hc0 : l0.length ≤ c0) (hr1 : Kd.C (Kd.int .i64) w A1 l1.length l1) (hc1 : l1.length ≤ c1) (h : impl_ProgressOf.f l0 l1 = some r) (hT_ : Tab w) :
  Calls Tryd.prog 29 #[.slice A0 l0.length c0, .slice A1 l1.length c1] w fun e w' => e = .returned (.int .i64 r) ∧ Below w.heap.size w w' := by
 injection h with h
 subst h
 by_cases c : dok l0 l1 = true
 ·rw [if_pos c]
  exact progress_yes c hr0 hc0 hr1 hc1 hT_
 ·rw [if_neg c]
  have HC := Aside0.mk (done_no (Bool.eq_false_iff.2 c) hr0 hc0 hr1 hc1 hT_)
  clear c hr0 hc0 hr1 hc1 hT_
  go_enter Tryd.func29, Tryd.ntmps29
  go_wp2_with (first | (go_at_call 37; refine HC.out.mono ?_; rintro e w1 ⟨rfl, hB⟩; have HB := Aside0.mk hB; clear hB))
  go_ret
  exact ⟨rfl, HB.out⟩
end Go.Proofs.YtgdoajmgheokbaaDoor.G
