/-
  container/heap by hand, over a *line: up.
-/
import Derived.Test.YtflponipbdgkeaaHLess
import Derived.Test.YtflponipbdgkeaaG0
namespace Go.Proofs.Ytflponipbdgkeaa.G
open Go.RowKit Go.Proofs.YtflponipbdgkeaaW.PrintWords Go.Proofs.YtflponipbdgkeaaW.PrintLast Go.Proofs.YtflponipbdgkeaaW.PrintMore
set_option linter.unusedVariables false
set_option linter.unusedSimpArgs false

/-- All who are told are users. -/
def WhoIn (us : List S30) (who : List Int) : Prop := ∀ x, x ∈ who → 0 ≤ x ∧ x < us.length
theorem IsLine.less {ok : Nat → Prop} {b L : Nat} {us : List S30} {who : List Int} {w : World} (h : IsLine ok b w L us who) (hr : WhoIn us who) (i k : Nat) (hi : i < who.length) (hk : k < who.length) :
    Calls Try.prog 61 #[.pointer (some ⟨L, 0, none⟩), .int .i64 i, .int .i64 k] w fun e w' => e = .returned (.bool (lessR us (rd who i) (rd who k))) ∧ Below w.heap.size w w' := by
  obtain ⟨vu, vw, h1, h2, h3, h4⟩ := h
  have hx : rd who (i : Int) ∈ who := rd_mem (by omega) (by omega)
  obtain ⟨U, cu, rfl, _⟩ := slice_own h3 (by intro e; have := hr _ hx; rw [e] at this; simp at this; omega) (by decide)
  obtain ⟨V, cv, rfl, _⟩ := slice_own h4 (by intro e; rw [e] at hi; exact absurd hi (Nat.not_lt_zero _)) (by decide)
  exact less_raw L U V cu cv us who i k w (by rw [cell_blk h1]; rfl) (by rw [cell_blk h1]; rfl) (Kd.R_reads' h4).2.2 (Kd.R_reads' h3).2.2 hi hk hr

def upI (us : List S30) : Nat → List Int → Nat → List Int
  | 0, l, _ => l
  | f + 1, l, j => if (j - 1) / 2 = j ∨ lessR us (rd l j) (rd l ((j - 1) / 2 : Nat)) = false then l else upI us f (swapI l ((j - 1) / 2) j) ((j - 1) / 2)
theorem WhoIn.swap {us : List S30} {who : List Int} (h : WhoIn us who) {i k : Nat} (hi : i < who.length) (hk : k < who.length) : WhoIn us (swapI who i k) := fun x hx => by
  have h1 : rd who (i : Int) ∈ who := rd_mem (by omega) (by omega)
  have h2 : rd who (k : Int) ∈ who := rd_mem (by omega) (by omega)
  unfold swapI at hx
  rcases List.mem_or_eq_of_mem_set hx with hx | rfl
  · rcases List.mem_or_eq_of_mem_set hx with hx | rfl
    · exact h x hx
    · exact h _ h2
  · exact h _ h1
set_option maxHeartbeats 8000000 in
set_option maxRecDepth 1000000 in
theorem up_calls {ok : Nat → Prop} {b L : Nat} {us : List S30} {who : List Int} {w : World} (h : IsLine ok b w L us who) (hr : WhoIn us who) (hb : b ≤ w.heap.size) (hlen : who.length ≤ 1000) (j : Nat) (hj : j < who.length) :
    Calls Try.prog 42 #[.iface 46 (.pointer (some ⟨L, 0, none⟩)), .int .i64 j] w fun e w' => e = .returned (.tuple #[]) ∧ IsLine ok b w' L us (upI us j who j) ∧ Bel ok b w w' := by
  have HI := Aside0.mk h
  have HR := Aside0.mk hr
  have HB := Aside0.mk (And.intro hb (And.intro hlen hj))
  clear h hr hb hlen hj
  go_enter Try.func42, Try.ntmps42
  go_wp2
  go_loopw [1] (fun v1 w' => ∃ (q f : Nat) (l : List Int), v1 = .int .i64 q ∧ Aside0 (IsLine ok b w' L us l ∧ WhoIn us l ∧ l.length = who.length ∧ q < who.length ∧ q ≤ f ∧ upI us f l q = upI us j who j ∧ Bel ok b w w')) (fun v1 _ => (intOf v1).toNat)
  case atStart => exact ⟨j, j, who, rfl, ⟨HI.out, HR.out, rfl, HB.out.2.2, Nat.le_refl _, rfl, Bel.refl _ _ _⟩⟩
  case round =>
    obtain ⟨q, f, l, rfl, HA⟩ := hrel
    have nl := fun (a : Addr) (w : World) => (show (nilAhead 188 46 (.pointer (some a)) "Less").run Try.prog w = .ok (some false) w by kernel_rfl)
    have ml := fun (a : Addr) (w : World) => (show (method 188 46 (.pointer (some a)) "Less").run Try.prog w = .ok (61, .pointer (some a)) w by kernel_rfl)
    have ns := fun (a : Addr) (w : World) => (show (nilAhead 188 46 (.pointer (some a)) "Swap").run Try.prog w = .ok (some false) w by kernel_rfl)
    have ms := fun (a : Addr) (w : World) => (show (method 188 46 (.pointer (some a)) "Swap").run Try.prog w = .ok (64, .pointer (some a)) w by kernel_rfl)
    obtain ⟨HL0, HW0, hlen, hq, hf, hu0, hBw0⟩ := HA.out
    have HL := Aside0.mk HL0
    have HW := Aside0.mk HW0
    have HU := Aside0.mk hu0
    have HBw := Aside0.mk hBw0
    have hw1000 := HB.out.2.1
    clear HL0 HW0 hu0 hBw0 HA
    obtain ⟨p, hpd⟩ : ∃ p, p = (q - 1) / 2 := ⟨_, rfl⟩
    have hp : wrap64 ((wrap64 ((q : Int) - 1)).tdiv 2) = (p : Int) := by
      rw [w64 (x := (q : Int) - 1) (by omega) (by omega)]
      cases q with
      | zero => rw [hpd, show (((0 : Nat) : Int) - 1).tdiv 2 = 0 by decide, w64 (by omega) (by omega)]; rfl
      | succ n =>
        rw [show ((n + 1 : Nat) : Int) - 1 = (n : Int) by omega, Int.tdiv_eq_ediv_of_nonneg (by omega), w64 (by omega) (by omega), hpd]
        simp
    by_cases e : p = q
    · have c1 : ((p : Int) == (q : Int)) = true := by rw [e]; simp
      have HE := Aside0.mk (And.intro e hpd)
      have HQ := Aside0.mk (And.intro hlen (And.intro hq hf))
      clear e hpd hlen hq hf hw1000
      go_wp2
      go_end0
      refine ⟨rfl, ?_, HBw.out⟩
      rw [← HU.out]
      cases f with
      | zero => exact HL.out
      | succ f =>
        unfold upI
        rw [if_pos (.inl (by have := HE.out; omega))]
        exact HL.out
    · have c1 : ((p : Int) == (q : Int)) = false := beq_eq_false_iff_ne.2 (by omega)
      have hpq : p < q := by omega
      have hpl : p < l.length := by omega
      have hql : q < l.length := by omega
      have HQ := Aside0.mk (And.intro hlen (And.intro hq (And.intro hf (And.intro hpd (And.intro hpq (And.intro hpl hql))))))
      clear e hpd hlen hq hf hw1000 hpq hpl hql
      have HLL := Aside0.mk (HL.out.less HW.out q p HQ.out.2.2.2.2.2.2 HQ.out.2.2.2.2.2.1)
      cases hl : lessR us (rd l (q : Int)) (rd l (p : Int)) with
      | false =>
        rw [hl] at HLL
        have HX := Aside0.mk hl
        clear hl
        go_wp2_with (first | (go_at_call 61; refine HLL.out.mono ?_; rintro e w' ⟨rfl, hb⟩; have HB1 := Aside0.mk hb; clear hb))
        go_end0
        refine ⟨rfl, ?_, HBw.out.trans (Bel.of HB1.out (Nat.le_trans HB.out.1 HBw.out.size))⟩
        rw [← HU.out]
        cases f with
        | zero => exact HL.out.below HB1.out
        | succ f =>
          unfold upI
          rw [if_pos (.inr (by rw [← HQ.out.2.2.2.1]; exact HX.out))]
          exact HL.out.below HB1.out
      | true =>
        rw [hl] at HLL
        have HX := Aside0.mk hl
        clear hl
        go_wp2_with (first | (go_at_call 61; refine HLL.out.mono ?_; rintro e w' ⟨rfl, hb⟩; have HB1 := Aside0.mk hb; clear hb) | (go_at_call 64; refine ((HL.out.below HB1.out).swap p q HQ.out.2.2.2.2.2.1 HQ.out.2.2.2.2.2.2).mono ?_; rintro e w' ⟨rfl, hI2, hb2⟩; have HI2 := Aside0.mk hI2; have HB2 := Aside0.mk hb2; clear hI2 hb2))
        go_roundw
        case measure =>
          have := HQ.out
          simp [intOf]
          omega
        case rel =>
          have hQ := HQ.out
          obtain ⟨f', rfl⟩ : ∃ f', f = f' + 1 := ⟨f - 1, by omega⟩
          refine ⟨p, f', swapI l p q, rfl, ⟨HI2.out, HW.out.swap hQ.2.2.2.2.2.1 hQ.2.2.2.2.2.2, by rw [swapI_length]; exact hQ.1, by omega, by omega, ?_, (HBw.out.trans (Bel.of HB1.out (Nat.le_trans HB.out.1 HBw.out.size))).trans HB2.out⟩⟩
          rw [← HU.out]
          conv => rhs; unfold upI
          rw [← hQ.2.2.2.1, if_neg (by rw [HX.out]; simp; omega)]
end Go.Proofs.Ytflponipbdgkeaa.G
