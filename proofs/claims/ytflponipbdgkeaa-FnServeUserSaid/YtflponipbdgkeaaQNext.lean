/-
  Who comes next, in the reference; serving, in the reference.
-/
import Derived.Test.YtflponipbdgkeaaHS
import Derived.Test.YtflponipbdgkeaaG0
import Derived.Test.YtflponipbdgkeaaG6
import Derived.Test.YtflponipbdgkeaaG7
namespace Go.Proofs.Ytflponipbdgkeaa.G
open Go.RowKit Go.Proofs.YtflponipbdgkeaaW.PrintWords C
set_option linter.unusedVariables false

/-- Who comes next of the first i. -/
def nextAt (us : List S30) (i : Nat) : Int := match nextGo (uK us) (sK us) (wK us) i with
  | none => -1
  | some a => (a : Int)
theorem nextAt_full (us : List S30) : nextAt us us.length = nextI us := rfl
theorem specNext_l0 (l : List S30) (hok : okAll l) (hl : l.length ≤ 1000) : ∀ (d k i : Nat), i + d = l.length → d < k → spec_next.l0 k l (nextAt l i) (i : Int) = some (nextI l) := by
  intro d
  induction d with
  | zero =>
    intro k i hi hk
    obtain ⟨k, rfl⟩ : ∃ m, k = m + 1 := ⟨k - 1, by omega⟩
    simp only [spec_next.l0]
    rw [if_neg (by omega), show i = l.length by omega, nextAt_full]
  | succ d ih =>
    intro k i hi hk
    obtain ⟨k, rfl⟩ : ∃ m, k = m + 1 := ⟨k - 1, by omega⟩
    simp only [spec_next.l0]
    have hn : wrap64 ((i : Int) + 1) = ((i + 1 : Nat) : Int) := by rw [w64 (by omega) (by omega)]; omega
    have hrec := ih k (i + 1) (by omega) (by omega)
    rw [if_pos (by omega), if_pos (by omega), hn]
    have hs : ∀ j, 0 < wK l j → 0 < sK l j := fun j hj => (hok.waits j hj).2
    cases hg : nextGo (uK l) (sK l) (wK l) i with
    | none =>
      have e0 : nextAt l i = -1 := by unfold nextAt; rw [hg]
      rw [e0]
      by_cases hw : 0 < (rd_T30 l i).f2
      · rw [if_pos hw, if_pos (by decide)]
        have e1 : nextAt l (i + 1) = i := by
          unfold nextAt
          have : nextGo (uK l) (sK l) (wK l) (i + 1) = some i := by
            conv => lhs; unfold nextGo
            rw [hg]
            exact if_pos hw
          rw [this]
        rw [e1] at hrec
        exact hrec
      · rw [if_neg hw]
        have e1 : nextAt l (i + 1) = -1 := by
          unfold nextAt
          have : nextGo (uK l) (sK l) (wK l) (i + 1) = none := by
            conv => lhs; unfold nextGo
            rw [hg]
            exact if_neg hw
          rw [this]
        rw [e1] at hrec
        exact hrec
    | some a =>
      obtain ⟨ha, hwa, _⟩ := nextGo_some hs hg
      have e0 : nextAt l i = a := by unfold nextAt; rw [hg]
      rw [e0]
      by_cases hw : 0 < (rd_T30 l i).f2
      · rw [if_pos hw, if_neg (by omega), if_pos (by omega), if_pos (by omega)]
        have h1 := mul_bound (hok.bound i).2 (hok.bound a).1
        have h2 := mul_bound (hok.bound a).2 (hok.bound i).1
        have ep : spec_poorer.f ((rd_T30 l i).f0) ((rd_T30 l i).f1) ((rd_T30 l i).f2) ((rd_T30 l a).f0) ((rd_T30 l a).f1) ((rd_T30 l a).f2) = some (decide (uK l i * sK l a < uK l a * sK l i)) := by
          unfold spec_poorer.f
          show some (decide (wrap64 (uK l i * sK l a) < wrap64 (uK l a * sK l i))) = _
          rw [w64 (x := uK l i * sK l a) (by omega) (by omega), w64 (x := uK l a * sK l i) (by omega) (by omega)]
        rw [ep, Option.bind_some]
        by_cases hp : uK l i * sK l a < uK l a * sK l i
        · rw [decide_eq_true hp, if_pos rfl]
          have e1 : nextAt l (i + 1) = i := by
            unfold nextAt
            have : nextGo (uK l) (sK l) (wK l) (i + 1) = some i := by
              conv => lhs; unfold nextGo
              rw [hg]
              exact if_pos ⟨hw, hp⟩
            rw [this]
          rw [e1] at hrec
          exact hrec
        · rw [decide_eq_false hp, if_neg (by decide)]
          have e1 : nextAt l (i + 1) = a := by
            unfold nextAt
            have : nextGo (uK l) (sK l) (wK l) (i + 1) = some a := by
              conv => lhs; unfold nextGo
              rw [hg]
              exact if_neg (fun hh => hp hh.2)
            rw [this]
          rw [e1] at hrec
          exact hrec
      · rw [if_neg hw]
        have e1 : nextAt l (i + 1) = a := by
          unfold nextAt
          have : nextGo (uK l) (sK l) (wK l) (i + 1) = some a := by
            conv => lhs; unfold nextGo
            rw [hg]
            exact if_neg (fun hh => hw hh.1)
          rw [this]
        rw [e1] at hrec
        exact hrec
theorem specNext (l : List S30) (hok : okAll l) (hl : l.length ≤ 1000) (k : Nat) (hk : l.length < k) : spec_next.f k l = some (nextI l) := by
  unfold spec_next.f
  exact specNext_l0 l hok hl l.length k 0 (by omega) hk
theorem implNext (l : List S30) : impl_NextUser.f l = some (if vu l = true then nextI l else -1) := rfl
theorem nextI_cases (l : List S30) : (nextN l = none ∧ nextI l = -1) ∨ ∃ a, nextN l = some a ∧ nextI l = (a : Int) := by
  cases h : nextN l with
  | none => exact .inl ⟨rfl, nextI_none h⟩
  | some a => exact .inr ⟨a, rfl, nextI_some h⟩
theorem eqUsers_l0 (l : List S30) (hl : l.length ≤ 1000000) : ∀ (d k i : Nat), i + d = l.length → d < k → laws_equalUsers.l0 k l l (i : Int) = some true := by
  intro d
  induction d with
  | zero =>
    intro k i hi hk
    obtain ⟨k, rfl⟩ : ∃ m, k = m + 1 := ⟨k - 1, by omega⟩
    simp only [laws_equalUsers.l0]
    rw [if_neg (by omega)]
  | succ d ih =>
    intro k i hi hk
    obtain ⟨k, rfl⟩ : ∃ m, k = m + 1 := ⟨k - 1, by omega⟩
    simp only [laws_equalUsers.l0]
    have hn : wrap64 ((i : Int) + 1) = ((i + 1 : Nat) : Int) := by rw [w64 (by omega) (by omega)]; omega
    rw [if_pos (by omega), if_pos (by omega), if_pos (by omega), if_neg (by simp), hn]
    exact ih k (i + 1) (by omega) (by omega)
theorem eqUsers_refl (l : List S30) (hl : l.length ≤ 1000000) (k : Nat) (hk : l.length < k) : laws_equalUsers.f k l l = some true := by
  unfold laws_equalUsers.f
  rw [if_pos rfl]
  exact eqUsers_l0 l hl l.length k 0 (by omega) hk
theorem implServe (l : List S30) (t : Int) : impl_ServeUser.f l t = some (serveR l t) := rfl
theorem mn_eq (a b : Int) : mn a b = if a ≤ b then a else b := by
  unfold mn
  first | rfl | (split <;> split <;> omega)
theorem specServe (l : List S30) (t : Int) (hl : l.length ≤ 2000000) (k : Nat) (hk : l.length < k) : spec_ServeUser.f k l t = some (serveR l t) := by
  unfold spec_ServeUser.f serveR
  rw [specVU' l k (by omega) hk, Option.bind_some]
  by_cases h : vu l = true
  · obtain ⟨hok, h5⟩ := vu_ok h
    rw [if_pos h, inRange_eq, Option.bind_some]
    by_cases ht : 1 ≤ t ∧ t ≤ 20
    · rw [decide_eq_true ht, if_pos rfl, if_pos ⟨h, ht⟩, specNext l hok (by omega) k hk, Option.bind_some]
      rcases nextI_cases l with ⟨hn, e⟩ | ⟨a, hn, e⟩
      · rw [e, if_pos (by decide), hn]
      · obtain ⟨ha, hwa⟩ := nextN_lt hok hn
        have hu := hok.at_ ha
        unfold okU at hu
        rw [e, if_neg (by omega), hn]
        simp only [Option.bind_some, List.nil_append, List.length_nil]
        rw [if_pos (by omega), if_pos (by omega), if_pos (by omega)]
        simp only [Int.toNat_natCast]
        rw [rd_set_eq ha, List.set_set]
        unfold servU
        have e1 : wrap64 ((rd_T30 l a).f1 + t) = (rd_T30 l a).f1 + t := w64 (by omega) (by omega)
        have e2 : wrap64 ((rd_T30 l a).f2 - 1) = (rd_T30 l a).f2 - 1 := w64 (by omega) (by omega)
        simp only [e1, e2, mn_eq]
    · rw [decide_eq_false ht, if_neg (by decide), if_neg (fun hh => ht hh.2)]
  · rw [if_neg h, if_neg (fun hh => h hh.1)]
end Go.Proofs.Ytflponipbdgkeaa.G
