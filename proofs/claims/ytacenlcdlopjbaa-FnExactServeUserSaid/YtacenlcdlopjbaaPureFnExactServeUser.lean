/- FnExactServeUser: for all users and times the program's ServeUser returns what the reference returns, leaves its arguments alone, and its result shares no memory with them or with a later result. Nothing is assumed. -/
import Derived.Test.YtacenlcdlopjbaaQExactU
import Derived.Test.YtacenlcdlopjbaaQAll
import Derived.Test.YtacenlcdlopjbaaLFnExactServeUser
import Derived.Test.YtacenlcdlopjbaaG0
import Derived.Test.YtacenlcdlopjbaaG9
import Derived.Test.YtacenlcdlopjbaaLFnExactServeUser
namespace Go.Proofs.Ytacenlcdlopjbaa.G
open Go.RowKit Go.Proofs.YtacenlcdlopjbaaW.PrintWords C

/-- Users that bear the numbers from c on. -/
def MarkedU (l : List S31) (c : Int) (n : Nat) : Prop := ∀ i : Nat, i < n → rd_T31 l (i : Int) = ⟨c + 3 * i, c + 3 * i + 1, c + 3 * i + 2⟩
theorem markedU_l0 : ∀ (d k i : Nat) (c : Int) (l : List S31), l.length ≤ 1048576 → i + d = l.length → d < k → 0 ≤ c → c + 3 * l.length ≤ 1000000000 → MarkedU l c i →
    ∃ l', laws_markUserS.l0 k l (c + 3 * (i : Int)) (i : Int) = some (c + 3 * (l.length : Int), l') ∧ l'.length = l.length ∧ MarkedU l' c l.length := by
  intro d
  induction d with
  | zero =>
    intro k i c l hl hi hk h0 h1 hm
    obtain ⟨k, rfl⟩ : ∃ m, k = m + 1 := ⟨k - 1, by omega⟩
    simp only [laws_markUserS.l0]
    have e : i = l.length := by omega
    rw [if_neg (by omega), e]
    exact ⟨l, rfl, rfl, e ▸ hm⟩
  | succ d ih =>
    intro k i c l hl hi hk h0 h1 hm
    obtain ⟨k, rfl⟩ : ∃ m, k = m + 1 := ⟨k - 1, by omega⟩
    simp only [laws_markUserS.l0, Option.bind_some]
    have hn : wrap64 ((i : Int) + 1) = ((i + 1 : Nat) : Int) := by rw [w64 (by omega) (by omega)]; omega
    have e1 : wrap64 (c + 3 * (i : Int) + 1) = c + 3 * i + 1 := w64 (by omega) (by omega)
    have e2 : wrap64 (c + 3 * (i : Int) + 1 + 1) = c + 3 * i + 2 := by rw [w64 (by omega) (by omega)]; omega
    have e3 : wrap64 (c + 3 * (i : Int) + 2 + 1) = c + 3 * ((i + 1 : Nat) : Int) := by rw [w64 (by omega) (by omega)]; omega
    rw [if_pos (by omega), if_pos (by omega), hn, e1, e2, e3]
    simp only [Int.toNat_natCast]
    have hil : i < l.length := by omega
    simp only [List.set_set, rd_set_eq hil]
    have hL : (l.set i ⟨c + 3 * (i : Int), c + 3 * (i : Int) + 1, c + 3 * (i : Int) + 2⟩).length = l.length := by simp
    have h := ih k (i + 1) c (l.set i ⟨c + 3 * (i : Int), c + 3 * (i : Int) + 1, c + 3 * (i : Int) + 2⟩) (by omega) (by omega) (by omega) h0 (by omega) (fun j hj => by
      by_cases e : j = i
      · subst e
        rw [rd_set_eq hil]
      · rw [rd_set_ne e]
        exact hm j (by omega))
    rw [hL] at h
    exact h
theorem markedU (l : List S31) (k : Nat) (hl : l.length ≤ 1048576) (hk : l.length < k) : ∃ l', laws_markUserS.f k l 1 = some (1 + 3 * (l.length : Int), l') ∧ l'.length = l.length ∧ MarkedU l' 1 l.length := by
  unfold laws_markUserS.f
  have h := markedU_l0 l.length k 0 1 l hl (by omega) hk (by omega) (by omega) (fun j hj => absurd hj (Nat.not_lt_zero _))
  simpa using h
theorem heldU_l0 (l : List S31) (hl : l.length ≤ 1048576) (hm : MarkedU l 1 l.length) : ∀ (d k i : Nat), i + d = l.length → d < k → laws_heldUserS.l0 k l (1 + 3 * (i : Int)) (i : Int) = some (1 + 3 * (l.length : Int)) := by
  intro d
  induction d with
  | zero =>
    intro k i hi hk
    obtain ⟨k, rfl⟩ : ∃ m, k = m + 1 := ⟨k - 1, by omega⟩
    simp only [laws_heldUserS.l0]
    rw [if_neg (by omega), show i = l.length by omega]
  | succ d ih =>
    intro k i hi hk
    obtain ⟨k, rfl⟩ : ∃ m, k = m + 1 := ⟨k - 1, by omega⟩
    simp only [laws_heldUserS.l0]
    have hn : wrap64 ((i : Int) + 1) = ((i + 1 : Nat) : Int) := by rw [w64 (by omega) (by omega)]; omega
    have e1 : wrap64 (1 + 3 * (i : Int) + 1) = 1 + 3 * i + 1 := w64 (by omega) (by omega)
    have e2 : wrap64 (1 + 3 * (i : Int) + 1 + 1) = 1 + 3 * i + 2 := by rw [w64 (by omega) (by omega)]; omega
    have e3 : wrap64 (1 + 3 * (i : Int) + 2 + 1) = 1 + 3 * ((i + 1 : Nat) : Int) := by rw [w64 (by omega) (by omega)]; omega
    rw [if_pos (by omega), if_pos (by omega), hm i (by omega), e1, e2, e3, hn, if_pos rfl, if_pos rfl, if_pos rfl]
    exact ih k (i + 1) (by omega) (by omega)
theorem heldU (l : List S31) (k : Nat) (hl : l.length ≤ 1048576) (hk : l.length < k) (hm : MarkedU l 1 l.length) : laws_heldUserS.f k l 1 = some (1 + 3 * (l.length : Int)) := by
  unfold laws_heldUserS.f
  have h := heldU_l0 l hl hm l.length k 0 (by omega) hk
  simpa using h
theorem pureFnExactServeUser (l : List S49) (a : Int) (hl : l.length ≤ 9223372036854775807) (_ha : (Lit.int .i64 a).wf = true) : ∃ k, laws_FnExactServeUser.f k l a = some true := by
  obtain ⟨K, hK⟩ : ∃ K : Nat, 2000000 ≤ K := ⟨_, Nat.le_refl _⟩
  refine ⟨K + 3, ?_⟩
  unfold laws_FnExactServeUser.f
  rw [szUserS_eq l hl]
  simp only [Option.bind_some]
  by_cases hz : (l.length : Int) ≤ 1048576
  · have hlen : (toU l).length = l.length := toU_length l
    have hf : (serveR (toU l) a).1.length ≤ 1048576 := by
      unfold serveR
      split
      · split
        · simp
        · rw [servU_length]; omega
      · simp
    rw [if_neg (by rw [if_pos hz]; omega), toUserS_eq l (K + 3) (by omega) (by omega)]
    simp only [Option.bind_some]
    rw [specServe _ a (by omega) (K + 3) (by omega)]
    simp only [Option.bind_some]
    rw [implServe]
    simp only [Option.bind_some]
    rw [eqUserS_refl _ (K + 3) (by omega) (by omega)]
    simp only [Option.bind_some, if_true, bne_self_eq_false]
    simp only [laws_FnExactServeUser.j0, Bool.false_eq_true, if_false]
    rw [toUserS_eq l (K + 2) (by omega) (by omega)]
    simp only [Option.bind_some]
    rw [eqUserS_refl _ (K + 2) (by omega) (by omega)]
    simp only [Option.bind_some, if_true]
    obtain ⟨c, l', hm, hc⟩ := markUserS_eq (toU l) (K + 2) (by omega) (by omega)
    rw [hm]
    simp only [Option.bind_some]
    rw [if_neg (by omega), eqUserS_refl _ (K + 2) (by omega) (by omega)]
    simp only [Option.bind_some, if_true, bne_self_eq_false]
    simp only [laws_FnExactServeUser.j1, Bool.false_eq_true, if_false]
    obtain ⟨m, h1, h2, h3⟩ := markedU (serveR (toU l) a).1 (K + 1) (by omega) (by omega)
    rw [h1]
    simp only [Option.bind_some]
    rw [heldU m (K + 1) (by omega) (by omega) (by rw [h2]; exact h3)]
    simp only [Option.bind_some]
    rw [if_neg (by omega), if_pos (by rw [h2]), toUserS_eq l (K + 1) (by omega) (by omega)]
    simp only [Option.bind_some]
    rw [implServe]
    simp only [Option.bind_some]
    rw [eqUserS_refl _ (K + 1) (by omega) (by omega)]
    simp only [Option.bind_some, if_true, bne_self_eq_false]
    simp only [laws_FnExactServeUser.j2, Bool.false_eq_true, if_false]
    rw [heldU m K (by omega) (by omega) (by rw [h2]; exact h3)]
    simp only [Option.bind_some]
    rw [if_neg (by omega), if_pos (by rw [h2])]
  · rw [if_pos (by rw [if_neg hz]; omega)]
end Go.Proofs.Ytacenlcdlopjbaa.G
