/-
 Several texts in one: QGen, QSpoil, QAny.
-/
import Derived.Test.YtbodhggmhbiebaaDoorQOk
import Derived.Test.YtbodhggmhbiebaaDoorHDraw
import Derived.Test.YtbodhggmhbiebaaDoorG0
import Derived.Test.YtbodhggmhbiebaaDoorG12
import Derived.Test.YtbodhggmhbiebaaDoorG13
/-! The reader that the generators draw from: what it hands out lies in its range. -/
namespace Go.Proofs.YtbodhggmhbiebaaDoor.G
open Go.RowKit Go.Proofs.YtbodhggmhbiebaaDoorW.PrintWords

/-- What is known of a reader: few bytes, each below 256. -/
structure Rdr (b : List Int) : Prop where
 len : b.length ≤ 2000
 byte : ∀ x, x ∈ b → 0 ≤ x ∧ x ≤ 255

theorem pick_ok {b : List Int} (hb : Rdr b) (k : Nat) (p n : Int) (hk : 1 ≤ k) (h0 : 0 ≤ p) (h1 : p ≤ 1000000) (hn : n ≤ 1000000) :
  Ok (spec_reader_pick.f k b p n) (fun r => r.2 = p + 1 ∧ 0 ≤ r.1 ∧ (1 ≤ n → r.1 < n)) := by
 obtain ⟨m, rfl⟩ : ∃ m, k = m + 1 := ⟨k - 1, by omega⟩
 have hl := hb.len
 have e1 : wrap64 (p + 1) = p + 1 := w64 (by omega) (by omega)
 have e2 : wrap64 (p + 1 - 1) = p := by rw [w64 (by omega) (by omega)]; omega
 unfold spec_reader_pick.f
 by_cases hn1 : n < 1
 ·rw [if_pos hn1]
  simp only [spec_reader_pick.j0]
  rw [if_pos trivial, e1]
  exact Ok.some ⟨rfl, by simp, fun h => by omega⟩
 ·rw [if_neg hn1]
  by_cases hz : b.length = 0
  ·simp only [spec_reader_pick.j0]
   rw [if_pos (by simp [hz]), e1]
   exact Ok.some ⟨rfl, by simp, fun h => by simp; omega⟩
  ·simp only [spec_reader_pick.j0]
   rw [if_neg (by simp [hz]), e1, e2]
   by_cases hp : p < (b.length : Int)
   ·have hr := hb.byte _ (rd_mem h0 hp)
    rw [if_pos hp, if_pos h0, if_neg (by omega), w64 (by omega) (by omega)]
    exact Ok.some ⟨rfl, Int.tmod_nonneg _ hr.1, fun _ => Int.tmod_lt_of_pos _ (by omega)⟩
   ·have a0 : 0 ≤ Int.tmod p (b.length : Int) := Int.tmod_nonneg _ h0
    have a1 : Int.tmod p (b.length : Int) < (b.length : Int) := Int.tmod_lt_of_pos _ (by omega)
    have e3 : wrap64 (p * 7) = p * 7 := w64 (by omega) (by omega)
    have e4 : wrap64 (p * 7 + 3) = p * 7 + 3 := w64 (by omega) (by omega)
    have b0 : 0 ≤ Int.tmod (p * 7 + 3) (b.length : Int) := Int.tmod_nonneg _ (by omega)
    have b1 : Int.tmod (p * 7 + 3) (b.length : Int) < (b.length : Int) := Int.tmod_lt_of_pos _ (by omega)
    rw [if_neg hp, if_neg (by omega), if_pos a0, if_pos a1, e3, e4, if_pos b0, if_pos b1, if_neg (by omega)]
    have r0 := hb.byte _ (rd_mem a0 a1)
    have r1 := hb.byte _ (rd_mem b0 b1)
    have d0 : 0 ≤ Int.tdiv p (b.length : Int) := Int.tdiv_nonneg h0 (by omega)
    have d1 : Int.tdiv p (b.length : Int) ≤ p := Int.tdiv_le_self _ h0
    generalize rd b (Int.tmod p (b.length : Int)) = u at *
    generalize rd b (Int.tmod (p * 7 + 3) (b.length : Int)) = v at *
    generalize Int.tdiv p (b.length : Int) = d at *
    have f1 : wrap64 (wrap64 u * 131) = u * 131 := by rw [w64 (x := u) (by omega) (by omega), w64 (by omega) (by omega)]
    have f2 : wrap64 (wrap64 v * 1117) = v * 1117 := by rw [w64 (x := v) (by omega) (by omega), w64 (by omega) (by omega)]
    have f3 : wrap64 (p * 29) = p * 29 := w64 (by omega) (by omega)
    have f4 : wrap64 (wrap64 d * 53) = d * 53 := by rw [w64 (x := d) (by omega) (by omega), w64 (by omega) (by omega)]
    have f5 : wrap64 (u * 131 + v * 1117) = u * 131 + v * 1117 := w64 (by omega) (by omega)
    have f6 : wrap64 (u * 131 + v * 1117 + p * 29) = u * 131 + v * 1117 + p * 29 := w64 (by omega) (by omega)
    have f7 : wrap64 (u * 131 + v * 1117 + p * 29 + d * 53) = u * 131 + v * 1117 + p * 29 + d * 53 := w64 (by omega) (by omega)
    rw [f1, f2, f3, f4, f5, f6, f7]
    have hx0 : 0 ≤ u * 131 + v * 1117 + p * 29 + d * 53 := by omega
    have hx1 : u * 131 + v * 1117 + p * 29 + d * 53 < 4611686018427387904 := by omega
    generalize u * 131 + v * 1117 + p * 29 + d * 53 = x at *
    have g0 : 0 ≤ Int.tdiv x 64 := Int.tdiv_nonneg hx0 (by omega)
    have g1 : Int.tdiv x 64 ≤ x := Int.tdiv_le_self _ hx0
    have f8 : wrap64 (Int.tdiv x 64) = Int.tdiv x 64 := w64 (by omega) (by omega)
    rw [f8]
    have hx := xor_bound hx0 g0 hx1 (by omega)
    exact Ok.some ⟨rfl, Int.tmod_nonneg _ hx.1, fun _ => Int.tmod_lt_of_pos _ (by omega)⟩

theorem one_ok {b : List Int} (hb : Rdr b) (k : Nat) (p : Int) (l : List Int) (hk : 1 ≤ k) (h0 : 0 ≤ p) (h1 : p ≤ 1000000) (hl : 0 < l.length) (hl2 : l.length ≤ 1000000) :
  Ok (spec_reader_one.f k b p l) (fun r => r.2 = p + 1 ∧ r.1 ∈ l) := by
 unfold spec_reader_one.f
 obtain ⟨r, hr, h2, h3, h4⟩ := pick_ok hb k p (l.length : Int) hk h0 h1 (by omega)
 rw [hr]
 simp only [Option.bind_some]
 have h5 := h4 (by omega)
 rw [if_pos h3, if_pos h5]
 exact Ok.some ⟨h2, rd_mem h3 h5⟩

theorem newReader_ok (l : List Int) (hw : ∀ x, x ∈ l → (Lit.int .u8 x).wf = true) : ∃ b, spec_newReader.f l = some (b, 0) ∧ Rdr b := by
 have hbyte : ∀ x, x ∈ l → 0 ≤ x ∧ x ≤ 255 := by
  intro x hx
  have := hw x hx
  simp [Lit.wf, IntKind.min, IntKind.max, IntKind.signed, IntKind.bits] at this
  omega
 unfold spec_newReader.f
 by_cases h : (l.length : Int) > 2000
 ·rw [if_pos h, if_pos (by omega)]
  exact ⟨_, rfl, ⟨by rw [List.length_take]; omega, fun x hx => hbyte x (List.mem_of_mem_take hx)⟩⟩
 ·rw [if_neg h]
  exact ⟨_, rfl, ⟨by omega, hbyte⟩⟩
end Go.Proofs.YtbodhggmhbiebaaDoor.G
/-! The generator's 'spoil': a list that is at most 1 longer. -/
namespace Go.Proofs.YtbodhggmhbiebaaDoor.G
open Go.RowKit Go.Proofs.YtbodhggmhbiebaaDoorW.PrintWords

theorem copyInts_eq (l : List Int) (hl : l.length < 17592186044416) : spec_copyInts.f l = some l := by
 unfold spec_copyInts.f
 simp only [Option.bind_some]
 rw [if_pos (by simpa using hl)]
 simp
theorem spoil_ok {b : List Int} (hb : Rdr b) (k : Nat) (p : Int) (l : List Int) (a : Int) (hk : 1 ≤ k) (h0 : 0 ≤ p) (h1 : p ≤ 999990) (hl : l.length ≤ 1000000) :
  Ok (spec_reader_spoil.f k b p l a) (fun r => r.1.length ≤ l.length + 1 ∧ p ≤ r.2 ∧ r.2 ≤ p + 3 ∧ ∀ x, x ∈ r.1 → x ∈ l ∨ x ∈ [-1, a, 0, 1]) := by
 unfold spec_reader_spoil.f
 rw [copyInts_eq l (by omega), Option.bind_some]
 refine (pick_ok hb k p 20 hk h0 (by omega) (by omega)).bind ?_
 rintro ⟨c, q⟩ ⟨e, c0, c1⟩
 simp only at e c0 c1 ⊢
 by_cases h2 : c = 0
 ·rw [if_pos h2, if_pos (by omega)]
  refine Ok.some ⟨by simp, by omega, by omega, fun x hx => ?_⟩
  rcases List.mem_append.1 hx with hx | hx
  ·exact .inl hx
  ·exact .inr (by rw [List.mem_singleton.1 hx]; simp)
 rw [if_neg h2]
 by_cases h3 : c = 1
 ·rw [if_pos h3]
  by_cases h4 : (l.length : Int) > 0
  ·rw [if_pos h4, if_pos (by omega)]
   exact Ok.some ⟨by rw [List.length_drop]; omega, by omega, by omega, fun x hx => .inl (List.mem_of_mem_drop hx)⟩
  ·rw [if_neg h4]
   exact Ok.some ⟨Nat.le_succ _, by show p ≤ q; omega, by show q ≤ p + 3; omega, fun x hx => .inl hx⟩
 rw [if_neg h3]
 by_cases h5 : c = 2
 ·rw [if_pos h5]
  by_cases h4 : (l.length : Int) > 0
  ·rw [if_pos h4]
   refine (pick_ok hb k q (l.length : Int) hk (by omega) (by omega) (by omega)).bind ?_
   rintro ⟨j, q2⟩ ⟨e2, j0, j1⟩
   simp only at e2 j0 j1 ⊢
   refine (one_ok hb k q2 _ hk (by omega) (by omega) (by simp) (by simp)).bind ?_
   rintro ⟨v, q3⟩ ⟨e3, hv⟩
   simp only at e3 hv ⊢
   rw [if_pos j0, if_pos (j1 (by omega))]
   refine Ok.some ⟨by simp, by omega, by omega, fun x hx => ?_⟩
   rcases List.mem_or_eq_of_mem_set hx with hx | hx
   ·exact .inl hx
   ·exact .inr (by rw [hx]; exact hv)
  ·rw [if_neg h4]
   exact Ok.some ⟨Nat.le_succ _, by show p ≤ q; omega, by show q ≤ p + 3; omega, fun x hx => .inl hx⟩
 ·rw [if_neg h5]
  exact Ok.some ⟨Nat.le_succ _, by show p ≤ q; omega, by show q ≤ p + 3; omega, fun x hx => .inl hx⟩
end Go.Proofs.YtbodhggmhbiebaaDoor.G
/-! What the generators of graphs hand out: some graph there is, and it is small. -/
namespace Go.Proofs.YtbodhggmhbiebaaDoor.G
open Go.RowKit Go.Proofs.YtbodhggmhbiebaaDoorW.PrintWords
set_option linter.unusedVariables false
set_option linter.unusedSimpArgs false

/-- At most n tasks, each with at most m needs. -/
structure Sm (n m : Nat) (l : List S29) : Prop where
 len : l.length ≤ n
 nd : ∀ t, t ∈ l → t.f1.length ≤ m
theorem Sm.mono {n m n' m' : Nat} {l : List S29} (h : Sm n m l) (hn : n ≤ n') (hm : m ≤ m') : Sm n' m' l := ⟨Nat.le_trans h.len hn, fun t ht => Nat.le_trans (h.nd t ht) hm⟩
theorem Sm.snoc {n m : Nat} {l : List S29} {t : S29} (h : Sm n m l) (ht : t.f1.length ≤ m) : Sm (n + 1) m (l ++ [t]) :=
 ⟨by have := h.len; simp; omega, fun u hu => by
  rcases List.mem_append.1 hu with hu | hu
  ·exact h.nd u hu
  ·rw [List.mem_singleton.1 hu]; exact ht⟩
theorem Sm.app {n m n' : Nat} {l l' : List S29} (h : Sm n m l) (h' : Sm n' m l') : Sm (n + n') m (l ++ l') :=
 ⟨by have := h.len; have := h'.len; simp; omega, fun u hu => by
  rcases List.mem_append.1 hu with hu | hu
  ·exact h.nd u hu
  ·exact h'.nd u hu⟩
theorem Sm.set {n m : Nat} {l : List S29} {t : S29} (h : Sm n m l) (i : Nat) (ht : t.f1.length ≤ m) : Sm n m (l.set i t) :=
 ⟨by rw [List.length_set]; exact h.len, fun u hu => by
  rcases List.mem_or_eq_of_mem_set hu with hu | hu
  ·exact h.nd u hu
  ·rw [hu]; exact ht⟩
theorem Sm.rd {n m : Nat} {l : List S29} (h : Sm n m l) (i : Int) : (rd_T29 l i).f1.length ≤ m := by
 unfold rd_T29
 rw [List.getD_eq_getElem?_getD]
 cases e : l[i.toNat]? with
 | none => simp [z29]
 | some t => exact h.nd t (List.mem_of_getElem? e)
theorem turned_l1 {x0 x3 : List S29} {x4 x5 a c d : Int} {L : List Int} (hL : L.length ≤ 8) (h3 : x3.length ≤ 100) : ∀ (j k : Nat) (x7 : List Int), j ≤ L.length → x7.length + j ≤ 8 → j + 1 ≤ k →
  ∃ ns : List Int, ns.length ≤ 8 ∧ spec_turned.l1 k x0 x3 x4 x5 x7 ((j : Int) - 1) a L c d = spec_turned.l0 (k - (j + 1)) x0 (x3 ++ [⟨a, ns, c, d⟩]) x4 (wrap64 (x5 - 1)) := by
 intro j
 induction j with
 | zero =>
  intro k x7 _ h7 hk
  obtain ⟨k, rfl⟩ : ∃ m, k = m + 1 := ⟨k - 1, by omega⟩
  refine ⟨x7, by omega, ?_⟩
  rw [spec_turned.l1, if_neg (by omega), if_pos (by omega)]
  rfl
 | succ j ih =>
  intro k x7 hj h7 hk
  obtain ⟨k, rfl⟩ : ∃ m, k = m + 1 := ⟨k - 1, by omega⟩
  have hn : wrap64 (((j + 1 : Nat) : Int) - 1 - 1) = (j : Int) - 1 := by rw [w64 (by omega) (by omega)]; omega
  obtain ⟨ns, h1, h2⟩ := ih k (x7 ++ [wrap64 (x4 - (rd L (((j + 1 : Nat) : Int) - 1)))]) (by omega) (by simp; omega) (by omega)
  refine ⟨ns, h1, ?_⟩
  rw [spec_turned.l1, if_pos (by omega), if_pos (by omega), if_pos (by omega), if_pos (by omega), hn, h2]
  congr 1
  omega
theorem turned_l0 {x0 : List S29} (h0 : Sm 8 8 x0) {x4 : Int} : ∀ (d k : Nat) (acc : List S29), d ≤ x0.length → Sm (8 - d) 8 acc → 10 * d + 1 ≤ k →
  Ok (spec_turned.l0 k x0 acc x4 ((d : Int) - 1)) (fun r => Sm 8 8 r) := by
 intro d
 induction d with
 | zero =>
  intro k acc _ ha hk
  obtain ⟨k, rfl⟩ : ∃ m, k = m + 1 := ⟨k - 1, by omega⟩
  rw [spec_turned.l0, if_neg (by omega)]
  exact Ok.some (by simpa using ha)
 | succ d ih =>
  intro k acc hd ha hk
  obtain ⟨k, rfl⟩ : ∃ m, k = m + 1 := ⟨k - 1, by omega⟩
  have hl := h0.rd (((d + 1 : Nat) : Int) - 1)
  have h8 := h0.len
  have ha1 := ha.len
  have hn : wrap64 (((((rd_T29 x0 (((d + 1 : Nat) : Int) - 1)).f1).length : Nat) : Int) - 1) = ((((rd_T29 x0 (((d + 1 : Nat) : Int) - 1)).f1).length : Nat) : Int) - 1 := w64 (by omega) (by omega)
  have hn2 : wrap64 (((d + 1 : Nat) : Int) - 1 - 1) = (d : Int) - 1 := by rw [w64 (by omega) (by omega)]; omega
  rw [spec_turned.l0, if_pos (by omega), if_pos (by omega), if_pos (by omega), hn]
  obtain ⟨ns, g1, g2⟩ := turned_l1 (x0 := x0) (x3 := acc) (x4 := x4) (x5 := ((d + 1 : Nat) : Int) - 1) (a := (rd_T29 x0 (((d + 1 : Nat) : Int) - 1)).f0) (c := (rd_T29 x0 (((d + 1 : Nat) : Int) - 1)).f2) (d := (rd_T29 x0 (((d + 1 : Nat) : Int) - 1)).f3) hl (by omega) _ k [] (Nat.le_refl _) (by simpa using hl) (by omega)
  rw [g2, hn2]
  exact ih _ _ (by omega) ((ha.snoc g1).mono (by omega) (Nat.le_refl _)) (by omega)
theorem turned_ok {l : List S29} (h : Sm 8 8 l) (k : Nat) (hk : 100 ≤ k) : Ok (spec_turned.f k l) (fun r => Sm 8 8 r) := by
 unfold spec_turned.f
 have h8 := h.len
 rw [w64 (by omega) (by omega)]
 exact turned_l0 h l.length k [] (Nat.le_refl _) ⟨by simp, by simp⟩ (by omega)
theorem some_l1 {b : List Int} (hb : Rdr b) {x5 : List S29} (h5 : x5.length ≤ 8) {x6 a c d : Int} : ∀ (j k i : Nat) (p : Int) (ns : List Int), i + j = x5.length → ns.length ≤ i → j + 1 < k → 0 ≤ p → p + j ≤ 1000000 →
  ∃ (q : Int) (ns' : List Int), ns'.length ≤ 8 ∧ p ≤ q ∧ q ≤ p + j ∧ spec_someGraph.l1 k x5 x6 (i : Int) b p a ns c d = spec_someGraph.l0 (k - (j + 1)) (x5 ++ [⟨a, ns', c, d⟩]) (wrap64 (x6 - 1)) b q := by
 intro j
 induction j with
 | zero =>
  intro k i p ns hi hn hk h0 h1
  obtain ⟨k, rfl⟩ : ∃ m, k = m + 1 := ⟨k - 1, by omega⟩
  refine ⟨p, ns, by omega, by omega, by omega, ?_⟩
  rw [spec_someGraph.l1, if_neg (by omega), if_pos (by omega)]
  rfl
 | succ j ih =>
  intro k i p ns hi hn hk h0 h1
  obtain ⟨k, rfl⟩ : ∃ m, k = m + 1 := ⟨k - 1, by omega⟩
  obtain ⟨⟨v, q⟩, e1, e2, _⟩ := pick_ok hb k p 3 (by omega) h0 (by omega) (by omega)
  simp only at e2
  have hw : wrap64 ((i : Int) + 1) = ((i + 1 : Nat) : Int) := by rw [w64 (by omega) (by omega)]; rfl
  rw [spec_someGraph.l1, if_pos (by omega), e1]
  simp only [Option.bind_some]
  by_cases hv : v = 0
  ·obtain ⟨q', ns', g1, g2, g3, g4⟩ := ih k (i + 1) q (ns ++ [(i : Int)]) (by omega) (by simp; omega) (by omega) (by omega) (by omega)
   refine ⟨q', ns', g1, by omega, by omega, ?_⟩
   rw [if_pos hv, if_pos (by omega), hw, g4]
   congr 1
   omega
  ·obtain ⟨q', ns', g1, g2, g3, g4⟩ := ih k (i + 1) q ns (by omega) (by omega) (by omega) (by omega) (by omega)
   refine ⟨q', ns', g1, by omega, by omega, ?_⟩
   rw [if_neg hv, hw, g4]
   congr 1
   omega
theorem some_l0 {b : List Int} (hb : Rdr b) : ∀ (d k : Nat) (p : Int) (x5 : List S29), Sm (8 - d) 8 x5 → d ≤ 8 → 12 * d + 120 ≤ k → 0 ≤ p → p + 20 * d ≤ 900000 →
  Ok (spec_someGraph.l0 k x5 (d : Int) b p) (fun r => Sm 8 8 r.1 ∧ p ≤ r.2 ∧ r.2 ≤ p + 20 * d + 1) := by
 intro d
 induction d with
 | zero =>
  intro k p x5 h5 _ hk h0 h1
  obtain ⟨k, rfl⟩ : ∃ m, k = m + 1 := ⟨k - 1, by omega⟩
  rw [spec_someGraph.l0, if_neg (by omega)]
  by_cases hx : (x5.length : Int) > 1
  ·rw [if_pos hx]
   refine (pick_ok hb k p 4 (by omega) h0 (by omega) (by omega)).bind ?_
   rintro ⟨v, q⟩ ⟨e, _⟩
   simp only at e ⊢
   by_cases hv : v = 0
   ·rw [if_pos hv]
    refine (turned_ok (by simpa using h5) k (by omega)).bind ?_
    intro r hr
    exact Ok.some ⟨hr, by show p ≤ q; omega, by show q ≤ _; omega⟩
   ·rw [if_neg hv]
    exact Ok.some ⟨by simpa using h5, by show p ≤ q; omega, by show q ≤ _; omega⟩
  ·rw [if_neg hx]
   exact Ok.some ⟨by simpa using h5, Int.le_refl _, by show p ≤ _; omega⟩
 | succ d ih =>
  intro k p x5 h5 hd hk h0 h1
  obtain ⟨k, rfl⟩ : ∃ m, k = m + 1 := ⟨k - 1, by omega⟩
  have hl5 := h5.len
  rw [spec_someGraph.l0, if_pos (by omega)]
  refine (one_ok hb k p _ (by omega) h0 (by omega) (by simp) (by simp)).bind ?_
  rintro ⟨v1, q1⟩ ⟨e1, _⟩
  simp only at e1 ⊢
  refine (pick_ok hb k q1 3 (by omega) (by omega) (by omega) (by omega)).bind ?_
  rintro ⟨v2, q2⟩ ⟨e2, _⟩
  simp only at e2 ⊢
  refine (pick_ok hb k q2 4 (by omega) (by omega) (by omega) (by omega)).bind ?_
  rintro ⟨v3, q3⟩ ⟨e3, _⟩
  simp only at e3 ⊢
  obtain ⟨q4, ns, g1, g2, g3, g4⟩ := some_l1 hb (x5 := x5) (by omega) (x6 := ((d + 1 : Nat) : Int)) (a := v1) (c := v2) (d := wrap64 (1 + v3)) x5.length k 0 q3 [] (by omega) (by simp) (by omega) (by omega) (by omega)
  have hw : wrap64 (((d + 1 : Nat) : Int) - 1) = (d : Int) := by rw [w64 (by omega) (by omega)]; omega
  rw [show ((0 : Nat) : Int) = 0 from rfl] at g4
  rw [g4, hw]
  refine (ih _ q4 _ ((h5.snoc g1).mono (by omega) (Nat.le_refl _)) (by omega) (by omega) (by omega) (by omega)).mono ?_
  rintro r ⟨h1, h2, h3⟩
  exact ⟨h1, by omega, by omega⟩
theorem someGraph_ok {b : List Int} (hb : Rdr b) (k : Nat) (p : Int) (hk : 300 ≤ k) (h0 : 0 ≤ p) (h1 : p ≤ 800000) :
  Ok (spec_someGraph.f k b p 8) (fun r => Sm 8 8 r.1 ∧ p ≤ r.2 ∧ r.2 ≤ p + 200) := by
 unfold spec_someGraph.f
 refine (one_ok hb k p _ (by omega) h0 (by omega) (by simp) (by simp)).bind ?_
 rintro ⟨v, q⟩ ⟨e, hv⟩
 simp only at e hv ⊢
 have hm : ∃ d : Nat, mn 8 v = (d : Int) ∧ d ≤ 8 := by
  have : 0 ≤ v ∧ v ≤ 8 := by simp at hv; omega
  refine ⟨(mn 8 v).toNat, ?_, ?_⟩ <;> unfold mn <;> split <;> omega
 obtain ⟨d, hd, hd8⟩ := hm
 rw [hd]
 refine (some_l0 hb d k q [] ⟨by simp, by simp⟩ hd8 (by omega) (by omega) (by omega)).mono ?_
 rintro r ⟨h1, h2, h3⟩
 exact ⟨h1, by omega, by omega⟩
theorem anyGraph_ok {b : List Int} (hb : Rdr b) (k : Nat) (p : Int) (hk : 300 ≤ k) (h0 : 0 ≤ p) (h1 : p ≤ 100000) :
  Ok (spec_anyGraph.f k b p) (fun r => Sm 16 10 r.1 ∧ p ≤ r.2 ∧ r.2 ≤ p + 1000) := by
 unfold spec_anyGraph.f
 refine (someGraph_ok hb k p hk h0 (by omega)).bind ?_
 rintro ⟨xs, p1⟩ ⟨hs, e1, e1'⟩
 simp only at e1 e1' hs ⊢
 by_cases hz : xs.length = 0
 ·rw [if_pos hz]
  exact Ok.some ⟨hs.mono (by omega) (by omega), e1, by show p1 ≤ _; omega⟩
 rw [if_neg hz]
 have hl := hs.len
 refine (pick_ok hb k p1 (xs.length : Int) (by omega) (by omega) (by omega) (by omega)).bind ?_
 rintro ⟨kk, p2⟩ ⟨e2, k0, k1⟩
 simp only at e2 k0 k1 ⊢
 refine (pick_ok hb k p2 24 (by omega) (by omega) (by omega) (by omega)).bind ?_
 rintro ⟨c, p3⟩ ⟨e3, _⟩
 simp only at e3 ⊢
 rw [if_pos ⟨k0, k1 (by omega)⟩]
 have hs' : Sm 16 10 xs := hs.mono (by omega) (by omega)
 have hrd := hs.rd kk
 by_cases q0 : c = 0
 ·rw [if_pos q0]
  refine (one_ok hb k p3 _ (by omega) (by omega) (by omega) (by simp) (by simp)).bind ?_
  rintro ⟨v4, p4⟩ ⟨e4, _⟩
  simp only at e4
  exact Ok.some ⟨hs'.set _ (by show List.length _ ≤ 10; exact Nat.le_trans hrd (by omega)), by show p ≤ p4; omega, by show p4 ≤ _; omega⟩
 rw [if_neg q0]
 by_cases q1 : c = 1
 ·rw [if_pos q1, if_pos (by omega)]
  refine (pick_ok hb k p3 (xs.length : Int) (by omega) (by omega) (by omega) (by omega)).bind ?_
  rintro ⟨v4, p4⟩ ⟨e4, _⟩
  simp only at e4 ⊢
  refine (spoil_ok hb k p4 _ 8 (by omega) (by omega) (by omega) (by simp; omega)).bind ?_
  rintro ⟨ys, p5⟩ ⟨e5, e6, e7, _⟩
  simp only at e5 e6 e7
  refine Ok.some ⟨hs'.set _ (by show List.length ys ≤ 10; simp at e5; omega), by show p ≤ p5; omega, by show p5 ≤ _; omega⟩
 rw [if_neg q1]
 by_cases q2 : c = 2
 ·rw [if_pos q2]
  refine (one_ok hb k p3 _ (by omega) (by omega) (by omega) (by simp) (by simp)).bind ?_
  rintro ⟨v4, p4⟩ ⟨e4, _⟩
  simp only at e4
  exact Ok.some ⟨hs'.set _ (by show List.length _ ≤ 10; exact Nat.le_trans hrd (by omega)), by show p ≤ p4; omega, by show p4 ≤ _; omega⟩
 rw [if_neg q2]
 by_cases q3 : c = 3
 ·rw [if_pos q3]
  refine (one_ok hb k p3 _ (by omega) (by omega) (by omega) (by simp) (by simp)).bind ?_
  rintro ⟨v4, p4⟩ ⟨e4, _⟩
  simp only at e4
  exact Ok.some ⟨hs'.set _ (by show List.length _ ≤ 10; exact Nat.le_trans hrd (by omega)), by show p ≤ p4; omega, by show p4 ≤ _; omega⟩
 rw [if_neg q3]
 by_cases q4 : c = 4
 ·rw [if_pos q4, if_pos (by omega)]
  refine (someGraph_ok hb k p3 hk (by omega) (by omega)).bind ?_
  rintro ⟨ys, p4⟩ ⟨hy, e4, e4'⟩
  simp only at hy e4 e4' ⊢
  have hly := hy.len
  rw [if_pos (by omega)]
  exact Ok.some ⟨(hs.app hy).mono (by omega) (by omega), by show p ≤ p4; omega, by show p4 ≤ _; omega⟩
 rw [if_neg q4]
 exact Ok.some ⟨hs', by show p ≤ p3; omega, by show p3 ≤ _; omega⟩
theorem drawStageOf (l : List Int) (hw : ∀ x, x ∈ l → (Lit.int .u8 x).wf = true) : ∃ g, spec_DrawStageOf.f l = some g ∧ Sm 16 10 g := by
 unfold spec_DrawStageOf.f
 obtain ⟨b, hb, hr⟩ := newReader_ok l hw
 obtain ⟨⟨g, p⟩, hg, h1, h2, h3⟩ := anyGraph_ok hr gfuel 0 (by decide) (by omega) (by omega)
 exact ⟨g, by simp only [hb, Option.bind_some, hg], h1⟩
theorem drawStagesOf (l : List Int) (hw : ∀ x, x ∈ l → (Lit.int .u8 x).wf = true) : ∃ g, spec_DrawStagesOf.f l = some g ∧ Sm 16 10 g := by
 unfold spec_DrawStagesOf.f
 obtain ⟨b, hb, hr⟩ := newReader_ok l hw
 obtain ⟨⟨g, p⟩, hg, h1, h2, h3⟩ := anyGraph_ok hr gfuel 0 (by decide) (by omega) (by omega)
 exact ⟨g, by simp only [hb, Option.bind_some, hg], h1⟩
theorem drawUselessNeeds (l : List Int) (hw : ∀ x, x ∈ l → (Lit.int .u8 x).wf = true) : ∃ g, spec_DrawUselessNeeds.f l = some g ∧ Sm 16 10 g := by
 unfold spec_DrawUselessNeeds.f
 obtain ⟨b, hb, hr⟩ := newReader_ok l hw
 obtain ⟨⟨g, p⟩, hg, h1, h2, h3⟩ := anyGraph_ok hr gfuel 0 (by decide) (by omega) (by omega)
 exact ⟨g, by simp only [hb, Option.bind_some, hg], h1⟩
end Go.Proofs.YtbodhggmhbiebaaDoor.G
