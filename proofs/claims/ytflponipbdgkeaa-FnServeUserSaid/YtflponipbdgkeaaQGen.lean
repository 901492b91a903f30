/-
  The reader that the generators draw from: what it hands out lies in its range.
-/
import Derived.Test.YtflponipbdgkeaaQOk
import Derived.Test.YtflponipbdgkeaaG0
import Derived.Test.YtflponipbdgkeaaG3
namespace Go.Proofs.Ytflponipbdgkeaa.G
open Go.RowKit Go.Proofs.YtflponipbdgkeaaW.PrintWords

/-- What is known of a reader: few bytes, each below 256. -/
structure Rdr (b : List Int) : Prop where
  len : b.length ≤ 2000
  byte : ∀ x, x ∈ b → 0 ≤ x ∧ x ≤ 255

theorem pick_ok {b : List Int} (hb : Rdr b) (k : Nat) (p n : Int) (hk : 1 ≤ k) (h0 : 0 ≤ p) (h1 : p ≤ 1000000) (hn : n ≤ 1000000) :
    Ok (spec_reader_pick.f k b p n) (fun r => r.2 = p + 1 ∧ 0 ≤ r.1 ∧ (1 ≤ n → r.1 < n)) := by
  obtain ⟨m, rfl⟩ : ∃ m, k = m + 1 := ⟨k - 1, by omega⟩
  have hl := hb.len
  have e1 : wrap64 (p + 1) = p + 1 := w64 (by omega) (by omega)
  have e2 : wrap64 (p + 1 - 1) = p := by rw [w64 (by omega) (by omega)]; omega
  unfold spec_reader_pick.f
  by_cases hn1 : n < 1
  · rw [if_pos hn1]
    simp only [spec_reader_pick.j0]
    rw [if_pos trivial, e1]
    exact Ok.some ⟨rfl, by simp, fun h => by omega⟩
  · rw [if_neg hn1]
    by_cases hz : b.length = 0
    · simp only [spec_reader_pick.j0]
      rw [if_pos (by simp [hz]), e1]
      exact Ok.some ⟨rfl, by simp, fun h => by simp; omega⟩
    · simp only [spec_reader_pick.j0]
      rw [if_neg (by simp [hz]), e1, e2]
      by_cases hp : p < (b.length : Int)
      · have hr := hb.byte _ (rd_mem h0 hp)
        rw [if_pos hp, if_pos h0, if_neg (by omega), w64 (by omega) (by omega)]
        exact Ok.some ⟨rfl, Int.tmod_nonneg _ hr.1, fun _ => Int.tmod_lt_of_pos _ (by omega)⟩
      · have a0 : 0 ≤ Int.tmod p (b.length : Int) := Int.tmod_nonneg _ h0
        have a1 : Int.tmod p (b.length : Int) < (b.length : Int) := Int.tmod_lt_of_pos _ (by omega)
        have e3 : wrap64 (p * 7) = p * 7 := w64 (by omega) (by omega)
        have e4 : wrap64 (p * 7 + 3) = p * 7 + 3 := w64 (by omega) (by omega)
        have b0 : 0 ≤ Int.tmod (p * 7 + 3) (b.length : Int) := Int.tmod_nonneg _ (by omega)
        have b1 : Int.tmod (p * 7 + 3) (b.length : Int) < (b.length : Int) := Int.tmod_lt_of_pos _ (by omega)
        rw [if_neg hp, if_neg (by omega), if_pos a0, if_pos a1, e3, e4, if_pos b0, if_pos b1, if_neg (by omega)]
        have r0 := hb.byte _ (rd_mem a0 a1)
        have r1 := hb.byte _ (rd_mem b0 b1)
        have d0 : 0 ≤ Int.tdiv p (b.length : Int) := Int.tdiv_nonneg h0 (by omega)
        have d1 : Int.tdiv p (b.length : Int) ≤ p := Int.tdiv_le_self _ h0
        generalize rd b (Int.tmod p (b.length : Int)) = u at *
        generalize rd b (Int.tmod (p * 7 + 3) (b.length : Int)) = v at *
        generalize Int.tdiv p (b.length : Int) = d at *
        have f1 : wrap64 (wrap64 u * 131) = u * 131 := by rw [w64 (x := u) (by omega) (by omega), w64 (by omega) (by omega)]
        have f2 : wrap64 (wrap64 v * 1117) = v * 1117 := by rw [w64 (x := v) (by omega) (by omega), w64 (by omega) (by omega)]
        have f3 : wrap64 (p * 29) = p * 29 := w64 (by omega) (by omega)
        have f4 : wrap64 (wrap64 d * 53) = d * 53 := by rw [w64 (x := d) (by omega) (by omega), w64 (by omega) (by omega)]
        have f5 : wrap64 (u * 131 + v * 1117) = u * 131 + v * 1117 := w64 (by omega) (by omega)
        have f6 : wrap64 (u * 131 + v * 1117 + p * 29) = u * 131 + v * 1117 + p * 29 := w64 (by omega) (by omega)
        have f7 : wrap64 (u * 131 + v * 1117 + p * 29 + d * 53) = u * 131 + v * 1117 + p * 29 + d * 53 := w64 (by omega) (by omega)
        rw [f1, f2, f3, f4, f5, f6, f7]
        have hx0 : 0 ≤ u * 131 + v * 1117 + p * 29 + d * 53 := by omega
        have hx1 : u * 131 + v * 1117 + p * 29 + d * 53 < 4611686018427387904 := by omega
        generalize u * 131 + v * 1117 + p * 29 + d * 53 = x at *
        have g0 : 0 ≤ Int.tdiv x 64 := Int.tdiv_nonneg hx0 (by omega)
        have g1 : Int.tdiv x 64 ≤ x := Int.tdiv_le_self _ hx0
        have f8 : wrap64 (Int.tdiv x 64) = Int.tdiv x 64 := w64 (by omega) (by omega)
        rw [f8]
        have hx := xor_bound hx0 g0 hx1 (by omega)
        exact Ok.some ⟨rfl, Int.tmod_nonneg _ hx.1, fun _ => Int.tmod_lt_of_pos _ (by omega)⟩

theorem one_ok {b : List Int} (hb : Rdr b) (k : Nat) (p : Int) (l : List Int) (hk : 1 ≤ k) (h0 : 0 ≤ p) (h1 : p ≤ 1000000) (hl : 0 < l.length) (hl2 : l.length ≤ 1000000) :
    Ok (spec_reader_one.f k b p l) (fun r => r.2 = p + 1 ∧ r.1 ∈ l) := by
  unfold spec_reader_one.f
  obtain ⟨r, hr, h2, h3, h4⟩ := pick_ok hb k p (l.length : Int) hk h0 h1 (by omega)
  rw [hr]
  simp only [Option.bind_some]
  have h5 := h4 (by omega)
  rw [if_pos h3, if_pos h5]
  exact Ok.some ⟨h2, rd_mem h3 h5⟩

theorem newReader_ok (l : List Int) (hw : ∀ x, x ∈ l → (Lit.int .u8 x).wf = true) : ∃ b, spec_newReader.f l = some (b, 0) ∧ Rdr b := by
  have hbyte : ∀ x, x ∈ l → 0 ≤ x ∧ x ≤ 255 := by
    intro x hx
    have := hw x hx
    simp [Lit.wf, IntKind.min, IntKind.max, IntKind.signed, IntKind.bits] at this
    omega
  unfold spec_newReader.f
  by_cases h : (l.length : Int) > 2000
  · rw [if_pos h, if_pos (by omega)]
    exact ⟨_, rfl, ⟨by rw [List.length_take]; omega, fun x hx => hbyte x (List.mem_of_mem_take hx)⟩⟩
  · rw [if_neg h]
    exact ⟨_, rfl, ⟨by omega, hbyte⟩⟩
end Go.Proofs.Ytflponipbdgkeaa.G
