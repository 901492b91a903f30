/-
  Marks on ints: what markIntS and heldIntS answer; markIntS on ints that lie in a block of their own, from a place on.
-/
import Derived.Test.YtflponipbdgkeaaHAR
import Derived.Test.YtflponipbdgkeaaG0
import Derived.Test.YtflponipbdgkeaaG5
namespace Go.Proofs.Ytflponipbdgkeaa.G
open Go.RowKit Go.Proofs.YtflponipbdgkeaaW.PrintWords Go.Proofs.YtflponipbdgkeaaW.PrintLast Go.Proofs.YtflponipbdgkeaaW.PrintMore
set_option linter.unusedVariables false
set_option linter.unusedSimpArgs false

theorem cellB {w : World} {g t : Nat} {cs : Array Value} (h : w.heap[g]? = some (.cells cs t (0, 0))) (j : Nat) : w.cell? ⟨g, j, none⟩ = cs[j]? := blk_cell h j
/-- Behind the marks the first i elements are c, c + 1, .. -/
def MarkedI (l : List Int) (c : Int) (i : Nat) : Prop := ∀ j, j < i → l.getD j 0 = c + j
theorem markI_l0 (c : Int) (hc : 0 ≤ c ∧ c ≤ 4000000000000000000) : ∀ (d k i : Nat) (l : List Int), l.length ≤ 1000000000 → i + d = l.length → d < k → MarkedI l c i →
    ∃ l', laws_markIntS.l0 k l (c + i) (i : Int) = some (c + l.length, l') ∧ l'.length = l.length ∧ MarkedI l' c l.length := by
  intro d
  induction d with
  | zero =>
    intro k i l hl hi hk hm
    obtain ⟨k, rfl⟩ : ∃ m, k = m + 1 := ⟨k - 1, by omega⟩
    simp only [laws_markIntS.l0]
    rw [if_neg (by omega)]
    obtain rfl : i = l.length := by omega
    exact ⟨l, rfl, rfl, hm⟩
  | succ d ih =>
    intro k i l hl hi hk hm
    obtain ⟨k, rfl⟩ : ∃ m, k = m + 1 := ⟨k - 1, by omega⟩
    simp only [laws_markIntS.l0]
    have hn : wrap64 ((i : Int) + 1) = ((i + 1 : Nat) : Int) := by rw [w64 (by omega) (by omega)]; omega
    have hn2 : wrap64 (c + (i : Int) + 1) = c + ((i + 1 : Nat) : Int) := by rw [w64 (by omega) (by omega)]; omega
    rw [if_pos (by omega), if_pos (by omega), hn, hn2, Int.toNat_natCast]
    obtain ⟨l', h1, h2, h3⟩ := ih k (i + 1) (l.set i (c + i)) (by simpa using hl) (by simp; omega) (by omega) (by
      intro j hj
      rw [List.getD_eq_getElem?_getD, List.getElem?_set]
      by_cases e : i = j
      · subst e
        rw [if_pos rfl, if_pos (by omega)]
        rfl
      · rw [if_neg e, ← List.getD_eq_getElem?_getD]
        exact hm j (by omega))
    rw [List.length_set] at h1 h2 h3
    exact ⟨l', h1, h2, h3⟩
theorem markI_eq (l : List Int) (c : Int) (k : Nat) (hc : 0 ≤ c ∧ c ≤ 4000000000000000000) (hl : l.length ≤ 1000000000) (hk : l.length < k) :
    ∃ l', laws_markIntS.f k l c = some (c + l.length, l') ∧ l'.length = l.length ∧ MarkedI l' c l.length := by
  unfold laws_markIntS.f
  have h := markI_l0 c hc l.length k 0 l hl (by omega) hk (fun j hj => absurd hj (by omega))
  simpa using h
theorem heldI_l0 (c : Int) (l : List Int) (hc : 0 ≤ c ∧ c ≤ 1000000000) (hl : l.length ≤ 1000000000) (hm : MarkedI l c l.length) : ∀ (d k i : Nat), i + d = l.length → d < k →
    laws_heldIntS.l0 k l (c + i) (i : Int) = some (c + l.length) := by
  intro d
  induction d with
  | zero =>
    intro k i hi hk
    obtain ⟨k, rfl⟩ : ∃ m, k = m + 1 := ⟨k - 1, by omega⟩
    simp only [laws_heldIntS.l0]
    rw [if_neg (by omega)]
    obtain rfl : i = l.length := by omega
    rfl
  | succ d ih =>
    intro k i hi hk
    obtain ⟨k, rfl⟩ : ∃ m, k = m + 1 := ⟨k - 1, by omega⟩
    simp only [laws_heldIntS.l0]
    have hn : wrap64 ((i : Int) + 1) = ((i + 1 : Nat) : Int) := by rw [w64 (by omega) (by omega)]; omega
    have hn2 : wrap64 (c + (i : Int) + 1) = c + ((i + 1 : Nat) : Int) := by rw [w64 (by omega) (by omega)]; omega
    have hv : rd l (i : Int) = c + (i : Int) := hm i (by omega)
    rw [if_pos (by omega), if_pos (by omega), if_pos hv, hn, hn2]
    exact ih k (i + 1) (by omega) (by omega)
theorem heldI_eq (l : List Int) (c : Int) (k : Nat) (hc : 0 ≤ c ∧ c ≤ 1000000000) (hl : l.length ≤ 1000000000) (hm : MarkedI l c l.length) (hk : l.length < k) :
    laws_heldIntS.f k l c = some (c + l.length) := by
  unfold laws_heldIntS.f
  have h := heldI_l0 c l hc hl hm l.length k 0 (by omega) hk
  simpa using h
theorem held_calls {K n c : Nat} {A : Option Addr} {l : List Int} {mm : Int} {W : World} (hn : l.length = n) (hc : n ≤ c) (hr : Kd.C (Kd.int .i64) W A l.length l) (h : laws_heldIntS.f K l 1 = some mm) :
    Calls Try.prog 16 #[.slice A n c, .int .i64 1] W fun e w' => e = .returned (.int .i64 mm) ∧ Drawn0 W w' := by
  subst hn
  exact laws_heldIntS.calls K A c l 1 mm W hr hc h
theorem RawI.lt {W : World} {B off : Nat} {xs : List Int} (h : RawI W B off xs) : B < W.heap.size := by
  obtain ⟨⟨cs, h1⟩, _⟩ := h
  exact blk_lt h1
theorem RawI.kept {W W' : World} {B off : Nat} {xs : List Int} (h : RawI W B off xs) (he : W'.heap[B]? = W.heap[B]?) : RawI W' B off xs := by
  obtain ⟨⟨cs, h1⟩, h2⟩ := h
  have h3 := he.trans h1
  exact ⟨⟨cs, h3⟩, fun i hi => by rw [cellB h3, ← cellB h1]; exact h2 i hi⟩
theorem RawI.C {W : World} {B off : Nat} {xs : List Int} (h : RawI W B off xs) (hl : xs.length ≤ 9) : Kd.C (Kd.int .i64) W (some ⟨B, off, none⟩) xs.length xs := Kd.C_of_reads (d := (0 : Int)) (h1 := fun _ => rfl) ⟨rfl, by omega, fun _ => ⟨⟨B, off, none⟩, rfl, fun j hj => by rw [Addr.add_lit]; exact h.2 j hj⟩⟩
/-- Marks from 1 on. -/
def ones (n : Nat) : List Int := (List.range n).map (fun (i : Nat) => (1 : Int) + (i : Int))
theorem ones_len (n : Nat) : (ones n).length = n := by simp [ones]
theorem ones_at {n i : Nat} (hi : i < n) : (ones n).getD i 0 = 1 + (i : Int) := by
  unfold ones
  rw [List.getD_eq_getElem?_getD, List.getElem?_map, List.getElem?_range hi]
  rfl
set_option maxHeartbeats 8000000 in
set_option maxRecDepth 1000000 in
theorem markRaw {w0 W : World} {B off n : Nat} {xs : List Int} (hn : xs.length = n) (hn9 : n ≤ 9) (hr : RawI W B off xs) (hb : w0.heap.size ≤ B) (hB : Below w0.heap.size w0 W) :
    Calls Try.prog 15 #[.slice (some ⟨B, off, none⟩) n n, .int .i64 1] W fun e w' => e = .returned (.int .i64 (1 + (n : Int))) ∧ RawI w' B off (ones n) ∧ Below w0.heap.size w0 w' ∧ Kept W w' (fun k => k = B) := by
  obtain ⟨⟨cs, h1⟩, h2⟩ := hr
  have hcell : ∀ j, j < n → ∃ v, cs[off + j]? = some v := fun j hj => ⟨_, by rw [← cellB h1]; exact h2 j (by omega)⟩
  have H1 := Aside0.mk h1
  have HC := Aside0.mk hcell
  have HB := Aside0.mk hB
  have H9 := Aside0.mk (show n ≤ 9 ∧ w0.heap.size ≤ B from ⟨hn9, hb⟩)
  clear h1 h2 hcell hB hn9 hb hn
  go_enter Try.func15, Try.ntmps15
  go_wp2
  go_loopw [1, 5] (fun v1 v5 w' => ∃ i : Nat, v5 = .int .i64 i ∧ v1 = .int .i64 (1 + (i : Int)) ∧ Aside0 (i ≤ n) ∧ Aside0 (∃ cs, w'.heap[B]? = some (.cells cs 3 (0, 0)) ∧ (∀ j, j < n → ∃ v, cs[off + j]? = some v) ∧ ∀ j, j < i → cs[off + j]? = some (.int .i64 (1 + (j : Int)))) ∧ Aside0 (Below w0.heap.size w0 w') ∧ Aside0 (Kept W w' (fun k => k = B))) (fun v1 v5 _ => n - (intOf v5).toNat)
  case atStart => exact ⟨0, rfl, rfl, ⟨Nat.zero_le _⟩, ⟨cs, H1.out, HC.out, fun j hj => by omega⟩, HB, ⟨Kept.refl _ _⟩⟩
  case round =>
    obtain ⟨i, rfl, rfl, HI, HS, HBW, HK⟩ := hrel
    obtain ⟨cs2, g1, g2, g3⟩ := HS.out
    clear HS
    by_cases hlt : i < n
    · obtain ⟨v, hv⟩ := g2 i hlt
      have hc : wr.cell? ⟨B, off + i, none⟩ = some v := (cellB g1 _).trans hv
      have hf := blk_frozen g1 (off + i)
      have q1 : (i : Int) < (n : Int) := by omega
      have w1 : wrap64 ((i : Int) + 1) = (i : Int) + 1 := w64 (by omega) (by have := H9.out.1; omega)
      have w2 : wrap64 (1 + (i : Int) + 1) = 1 + (i : Int) + 1 := w64 (by omega) (by have := H9.out.1; omega)
      have G1 := Aside0.mk g1
      have G2 := Aside0.mk g2
      have G3 := Aside0.mk g3
      have HLT := Aside0.mk hlt
      clear g1 g2 g3 hlt
      go_wp2
      refine ⟨⟨i + 1, by rw [w1]; rfl, by rw [w2]; congr 1, ⟨HLT.out⟩, ⟨_, blk_set G1.out (off + i) _, fun j hj => ?_, fun j hj => ?_⟩, ⟨HBW.out.setCell (p := ⟨B, off + i, none⟩) H9.out.2 _⟩, ⟨by have := HK.out.1; simpa [World.setCell] using this, fun k hk hn => (Below.heap_setCell _ _ _ k hn).trans (HK.out.2 k hk hn)⟩⟩, by rw [w1]; have := HLT.out; simp [intOf]; omega⟩
      · rw [Array.getElem?_setIfInBounds]
        split
        · split
          · exact ⟨_, rfl⟩
          · obtain ⟨v2, h2⟩ := G2.out j hj
            have := (Array.getElem?_eq_some_iff.1 h2).1
            omega
        · exact G2.out j hj
      · rw [Array.getElem?_setIfInBounds]
        by_cases e : j = i
        · subst e
          rw [if_pos rfl, if_pos (Array.getElem?_eq_some_iff.1 hv).1]
        · rw [if_neg (by omega)]
          exact G3.out j (by omega)
    · have q1 : ¬ ((i : Int) < (n : Int)) := by omega
      have hie : i = n := by have := HI.out; omega
      have HX := Aside0.mk (show RawI wr B off (ones n) from ⟨⟨cs2, g1⟩, fun j hj => by
        rw [ones_len] at hj
        rw [cellB g1, ones_at hj]
        exact g3 j (by omega)⟩)
      have HIE := Aside0.mk hie
      clear hie hlt g1 g2 g3
      go_wp2
      go_ret
      exact ⟨by rw [← HIE.out]; rfl, HX.out, HBW.out, HK.out⟩
end Go.Proofs.Ytflponipbdgkeaa.G
