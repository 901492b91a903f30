/-
  *line by hand: what lies in memory; Len and Swap.
-/
import Derived.Test.YtflponipbdgkeaaQOk
import Derived.Deep.LoopGhost
import Derived.BigRegion
import Derived.BigQuiet
import Derived.Test.YtflponipbdgkeaaG0
namespace Go.Proofs.Ytflponipbdgkeaa.G
open Go.RowKit Go.Proofs.YtflponipbdgkeaaW.PrintWords Go.Proofs.YtflponipbdgkeaaW.PrintLast Go.Proofs.YtflponipbdgkeaaW.PrintMore
set_option linter.unusedVariables false
set_option linter.unusedSimpArgs false

theorem cell_blk {w : World} {g t : Nat} {cs : Array Value} (h : w.heap[g]? = some (.cells cs t (0, 0))) (j : Nat) : w.cell? ⟨g, j, none⟩ = cs[j]? := by
  simp [World.cell?, h]
theorem slice_own {α : Type} {d : Kd α} {e : Nat} {w : World} {b : Nat} {ok : Nat → Prop} {v : Value} {xs : List α} (h : d.R e w b ok v xs) (hx : xs ≠ []) (hs : 0 < d.sz) : ∃ g cap, v = .slice (some ⟨g, 0, none⟩) xs.length cap ∧ xs.length ≤ cap ∧ b ≤ g ∧ g < w.heap.size := by
  obtain ⟨A, c, rfl⟩ := Kd.R_slice h
  obtain ⟨_, hc, _⟩ := Kd.R_reads' h
  obtain ⟨inner, ho⟩ := Kd.R_own h
  have hlt := Kd.R_lt h
  obtain ⟨hl, ho⟩ := ho
  rcases ho with ⟨hv, hn⟩ | ⟨g, cap, cur, hv, hb, _⟩
  · injection hv with _ hl0 _
    exact absurd (List.length_eq_zero_iff.1 hl0) hx
  · rw [hv] at hlt ⊢
    injection hv with _ _ hcap
    exact ⟨g, cap, rfl, by omega, hb, hlt g (by simp [Value.ownBlock])⟩

/-- Only blocks that are ok are written, and none below b. -/
structure Bel (ok : Nat → Prop) (b : Nat) (w w' : World) : Prop where
  below : Below b w w'
  off : ∀ k, k < w.heap.size → ¬ ok k → w'.heap[k]? = w.heap[k]?
theorem Bel.refl (ok : Nat → Prop) (b : Nat) (w : World) : Bel ok b w w := ⟨Below.refl b w, fun _ _ _ => rfl⟩
theorem Bel.size {ok : Nat → Prop} {b : Nat} {w w' : World} (h : Bel ok b w w') : w.heap.size ≤ w'.heap.size := h.below.size
theorem Bel.trans {ok : Nat → Prop} {b : Nat} {w w1 w2 : World} (h : Bel ok b w w1) (g : Bel ok b w1 w2) : Bel ok b w w2 :=
  ⟨h.below.trans g.below, fun k hk ho => (g.off k (Nat.lt_of_lt_of_le hk h.size) ho).trans (h.off k hk ho)⟩
theorem Bel.of {ok : Nat → Prop} {b : Nat} {w w' : World} (h : Below w.heap.size w w') (hb : b ≤ w.heap.size) : Bel ok b w w' := ⟨h.mono hb, fun k hk _ => h.block k hk⟩
theorem Bel.setCell {ok : Nat → Prop} {b : Nat} {w w' : World} (h : Bel ok b w w') {p : Addr} (hp : b ≤ p.block) (ho : ok p.block) (v : Value) : Bel ok b w (w'.setCell p v) :=
  ⟨h.below.setCell hp v, fun k hk hn => (Below.heap_setCell w' p v k (fun e => hn (e ▸ ho))).trans (h.off k hk hn)⟩
theorem Bel.drewN {ok : Nat → Prop} {b : Nat} {w w' : World} (h : Bel ok b w w') (n : Nat) : Bel ok b w (w'.drewN n) := ⟨pw_below_drewN h.below n, h.off⟩
theorem Bel.drew {ok : Nat → Prop} {b : Nat} {w w' : World} (h : Bel ok b w w') : Bel ok b w w'.drew := ⟨h.below.drew, h.off⟩
/-- What a *line leads to: two rows of the call's own. -/
def IsLine (ok : Nat → Prop) (b : Nat) (w : World) (L : Nat) (us : List S30) (who : List Int) : Prop :=
  ∃ vu vw, w.heap[L]? = some (.cells #[vu, vw] 50 (0, 0)) ∧ (b ≤ L ∧ ok L) ∧ Kd.R k30 30 w b ok vu us ∧ Kd.R (Kd.int .i64) 3 w b ok vw who
theorem IsLine.below {ok : Nat → Prop} {b : Nat} {w w1 : World} {L : Nat} {us : List S30} {who : List Int} (h : IsLine ok b w L us who) (hb : Below w.heap.size w w1) : IsLine ok b w1 L us who := by
  obtain ⟨vu, vw, h1, h2, h3, h4⟩ := h
  exact ⟨vu, vw, (hb.block L (Array.getElem?_eq_some_iff.1 h1).1).trans h1, h2, Kd.R_below h3 hb, Kd.R_below h4 hb⟩
theorem IsLine.lt {ok : Nat → Prop} {b : Nat} {w : World} {L : Nat} {us : List S30} {who : List Int} (h : IsLine ok b w L us who) : b ≤ L ∧ L < w.heap.size := by
  obtain ⟨vu, vw, h1, h2, _⟩ := h
  exact ⟨h2.1, (Array.getElem?_eq_some_iff.1 h1).1⟩

set_option maxHeartbeats 4000000 in
set_option maxRecDepth 1000000 in
theorem len_calls {ok : Nat → Prop} {b L : Nat} {us : List S30} {who : List Int} {w : World} (h : IsLine ok b w L us who) :
    Calls Try.prog 26 #[.pointer (some ⟨L, 0, none⟩)] w fun e w' => e = .returned (.int .i64 who.length) ∧ w' = w := by
  obtain ⟨vu, vw, h1, h2, h3, h4⟩ := h
  obtain ⟨A, c, rfl⟩ := Kd.R_slice h4
  have hvw : w.cell? ⟨L, 1, none⟩ = some (.slice A who.length c) := by rw [cell_blk h1]; rfl
  clear h1 h2 h3 h4
  go_enter Try.func26, Try.ntmps26
  go_wp2
  go_ret
  exact ⟨rfl, rfl⟩

/-- Two of a list change their places. -/
def swapI (l : List Int) (i k : Nat) : List Int := (l.set i (rd l k)).set k (rd l i)
theorem swapI_length (l : List Int) (i k : Nat) : (swapI l i k).length = l.length := by simp [swapI]
set_option maxHeartbeats 8000000 in
set_option maxRecDepth 1000000 in
theorem swap_raw (L V cv : Nat) (who : List Int) (i k : Nat) (w : World) (hvw : w.cell? ⟨L, 1, none⟩ = some (.slice (some ⟨V, 0, none⟩) who.length cv))
    (hw : Kd.C (Kd.int .i64) w (some ⟨V, 0, none⟩) who.length who) (hfz : ∀ j, w.frozen? ⟨V, j, none⟩ = false) (hne : L ≠ V) (hi : i < who.length) (hk : k < who.length) :
    Calls Try.prog 64 #[.pointer (some ⟨L, 0, none⟩), .int .i64 i, .int .i64 k] w fun e w' => e = .returned (.tuple #[]) ∧ w' = ((w.setCell ⟨V, i, none⟩ (.int .i64 (rd who k))).setCell ⟨V, k, none⟩ (.int .i64 (rd who i))).drew := by
  obtain ⟨ad1, e1, ci⟩ := Kd.at_int hw (i : Int) (by omega) (by omega)
  obtain ⟨ad2, e2, ck⟩ := Kd.at_int hw (k : Int) (by omega) (by omega)
  cases e1
  cases e2
  rw [Int.toNat_natCast, Addr.add_lit, Nat.zero_add] at ci ck
  have fi := hfz i
  have fk := hfz k
  obtain ⟨xi, hxi⟩ : ∃ x, rd who i = x := ⟨_, rfl⟩
  obtain ⟨xk, hxk⟩ : ∃ x, rd who k = x := ⟨_, rfl⟩
  rw [hxi] at ci ⊢
  rw [hxk] at ck ⊢
  have q1 : (i : Int) < (who.length : Int) := by omega
  have q2 : (k : Int) < (who.length : Int) := by omega
  have c2 : (w.setCell ⟨V, i, none⟩ (.int .i64 xk)).cell? ⟨V, k, none⟩ = some (.int .i64 xk) := by
    by_cases e : i = k
    · subst e
      exact World.cell?_setCell_same' _ _ _ (by rw [ci]; rfl)
    · rw [World.cell?_setCell_other _ _ _ _ (by intro h; injection h with _ h _; exact e h)]
      exact ck
  clear hw hfz hi hk hxi hxk
  go_enter Try.func64, Try.ntmps64
  go_wp2
  go_region
  go_wp2
  go_end0
  exact ⟨rfl, rfl⟩
theorem IsLine.swap {ok : Nat → Prop} {b L : Nat} {us : List S30} {who : List Int} {w : World} (h : IsLine ok b w L us who) (i k : Nat) (hi : i < who.length) (hk : k < who.length) :
    Calls Try.prog 64 #[.pointer (some ⟨L, 0, none⟩), .int .i64 i, .int .i64 k] w fun e w' => e = .returned (.tuple #[]) ∧ IsLine ok b w' L us (swapI who i k) ∧ Bel ok b w w' := by
  obtain ⟨vu, vw, h1, h2, h3, h4⟩ := h
  obtain ⟨V, cv, rfl, hcv, hbV, hlt⟩ := slice_own h4 (by intro e; rw [e] at hi; exact absurd hi (Nat.not_lt_zero _)) (by decide)
  obtain ⟨_, _, hC⟩ := Kd.R_reads' h4
  obtain ⟨cells, hVb⟩ := Kd.R_typed h4 V (by simp [Value.ownBlock])
  have hne : L ≠ V := by
    intro e
    rw [e, hVb] at h1
    cases h1
  have hoV : ok V := h4.1 V (by simp [Value.ownBlock])
  refine (swap_raw L V cv who i k w (by rw [cell_blk h1]; rfl) hC (fun j => blk_frozen hVb _) hne hi hk).mono ?_
  rintro e w' ⟨rfl, rfl⟩
  have k1 : Kd.R (Kd.int .i64) 3 (w.setCell ⟨V, i, none⟩ (.int .i64 (rd who k))) b ok (.slice (some ⟨V, 0, none⟩) who.length cv) (who.set i (rd who k)) := by
    have := Kd.R_putn h4 (i : Int) (rd who k)
    rwa [Int.toNat_natCast] at this
  have k2 : Kd.R (Kd.int .i64) 3 ((w.setCell ⟨V, i, none⟩ (.int .i64 (rd who k))).setCell ⟨V, k, none⟩ (.int .i64 (rd who i))) b ok (.slice (some ⟨V, 0, none⟩) who.length cv) (swapI who i k) := by
    have := Kd.R_putn k1 (k : Int) (rd who i)
    rwa [Int.toNat_natCast] at this
  have hV2 := blk_set hVb i (.int .i64 (rd who k))
  refine ⟨rfl, ⟨vu, _, ?_, h2, Kd.R_drew (Kd.R_set (Kd.R_set h3 hVb (by decide) i _) hV2 (by decide) k _), Kd.R_drew k2⟩, ((Bel.refl ok b w).setCell (p := ⟨V, i, none⟩) hbV hoV _).setCell (p := ⟨V, k, none⟩) hbV hoV _ |>.drew⟩
  show ((w.setCell ⟨V, i, none⟩ _).setCell ⟨V, k, none⟩ _).heap[L]? = _
  rw [Below.heap_setCell _ _ _ L hne, Below.heap_setCell _ _ _ L hne]
  exact h1
end Go.Proofs.Ytflponipbdgkeaa.G
