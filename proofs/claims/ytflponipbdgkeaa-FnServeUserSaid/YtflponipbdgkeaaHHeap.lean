/-
  *line by hand: Push, Pop (by hyb/mkpush.py); container/heap by hand, over a *line: Push, Pop, Fix.
-/
import Derived.Test.YtflponipbdgkeaaHUp
import Derived.Test.YtflponipbdgkeaaHDown
import Derived.Test.YtflponipbdgkeaaG0
namespace Go.Proofs.Ytflponipbdgkeaa.G
open Go.RowKit Go.Proofs.YtflponipbdgkeaaW.PrintWords Go.Proofs.YtflponipbdgkeaaW.PrintLast Go.Proofs.YtflponipbdgkeaaW.PrintMore
set_option linter.unusedVariables false
set_option linter.unusedSimpArgs false

theorem len_n {ok : Nat → Prop} {b L : Nat} {us : List S30} {who : List Int} {w : World} (h : IsLine ok b w L us who) {n : Nat} (hn : who.length = n) :
    Calls Try.prog 26 #[.pointer (some ⟨L, 0, none⟩)] w fun e w' => e = .returned (.int .i64 n) ∧ w' = w := by
  rw [← hn]
  exact len_calls h
/-- The rows of the one are none of the other's block, by types. -/
theorem Kd.R_types3 {α β : Type} {d : Kd α} {d' : Kd β} {e e' base : Nat} {w : World} {ok ok' : Nat → Prop} {v v' : Value} {xs : List α} {ys : List β} (h : d.R e w base ok v xs) (h' : d'.R e' w base ok' v' ys) (ht : ∀ q, q ∈ e :: d.E → q ≠ e') : d.R e w base (fun k => ok k ∧ some k ≠ v'.ownBlock) v xs := by
  by_cases hv : ∃ g, v'.ownBlock = some g
  · obtain ⟨g, hg⟩ := hv
    obtain ⟨cells, hc⟩ := Kd.R_typed h' g hg
    exact Kd.R_mono (Kd.R_types h hc ht) (fun k hk => ⟨hk.1, fun e => hk.2 (by rw [hg] at e; injection e)⟩)
  · exact Kd.R_mono h (fun k hk => ⟨hk, fun e => hv ⟨k, e.symm⟩⟩)
set_option maxHeartbeats 8000000 in
set_option maxRecDepth 1000000 in
theorem IsLine.push {ok : Nat → Prop} {b L : Nat} {us : List S30} {who : List Int} {w : World} (h : IsLine ok b w L us who) (hfr : ∀ k, w.heap.size ≤ k → ok k) (hb : b ≤ w.heap.size) (hlen : who.length ≤ 1000) (x : Int) :
    Calls Try.prog 63 #[.pointer (some ⟨L, 0, none⟩), .iface 3 (.int .i64 x)] w fun e w' => e = .returned (.tuple #[]) ∧ IsLine ok b w' L us (who ++ [x]) ∧ Bel ok b w w' := by
  obtain ⟨vu, vw, h1, h2, h3, h4⟩ := h
  go_enter Try.func63, Try.ntmps63
  refine start_ (n := 12) (S := fun w' => Below b w w' ∧ w'.heap[L]? = some (.cells #[vu, vw] 50 (0, 0))) (ds := [11]) #[false, false, false, false, false, false, false, false, false, false, false, false] (by kernel_rfl) rfl rfl ⟨below_drew1 (Below.refl b w), h1⟩ (fun hHeld => ?_)
  have g3 := Kd.R_drew h3
  have g4 := Kd.R_drew h4
  have gsz : b ≤ w.drew.heap.size := hb
  have goff : ∀ k, k < w.heap.size → ¬ ok k → w.drew.heap[k]? = w.heap[k]? := fun _ _ _ => rfl
  clear h1 h3 h4 hb
  generalize w.drew = wa at hHeld g3 g4 gsz goff ⊢
  refine pure_ (i := 0) (N := some 4) (v := ?_) (a' := ?_) #[true, false, false, false, false, false, false, false, false, false, false, false] rfl rfl (by kernel_rfl) (fun _ _ _ h => h) (Or.inl ⟨by rfl, ?_⟩) ?_ ?_
  rotate_left
  · intro w'
    go_simp
    with_reducible rfl
  rotate_left
  · simp only [Act.put, List.setIfInBounds_toArray, List.set_cons_zero, List.set_cons_succ, i64_w, i32_w]
    rfl
  refine pure_ (i := 1) (N := some 5) (v := ?_) (a' := ?_) #[true, true, false, false, false, false, false, false, false, false, false, false] rfl rfl (by kernel_rfl) (fun _ _ _ h => h) (Or.inl ⟨by rfl, ?_⟩) ?_ ?_
  rotate_left
  · intro w'
    go_simp
    with_reducible rfl
  rotate_left
  · simp only [Act.put, List.setIfInBounds_toArray, List.set_cons_zero, List.set_cons_succ, i64_w, i32_w]
    rfl
  refine pure_ (i := 2) (N := some 6) (v := ?_) (a' := ?_) #[true, true, true, false, false, false, false, false, false, false, false, false] rfl rfl (by kernel_rfl) (fun _ _ _ h => h) (Or.inl ⟨by rfl, ?_⟩) ?_ ?_
  rotate_left
  · intro w'
    go_simp
    with_reducible rfl
  rotate_left
  · simp only [Act.put, List.setIfInBounds_toArray, List.set_cons_zero, List.set_cons_succ, i64_w, i32_w]
    rfl
  refine pure_ (i := 3) (N := some 7) (v := ?_) (a' := ?_) #[true, true, true, true, false, false, false, false, false, false, false, false] rfl rfl (by kernel_rfl) (fun _ _ _ h => h) (Or.inl ⟨by rfl, ?_⟩) ?_ ?_
  rotate_left
  · intro w'
    go_simp
    with_reducible rfl
  rotate_left
  · simp only [Act.put, List.setIfInBounds_toArray, List.set_cons_zero, List.set_cons_succ, i64_w, i32_w]
    rfl
  refine take_ (i := 4) (N := some 8) (v := ?_) (a' := ?_) #[true, true, true, true, true, false, false, false, false, false, false, false] rfl rfl (by kernel_rfl) (fun _ _ _ h => h) (Or.inl ⟨by rfl, ?_⟩) hHeld ?_ ?_
  rotate_left
  · intro w' s
    have s0 : w'.cell? ⟨L, 1, none⟩ = some vw := by rw [cell_blk s.2]; rfl
    go_simp
    with_reducible rfl
  rotate_left
  · simp only [Act.put, List.setIfInBounds_toArray, List.set_cons_zero, List.set_cons_succ, i64_w, i32_w]
    rfl
  refine pure_ (i := 5) (N := some 9) (v := ?_) (a' := ?_) #[true, true, true, true, true, true, false, false, false, false, false, false] rfl rfl (by kernel_rfl) (fun _ _ _ h => h) (Or.inl ⟨by rfl, ?_⟩) ?_ ?_
  rotate_left
  · intro w'
    go_simp
    with_reducible rfl
  rotate_left
  · simp only [Act.put, List.setIfInBounds_toArray, List.set_cons_zero, List.set_cons_succ, i64_w, i32_w]
    rfl
  refine pure_ (i := 6) (N := some 10) (v := ?_) (a' := ?_) #[true, true, true, true, true, true, true, false, false, false, false, false] rfl rfl (by kernel_rfl) (fun _ _ _ h => h) (Or.inl ⟨by rfl, ?_⟩) ?_ ?_
  rotate_left
  · intro w'
    have ta := (show (Instr.typeAssert (Value.iface 3 (Value.int IntKind.i64 x)) 20 3 false).run Try.prog w' = .ok (.int .i64 x) w' by kernel_rfl)
    go_simp
    with_reducible rfl
  rotate_left
  · simp only [Act.put, List.setIfInBounds_toArray, List.set_cons_zero, List.set_cons_succ, i64_w, i32_w]
    rfl
  refine one_ (i := 7) (N := some 11) #[true, true, true, true, true, true, true, true, false, false, false, false] rfl rfl (by kernel_rfl) (by decide) (fun K hK => ?_)
  refine value_ (w1 := wa.alloc (.cells #[.int .i64 x] 3)) (v := .slice (some ⟨wa.heap.size, 0, none⟩) 1 1) (by rfl) rfl (by go_simp; try rfl) ?_
  refine hK.out _ _ ⟨hHeld.1.alloc gsz _, al_old hHeld.2⟩ (fun hH2 => ?_)
  clear hK K hH2
  refine norm_ (a' := ?_) ?_ ?_
  rotate_left
  · show Act.put _ (some 11) _ = _
    simp only [Act.put, List.setIfInBounds_toArray, List.set_cons_zero, List.set_cons_succ, i64_w, i32_w]
    rfl
  refine one_ (i := 8) (N := some 12) #[true, true, true, true, true, true, true, true, true, false, false, false] rfl rfl (by kernel_rfl) (by decide) (fun K hK => ?_)
  have hL := (Array.getElem?_eq_some_iff.1 hHeld.2).1
  have hne := Kd.R_ne g4 hHeld.2 (by decide)
  refine Kd.R_append_step (Kd.int .i64) (w0 := w) b (by rfl) (.tmp 8) (.tmp 11) 34 3 (.int .i64 0) 8 rfl Try.underlying34 info3 rfl (by decide) (by decide) vw who x [.int .i64 x] ok (fun _ => False) rfl rfl rfl (fun _ h => h.elim) (fun k hk => hfr k (Nat.le_trans hHeld.1.size hk)) g4 hHeld.1 gsz (by omega) ?_
  intro v1 w1 ho hb1 hg hat
  refine hK.out _ _ ⟨hb1, (hg.block L hL hne).trans hHeld.2⟩ (fun hH2 => ?_)
  clear hK K
  have hB1 : Bel ok b w w1 := ⟨hb1, fun k hk ho' => (hg.block k (Nat.lt_of_lt_of_le hk hHeld.1.size) (fun e => ho' (g4.1 k e.symm))).trans (goff k hk ho')⟩
  have g3' := Kd.R_step (w1 := w1) (Kd.R_types3 g3 g4 (by decide)) (fun k hk hlt => hg.block k hlt hk.2)
  obtain ⟨A1, c1, e1⟩ := Kd.R_slice ho
  rw [e1] at ho ⊢
  clear e1 hat hg g3 g4 hHeld gsz hne hL goff hfr
  refine norm_ (a' := ?_) ?_ ?_
  rotate_left
  · show Act.put _ (some 12) _ = _
    simp only [Act.put, List.setIfInBounds_toArray, List.set_cons_zero, List.set_cons_succ, i64_w, i32_w]
    rfl
  refine pure_ (i := 9) (N := some 13) (v := ?_) (a' := ?_) #[true, true, true, true, true, true, true, true, true, true, false, false] rfl rfl (by kernel_rfl) (fun _ _ _ h => h) (Or.inl ⟨by rfl, ?_⟩) ?_ ?_
  rotate_left
  · intro w'
    go_simp
    with_reducible rfl
  rotate_left
  · simp only [Act.put, List.setIfInBounds_toArray, List.set_cons_zero, List.set_cons_succ, i64_w, i32_w]
    rfl
  refine pure_ (i := 10) (N := some 14) (v := ?_) (a' := ?_) #[true, true, true, true, true, true, true, true, true, true, true, false] rfl rfl (by kernel_rfl) (fun _ _ _ h => h) (Or.inl ⟨by rfl, ?_⟩) ?_ ?_
  rotate_left
  · intro w'
    go_simp
    with_reducible rfl
  rotate_left
  · simp only [Act.put, List.setIfInBounds_toArray, List.set_cons_zero, List.set_cons_succ, i64_w, i32_w]
    rfl
  refine last_ (i := 11) (N := none) #[true, true, true, true, true, true, true, true, true, true, true, true] rfl rfl (by kernel_rfl) (by decide) (fun K hK => ?_)
  have s0 : w1.cell? ⟨L, 1, none⟩ = some vw := by rw [cell_blk hH2.2]; rfl
  have s1 : w1.frozen? ⟨L, 1, none⟩ = false := blk_frozen hH2.2 _
  refine skip_ (w1 := w1.setCell ⟨L, 1, none⟩ (.slice A1 (who ++ [x]).length c1)) (by rfl) rfl (by go_simp; try rfl) ?_
  refine hK.out _ _ ?_
  refine done_ (by kernel_rfl) ?_
  clear s0 s1 hK K
  go_end0
  refine ⟨rfl, ⟨vu, _, ?_, h2, Kd.R_mono (Kd.R_set g3' hH2.2 (by decide) 1 _) (fun _ hk => hk.1), Kd.R_set ho hH2.2 (by decide) 1 _⟩, hB1.setCell (p := ⟨L, 1, none⟩) h2.1 h2.2 _⟩
  exact (blk_set hH2.2 1 _).trans rfl
set_option maxHeartbeats 8000000 in
set_option maxRecDepth 1000000 in
theorem pop_raw (L V cv n : Nat) (who : List Int) (w : World) (hn : who.length = n + 1) (hcv : n + 1 ≤ cv) (hvw : w.cell? ⟨L, 1, none⟩ = some (.slice (some ⟨V, 0, none⟩) (n + 1) cv)) (hfz : w.frozen? ⟨L, 1, none⟩ = false)
    (hw : Kd.C (Kd.int .i64) w (some ⟨V, 0, none⟩) (n + 1) who) (hlen : n ≤ 1000) :
    Calls Try.prog 62 #[.pointer (some ⟨L, 0, none⟩)] w fun e w' => e = .returned (.iface 3 (.int .i64 (rd who n))) ∧ ∃ q, w' = (w.setCell ⟨L, 1, none⟩ (.slice (some ⟨V, 0, none⟩) n cv)).drewN q := by
  obtain ⟨ad1, e1, ci⟩ := Kd.at_int hw (n : Int) (by omega) (by omega)
  cases e1
  rw [Int.toNat_natCast, Addr.add_lit, Nat.zero_add] at ci
  obtain ⟨xi, hxi⟩ : ∃ x, rd who n = x := ⟨_, rfl⟩
  rw [hxi] at ci ⊢
  obtain ⟨m, hm⟩ : ∃ m, m = n + 1 := ⟨_, rfl⟩
  rw [← hm] at hvw
  have e1 : wrap64 ((m : Int) - 1) = (n : Int) := by rw [w64 (by omega) (by omega)]; omega
  have q1 : (n : Int) < (m : Int) := by omega
  have q2 : (n : Int) ≤ (cv : Int) := by omega
  have q3 : n ≤ cv := by omega
  clear hw hxi hn hm
  go_enter Try.func62, Try.ntmps62
  go_wp2
  go_region
  go_wp2
  go_region
  go_wp2
  go_ret
  exact ⟨rfl, 2, rfl⟩
theorem IsLine.pop {ok : Nat → Prop} {b L : Nat} {us : List S30} {who : List Int} {w : World} (h : IsLine ok b w L us who) (n : Nat) (hn : who.length = n + 1) (hlen : n ≤ 1000) :
    Calls Try.prog 62 #[.pointer (some ⟨L, 0, none⟩)] w fun e w' => e = .returned (.iface 3 (.int .i64 (rd who n))) ∧ IsLine ok b w' L us (who.take n) ∧ Bel ok b w w' := by
  obtain ⟨vu, vw, h1, h2, h3, h4⟩ := h
  obtain ⟨V, cv, rfl, hcv, hbV, hlt⟩ := slice_own h4 (by intro e; rw [e] at hn; simp at hn) (by decide)
  have hC := (Kd.R_reads' h4).2.2
  rw [hn] at hC hcv
  refine (pop_raw L V cv n who w hn hcv (by rw [cell_blk h1, hn]; rfl) (blk_frozen h1 _) hC hlen).mono ?_
  rintro e w' ⟨rfl, q, rfl⟩
  have k4 := Kd.R_take h4 (m := n) (by omega)
  refine ⟨rfl, ⟨vu, .slice (some ⟨V, 0, none⟩) n cv, ?_, h2, Kd.R_drewN (Kd.R_set h3 h1 (by decide) 1 _) _, ?_⟩, ((Bel.refl ok b w).setCell (p := ⟨L, 1, none⟩) h2.1 h2.2 _).drewN _⟩
  · exact (blk_drewN (blk_set h1 1 _) _).trans rfl
  · have k5 := Kd.R_drewN (Kd.R_set k4 h1 (by decide) 1 (.slice (some ⟨V, 0, none⟩) n cv)) q
    exact k5

theorem downI_length (us : List S30) (n : Nat) : ∀ (f : Nat) (l : List Int) (i : Nat), (downI us n f l i).length = l.length
  | 0, l, i => rfl
  | f + 1, l, i => by
    unfold downI
    split
    · rfl
    · rw [downI_length us n f, swapI_length]
theorem childI_lt {us : List S30} {n : Nat} {l : List Int} {i : Nat} (h : 2 * i + 1 < n) : childI us n l i < n := by
  unfold childI
  split <;> omega
theorem WhoIn.down {us : List S30} {n : Nat} : ∀ (f : Nat) {l : List Int} (i : Nat), WhoIn us l → n ≤ l.length → i < l.length → WhoIn us (downI us n f l i)
  | 0, l, i, h, _, _ => h
  | f + 1, l, i, h, hn, hi => by
    unfold downI
    by_cases hc : n ≤ 2 * i + 1 ∨ lessR us (rd l (childI us n l i : Nat)) (rd l i) = false
    · rw [if_pos hc]
      exact h
    · rw [if_neg hc]
      have h1 : 2 * i + 1 < n := by
        rcases Nat.lt_or_ge (2 * i + 1) n with h1 | h1
        · exact h1
        · exact absurd (.inl h1) hc
      have h2 := childI_lt (us := us) (l := l) h1
      exact WhoIn.down f _ (h.swap hi (by omega)) (by rw [swapI_length]; exact hn) (by rw [swapI_length]; omega)
theorem IsLine.swap0 {ok : Nat → Prop} {b L : Nat} {us : List S30} {who : List Int} {w : World} (h : IsLine ok b w L us who) (k : Nat) (hk : k < who.length) :
    Calls Try.prog 64 #[.pointer (some ⟨L, 0, none⟩), .int .i64 0, .int .i64 k] w fun e w' => e = .returned (.tuple #[]) ∧ IsLine ok b w' L us (swapI who 0 k) ∧ Bel ok b w w' :=
  h.swap 0 k (by omega) hk
theorem down0_calls {ok : Nat → Prop} {b L : Nat} {us : List S30} {who : List Int} {w : World} (h : IsLine ok b w L us who) (hr : WhoIn us who) (hb : b ≤ w.heap.size) (hlen : who.length ≤ 1000) (n : Nat) (hn : n ≤ who.length) :
    Calls Try.prog 43 #[.iface 46 (.pointer (some ⟨L, 0, none⟩)), .int .i64 0, .int .i64 n] w fun e w' => (∃ r : Bool, e = .returned (.bool r)) ∧ IsLine ok b w' L us (downI us n n who 0) ∧ Bel ok b w w' :=
  down_calls h hr hb hlen 0 n (by omega) hn
theorem up0_calls {ok : Nat → Prop} {b L : Nat} {us : List S30} {who : List Int} {w : World} (h : IsLine ok b w L us who) (hr : WhoIn us who) (hb : b ≤ w.heap.size) (hlen : who.length ≤ 1000) (hj : 0 < who.length) :
    Calls Try.prog 42 #[.iface 46 (.pointer (some ⟨L, 0, none⟩)), .int .i64 0] w fun e w' => e = .returned (.tuple #[]) ∧ IsLine ok b w' L us who ∧ Bel ok b w w' :=
  up_calls h hr hb hlen 0 hj
set_option maxHeartbeats 8000000 in
set_option maxRecDepth 1000000 in
theorem heapPush_calls {ok : Nat → Prop} {b L : Nat} {us : List S30} {who : List Int} {w : World} (h : IsLine ok b w L us who) (hfr : ∀ k, w.heap.size ≤ k → ok k) (hr : WhoIn us who) (hb : b ≤ w.heap.size) (n : Nat) (hn : who.length = n) (hlen : n ≤ 999) (x : Int) (hx : 0 ≤ x ∧ x < us.length) :
    Calls Try.prog 35 #[.iface 46 (.pointer (some ⟨L, 0, none⟩)), .iface 3 (.int .i64 x)] w fun e w' => e = .returned (.tuple #[]) ∧ IsLine ok b w' L us (upI us n (who ++ [x]) n) ∧ Bel ok b w w' := by
  have nl := fun (a : Addr) (w : World) => (show (nilAhead 188 46 (.pointer (some a)) "Push").run Try.prog w = .ok (some false) w by kernel_rfl)
  have ml := fun (a : Addr) (w : World) => (show (method 188 46 (.pointer (some a)) "Push").run Try.prog w = .ok (63, .pointer (some a)) w by kernel_rfl)
  have ns := fun (a : Addr) (w : World) => (show (nilAhead 188 46 (.pointer (some a)) "Len").run Try.prog w = .ok (some false) w by kernel_rfl)
  have ms := fun (a : Addr) (w : World) => (show (method 188 46 (.pointer (some a)) "Len").run Try.prog w = .ok (26, .pointer (some a)) w by kernel_rfl)
  obtain ⟨m, hm⟩ : ∃ m, m = n + 1 := ⟨_, rfl⟩
  have e1 : wrap64 ((m : Int) - 1) = (n : Int) := by rw [w64 (by omega) (by omega)]; omega
  have HI := Aside0.mk h
  have HW := Aside0.mk (show WhoIn us (who ++ [x]) from fun y hy => by
    rcases List.mem_append.1 hy with hy | hy
    · exact hr y hy
    · rw [List.mem_singleton] at hy
      rw [hy]
      exact hx)
  have HB := Aside0.mk hb
  have HN := Aside0.mk (show (who ++ [x]).length = m by simp; omega)
  have HQ := Aside0.mk (show who.length ≤ 1000 by omega)
  have HFR := Aside0.mk hfr
  clear hfr
  have HM := Aside0.mk (show m ≤ 1000 ∧ n < m by omega)
  clear h hr hb hn hx hm hlen
  go_enter Try.func35, Try.ntmps35
  go_wp2_with (first | (go_at_call 63; refine (HI.out.push HFR.out HB.out HQ.out x).mono ?_; rintro e w' ⟨rfl, hI, hb⟩; have HI1 := Aside0.mk hI; have HB1 := Aside0.mk hb; clear hI hb) | (go_at_call 26; refine (len_n HI1.out HN.out).mono ?_; rintro e w' ⟨rfl, rfl⟩) | (go_at_call 42; refine (up_calls HI1.out HW.out (Nat.le_trans HB.out HB1.out.size) (by rw [HN.out]; exact HM.out.1) n (by rw [HN.out]; exact HM.out.2)).mono ?_; rintro e w' ⟨rfl, hI2, hb2⟩; have HI2 := Aside0.mk hI2; have HB2 := Aside0.mk hb2; clear hI2 hb2))
  go_end0
  exact ⟨rfl, HI2.out, HB1.out.trans HB2.out⟩
set_option maxHeartbeats 8000000 in
set_option maxRecDepth 1000000 in
theorem heapPop_calls {ok : Nat → Prop} {b L : Nat} {us : List S30} {who : List Int} {w : World} (h : IsLine ok b w L us who) (hr : WhoIn us who) (hb : b ≤ w.heap.size) (n : Nat) (hn : who.length = n + 1) (hlen : n ≤ 999) :
    Calls Try.prog 36 #[.iface 46 (.pointer (some ⟨L, 0, none⟩))] w fun e w' => (∃ v, e = .returned v) ∧ IsLine ok b w' L us ((downI us n n (swapI who 0 n) 0).take n) ∧ Bel ok b w w' := by
  have nl := fun (a : Addr) (w : World) => (show (nilAhead 188 46 (.pointer (some a)) "Pop").run Try.prog w = .ok (some false) w by kernel_rfl)
  have ml := fun (a : Addr) (w : World) => (show (method 188 46 (.pointer (some a)) "Pop").run Try.prog w = .ok (62, .pointer (some a)) w by kernel_rfl)
  have ns := fun (a : Addr) (w : World) => (show (nilAhead 188 46 (.pointer (some a)) "Len").run Try.prog w = .ok (some false) w by kernel_rfl)
  have ms := fun (a : Addr) (w : World) => (show (method 188 46 (.pointer (some a)) "Len").run Try.prog w = .ok (26, .pointer (some a)) w by kernel_rfl)
  have nt := fun (a : Addr) (w : World) => (show (nilAhead 188 46 (.pointer (some a)) "Swap").run Try.prog w = .ok (some false) w by kernel_rfl)
  have mt := fun (a : Addr) (w : World) => (show (method 188 46 (.pointer (some a)) "Swap").run Try.prog w = .ok (64, .pointer (some a)) w by kernel_rfl)
  obtain ⟨m, hm⟩ : ∃ m, m = n + 1 := ⟨_, rfl⟩
  have e1 : wrap64 ((m : Int) - 1) = (n : Int) := by rw [w64 (by omega) (by omega)]; omega
  have HI := Aside0.mk h
  have HW := Aside0.mk (hr.swap (i := 0) (k := n) (by omega) (by omega))
  have HB := Aside0.mk hb
  have HN := Aside0.mk (show who.length = m by omega)
  have HK := Aside0.mk (show n < who.length by omega)
  have HS := Aside0.mk (show (swapI who 0 n).length = n + 1 by rw [swapI_length]; exact hn)
  have HD := Aside0.mk (show (downI us n n (swapI who 0 n) 0).length = n + 1 by rw [downI_length, swapI_length]; exact hn)
  have HL := Aside0.mk (show n ≤ 1000 by omega)
  have HL1 := Aside0.mk (show n + 1 ≤ 1000 ∧ n ≤ n + 1 by omega)
  clear h hr hb hn hm hlen
  go_enter Try.func36, Try.ntmps36
  go_wp2_with (first | (go_at_call 26; refine (len_n HI.out HN.out).mono ?_; rintro e w' ⟨rfl, rfl⟩) | (go_at_call 64; refine (HI.out.swap0 n HK.out).mono ?_; rintro e w' ⟨rfl, hI, hb⟩; have HI1 := Aside0.mk hI; have HB1 := Aside0.mk hb; clear hI hb) | (go_at_call 43; refine (down0_calls HI1.out HW.out (Nat.le_trans HB.out HB1.out.size) (by rw [HS.out]; exact HL1.out.1) n (by rw [HS.out]; exact HL1.out.2)).mono ?_; rintro e w' ⟨⟨rb, rfl⟩, hI2, hb2⟩; have HI2 := Aside0.mk hI2; have HB2 := Aside0.mk hb2; clear hI2 hb2) | (go_at_call 62; refine (HI2.out.pop n HD.out HL.out).mono ?_; rintro e w' ⟨rfl, hI3, hb3⟩; have HI3 := Aside0.mk hI3; have HB3 := Aside0.mk hb3; clear hI3 hb3))
  go_ret
  exact ⟨⟨_, rfl⟩, HI3.out, (HB1.out.trans HB2.out).trans HB3.out⟩
set_option maxHeartbeats 8000000 in
set_option maxRecDepth 1000000 in
theorem heapFix_calls {ok : Nat → Prop} {b L : Nat} {us : List S30} {who : List Int} {w : World} (h : IsLine ok b w L us who) (hr : WhoIn us who) (hb : b ≤ w.heap.size) (n : Nat) (hn : who.length = n) (h0 : 0 < n) (hlen : n ≤ 999) :
    Calls Try.prog 37 #[.iface 46 (.pointer (some ⟨L, 0, none⟩)), .int .i64 0] w fun e w' => e = .returned (.tuple #[]) ∧ IsLine ok b w' L us (downI us n n who 0) ∧ Bel ok b w w' := by
  have ns := fun (a : Addr) (w : World) => (show (nilAhead 188 46 (.pointer (some a)) "Len").run Try.prog w = .ok (some false) w by kernel_rfl)
  have ms := fun (a : Addr) (w : World) => (show (method 188 46 (.pointer (some a)) "Len").run Try.prog w = .ok (26, .pointer (some a)) w by kernel_rfl)
  have HI := Aside0.mk h
  have HW := Aside0.mk hr
  have HD := Aside0.mk (WhoIn.down (n := n) n 0 hr (by omega) (by omega))
  have HB := Aside0.mk hb
  have HN := Aside0.mk hn
  have HL := Aside0.mk (show who.length ≤ 1000 ∧ n ≤ who.length by omega)
  have HDL := Aside0.mk (show (downI us n n who 0).length ≤ 1000 ∧ 0 < (downI us n n who 0).length by rw [downI_length]; omega)
  clear h hr hb hn h0 hlen
  go_enter Try.func37, Try.ntmps37
  go_wp2_with (first | (go_at_call 26; refine (len_n HI.out HN.out).mono ?_; rintro e w' ⟨rfl, rfl⟩) | (go_at_call 43; refine (down0_calls HI.out HW.out HB.out HL.out.1 n HL.out.2).mono ?_; rintro e w' ⟨⟨rb, rfl⟩, hI2, hb2⟩; have HI2 := Aside0.mk hI2; have HB2 := Aside0.mk hb2; clear hI2 hb2; cases rb) | (go_at_call 42; refine (up0_calls HI2.out HD.out (Nat.le_trans HB.out HB2.out.size) HDL.out.1 HDL.out.2).mono ?_; rintro e w' ⟨rfl, hI3, hb3⟩; have HI3 := Aside0.mk hI3; have HB3 := Aside0.mk hb3; clear hI3 hb3))
  · go_end0
    exact ⟨rfl, HI3.out, HB2.out.trans HB3.out⟩
  · go_end0
    exact ⟨rfl, HI2.out, HB2.out⟩
end Go.Proofs.Ytflponipbdgkeaa.G
