/-
  *line by hand: Less. Its first statement is a region that draws: what lay is as it lay, so each read is taken first.
-/
import Derived.Test.YtflponipbdgkeaaHLine
import Derived.Test.YtflponipbdgkeaaG0
namespace Go.Proofs.Ytflponipbdgkeaa.G
open Go.RowKit Go.Proofs.YtflponipbdgkeaaW.PrintWords Go.Proofs.YtflponipbdgkeaaW.PrintLast Go.Proofs.YtflponipbdgkeaaW.PrintMore
set_option linter.unusedVariables false
set_option linter.unusedSimpArgs false

/-- Who is served first of two, as the program reckons it. -/
def lessD (us : List S30) (a b : Int) : Int := wrap64 (wrap64 ((rd_T30 us a).f1 * (rd_T30 us b).f0) - wrap64 ((rd_T30 us b).f1 * (rd_T30 us a).f0))
def lessR (us : List S30) (a b : Int) : Bool := if lessD us a b = 0 then decide (a < b) else decide (lessD us a b < 0)

theorem al_new (W : World) (t : Nat) (cs : Array Value) : (W.alloc (.cells cs t (0, 0))).heap[W.heap.size]? = some (.cells cs t (0, 0)) := by
  show (W.heap.push _)[W.heap.size]? = _
  simp
theorem al_old {W : World} {k : Nat} {o o' : Obj} (h : W.heap[k]? = some o') : (W.alloc o).heap[k]? = some o' := by
  have hk := (Array.getElem?_eq_some_iff.1 h).1
  show (W.heap.push _)[k]? = _
  rw [Array.getElem?_push_lt hk, ← h, Array.getElem?_eq_getElem hk]
theorem below_sets {B : Nat} {w W : World} {g : Nat} (h : Below B w W) (hg : B ≤ g) {o : Nat} {vs : List Value} : Below B w (W.setCells g o vs) := by
  obtain ⟨s1, s2, s3, s4⟩ := setCells_same g vs o W
  exact ⟨s1.trans h.os, s2.trans h.tape, s3.trans h.output, by rw [s4]; exact h.size, fun k hk => (setCells_far vs o k (by omega)).trans (h.block k hk)⟩
theorem st_same {W : World} {g t : Nat} {cs : Array Value} (seg : List Value) (hs : cs.size = seg.length) (h : W.heap[g]? = some (.cells cs t (0, 0))) : (W.setCells g 0 seg).heap[g]? = some (.cells seg.toArray t (0, 0)) := by
  obtain ⟨cur', h3, h4, h5⟩ := setCells_row seg 0 W cs h (by omega)
  have e : cur' = seg.toArray := by
    apply Array.toList_inj.1
    rw [h5, List.take_zero, List.nil_append, List.drop_of_length_le (by rw [Array.length_toList]; omega), List.append_nil]
  rw [h3, e]

theorem st_run {P : Program} {a : Act} {oi : Oper} {W : World} {g t : Nat} {cs : Array Value} {p x : Operand} (seg : List Value) (h : W.heap[g]? = some (.cells cs t (0, 0))) (hop : oi.op = .store t p x) (hp : a.eval p = .pointer (some ⟨g, 0, none⟩)) (hx : a.eval x = .agg seg.toArray)
    (ht : (P.info? t).map (·.size) = some seg.length) (hs : cs.size = seg.length) (h1 : ∀ q ∈ seg, q.oneCell' = true) : (execOp a.eval oi).run P W = .ok .skip (W.setCells g 0 seg) := by
  have hrun : (Instr.storeAt t (.pointer (some ⟨g, 0, none⟩)) (.agg seg.toArray)).run P W = .ok () (W.setCells g 0 seg) := run_store_run t _ seg h rfl ht (by omega) h1
  unfold execOp
  simp only [hop, hp, hx, Sem.run_bind, Sem.run_pure, Result.andThen_ok, hrun]
set_option maxHeartbeats 8000000 in
set_option maxRecDepth 1000000 in
theorem less_raw (L U V cu cv : Nat) (us : List S30) (who : List Int) (i k : Nat) (w : World)
    (hvu : w.cell? ⟨L, 0, none⟩ = some (.slice (some ⟨U, 0, none⟩) us.length cu)) (hvw : w.cell? ⟨L, 1, none⟩ = some (.slice (some ⟨V, 0, none⟩) who.length cv))
    (hW : Kd.C (Kd.int .i64) w (some ⟨V, 0, none⟩) who.length who) (hU : Kd.C k30 w (some ⟨U, 0, none⟩) us.length us) (hi : i < who.length) (hk : k < who.length) (hr : ∀ x, x ∈ who → 0 ≤ x ∧ x < us.length) :
    Calls Try.prog 61 #[.pointer (some ⟨L, 0, none⟩), .int .i64 i, .int .i64 k] w fun e w' => e = .returned (.bool (lessR us (rd who i) (rd who k))) ∧ Below w.heap.size w w' := by
  obtain ⟨ad1, e1, ci⟩ := Kd.at_int hW (i : Int) (by omega) (by omega)
  obtain ⟨ad2, e2, ck⟩ := Kd.at_int hW (k : Int) (by omega) (by omega)
  cases e1
  cases e2
  rw [Int.toNat_natCast, Addr.add_lit, Nat.zero_add] at ci ck
  have ri := hr _ (rd_mem (i := (i : Int)) (by omega) (by omega))
  have rk := hr _ (rd_mem (i := (k : Int)) (by omega) (by omega))
  obtain ⟨xi, hxi⟩ : ∃ x, rd who i = x := ⟨_, rfl⟩
  obtain ⟨xk, hxk⟩ : ∃ x, rd who k = x := ⟨_, rfl⟩
  rw [hxi] at ci ri ⊢
  rw [hxk] at ck rk ⊢
  obtain ⟨ad1, e1, hx1_0, hx1_1, hx1_2⟩ := at_T30 hU xi ri.1 ri.2
  obtain ⟨ad2, e2, hx2_0, hx2_1, hx2_2⟩ := at_T30 hU xk rk.1 rk.2
  cases e1
  cases e2
  simp only [Addr.add_lit, Nat.zero_add] at hx1_0 hx1_1 hx1_2 hx2_0 hx2_1 hx2_2
  have q1 : (i : Int) < (who.length : Int) := by omega
  have q2 : (k : Int) < (who.length : Int) := by omega
  clear hW hU hr hxi hxk
  obtain ⟨r1, r2⟩ := ri
  obtain ⟨r3, r4⟩ := rk
  have l1 : L < w.heap.size := World.block_lt_of_cell? w _ hvu
  have l2 : V < w.heap.size := World.block_lt_of_cell? w _ ci
  have l3 : U < w.heap.size := World.block_lt_of_cell? w _ hx1_0
  go_enter Try.func61, Try.ntmps61
  go_wp2
  refine start_ (n := 30) (S := fun w' => Below w.heap.size w w') (ds := []) #[false, false, false, false, false, false, false, false, false, false, false, false, false, false, false, false, false, false, false, false, false, false, false, false, false, false, false, false, false, false] (by kernel_rfl) rfl rfl (below_drew1 (Below.refl _ w)) (fun hHeld => ?_)
  generalize w.drew = wa at hHeld ⊢
  refine pure_ (i := 0) (N := some 10) (v := ?_) (a' := ?_) #[true, false, false, false, false, false, false, false, false, false, false, false, false, false, false, false, false, false, false, false, false, false, false, false, false, false, false, false, false, false] rfl rfl (by kernel_rfl) (fun _ _ _ h => h) (Or.inl ⟨by rfl, ?_⟩) ?_ ?_
  rotate_left
  · intro w'
    go_simp
    with_reducible rfl
  rotate_left
  · simp only [Act.put, List.setIfInBounds_toArray, List.set_cons_zero, List.set_cons_succ, i64_w, i32_w]
    rfl
  refine pure_ (i := 1) (N := some 11) (v := ?_) (a' := ?_) #[true, true, false, false, false, false, false, false, false, false, false, false, false, false, false, false, false, false, false, false, false, false, false, false, false, false, false, false, false, false] rfl rfl (by kernel_rfl) (fun _ _ _ h => h) (Or.inl ⟨by rfl, ?_⟩) ?_ ?_
  rotate_left
  · intro w'
    go_simp
    with_reducible rfl
  rotate_left
  · simp only [Act.put, List.setIfInBounds_toArray, List.set_cons_zero, List.set_cons_succ, i64_w, i32_w]
    rfl
  refine pure_ (i := 2) (N := some 12) (v := ?_) (a' := ?_) #[true, true, true, false, false, false, false, false, false, false, false, false, false, false, false, false, false, false, false, false, false, false, false, false, false, false, false, false, false, false] rfl rfl (by kernel_rfl) (fun _ _ _ h => h) (Or.inl ⟨by rfl, ?_⟩) ?_ ?_
  rotate_left
  · intro w'
    go_simp
    with_reducible rfl
  rotate_left
  · simp only [Act.put, List.setIfInBounds_toArray, List.set_cons_zero, List.set_cons_succ, i64_w, i32_w]
    rfl
  refine take_ (i := 3) (N := some 13) (v := ?_) (a' := ?_) #[true, true, true, true, false, false, false, false, false, false, false, false, false, false, false, false, false, false, false, false, false, false, false, false, false, false, false, false, false, false] rfl rfl (by kernel_rfl) (fun _ _ _ h => h) (Or.inl ⟨by rfl, ?_⟩) hHeld ?_ ?_
  rotate_left
  · intro w' s
    have s0 := (s.cell l1).trans hvu; have s1 := (s.cell l1).trans hvw; have s2 := (s.cell l2).trans ci; have s3 := (s.cell l2).trans ck; have s4 := (s.cell l3).trans hx1_0; have s5 := (s.cell l3).trans hx1_1; have s6 := (s.cell l3).trans hx1_2; have s7 := (s.cell l3).trans hx2_0; have s8 := (s.cell l3).trans hx2_1; have s9 := (s.cell l3).trans hx2_2
    go_simp
    with_reducible rfl
  rotate_left
  · simp only [Act.put, List.setIfInBounds_toArray, List.set_cons_zero, List.set_cons_succ, i64_w, i32_w]
    rfl
  refine pure_ (i := 4) (N := some 14) (v := ?_) (a' := ?_) #[true, true, true, true, true, false, false, false, false, false, false, false, false, false, false, false, false, false, false, false, false, false, false, false, false, false, false, false, false, false] rfl rfl (by kernel_rfl) (fun _ _ _ h => h) (Or.inl ⟨by rfl, ?_⟩) ?_ ?_
  rotate_left
  · intro w'
    go_simp
    with_reducible rfl
  rotate_left
  · simp only [Act.put, List.setIfInBounds_toArray, List.set_cons_zero, List.set_cons_succ, i64_w, i32_w]
    rfl
  refine pure_ (i := 5) (N := some 15) (v := ?_) (a' := ?_) #[true, true, true, true, true, true, false, false, false, false, false, false, false, false, false, false, false, false, false, false, false, false, false, false, false, false, false, false, false, false] rfl rfl (by kernel_rfl) (fun _ _ _ h => h) (Or.inl ⟨by rfl, ?_⟩) ?_ ?_
  rotate_left
  · intro w'
    go_simp
    with_reducible rfl
  rotate_left
  · simp only [Act.put, List.setIfInBounds_toArray, List.set_cons_zero, List.set_cons_succ, i64_w, i32_w]
    rfl
  refine pure_ (i := 6) (N := some 16) (v := ?_) (a' := ?_) #[true, true, true, true, true, true, true, false, false, false, false, false, false, false, false, false, false, false, false, false, false, false, false, false, false, false, false, false, false, false] rfl rfl (by kernel_rfl) (fun _ _ _ h => h) (Or.inl ⟨by rfl, ?_⟩) ?_ ?_
  rotate_left
  · intro w'
    go_simp
    with_reducible rfl
  rotate_left
  · simp only [Act.put, List.setIfInBounds_toArray, List.set_cons_zero, List.set_cons_succ, i64_w, i32_w]
    rfl
  refine take_ (i := 7) (N := some 17) (v := ?_) (a' := ?_) #[true, true, true, true, true, true, true, true, false, false, false, false, false, false, false, false, false, false, false, false, false, false, false, false, false, false, false, false, false, false] rfl rfl (by kernel_rfl) (fun _ _ _ h => h) (Or.inl ⟨by rfl, ?_⟩) hHeld ?_ ?_
  rotate_left
  · intro w' s
    have s0 := (s.cell l1).trans hvu; have s1 := (s.cell l1).trans hvw; have s2 := (s.cell l2).trans ci; have s3 := (s.cell l2).trans ck; have s4 := (s.cell l3).trans hx1_0; have s5 := (s.cell l3).trans hx1_1; have s6 := (s.cell l3).trans hx1_2; have s7 := (s.cell l3).trans hx2_0; have s8 := (s.cell l3).trans hx2_1; have s9 := (s.cell l3).trans hx2_2
    go_simp
    with_reducible rfl
  rotate_left
  · simp only [Act.put, List.setIfInBounds_toArray, List.set_cons_zero, List.set_cons_succ, i64_w, i32_w]
    rfl
  refine pure_ (i := 8) (N := some 18) (v := ?_) (a' := ?_) #[true, true, true, true, true, true, true, true, true, false, false, false, false, false, false, false, false, false, false, false, false, false, false, false, false, false, false, false, false, false] rfl rfl (by kernel_rfl) (fun _ _ _ h => h) (Or.inl ⟨by rfl, ?_⟩) ?_ ?_
  rotate_left
  · intro w'
    go_simp
    with_reducible rfl
  rotate_left
  · simp only [Act.put, List.setIfInBounds_toArray, List.set_cons_zero, List.set_cons_succ, i64_w, i32_w]
    rfl
  refine pure_ (i := 9) (N := some 19) (v := ?_) (a' := ?_) #[true, true, true, true, true, true, true, true, true, true, false, false, false, false, false, false, false, false, false, false, false, false, false, false, false, false, false, false, false, false] rfl rfl (by kernel_rfl) (fun _ _ _ h => h) (Or.inl ⟨by rfl, ?_⟩) ?_ ?_
  rotate_left
  · intro w'
    go_simp
    with_reducible rfl
  rotate_left
  · simp only [Act.put, List.setIfInBounds_toArray, List.set_cons_zero, List.set_cons_succ, i64_w, i32_w]
    rfl
  refine take_ (i := 10) (N := some 20) (v := ?_) (a' := ?_) #[true, true, true, true, true, true, true, true, true, true, true, false, false, false, false, false, false, false, false, false, false, false, false, false, false, false, false, false, false, false] rfl rfl (by kernel_rfl) (fun _ _ _ h => h) (Or.inl ⟨by rfl, ?_⟩) hHeld ?_ ?_
  rotate_left
  · intro w' s
    have s0 := (s.cell l1).trans hvu; have s1 := (s.cell l1).trans hvw; have s2 := (s.cell l2).trans ci; have s3 := (s.cell l2).trans ck; have s4 := (s.cell l3).trans hx1_0; have s5 := (s.cell l3).trans hx1_1; have s6 := (s.cell l3).trans hx1_2; have s7 := (s.cell l3).trans hx2_0; have s8 := (s.cell l3).trans hx2_1; have s9 := (s.cell l3).trans hx2_2
    go_simp
    with_reducible rfl
  rotate_left
  · simp only [Act.put, List.setIfInBounds_toArray, List.set_cons_zero, List.set_cons_succ, i64_w, i32_w]
    rfl
  refine pure_ (i := 11) (N := some 21) (v := ?_) (a' := ?_) #[true, true, true, true, true, true, true, true, true, true, true, true, false, false, false, false, false, false, false, false, false, false, false, false, false, false, false, false, false, false] rfl rfl (by kernel_rfl) (fun _ _ _ h => h) (Or.inl ⟨by rfl, ?_⟩) ?_ ?_
  rotate_left
  · intro w'
    go_simp
    with_reducible rfl
  rotate_left
  · simp only [Act.put, List.setIfInBounds_toArray, List.set_cons_zero, List.set_cons_succ, i64_w, i32_w]
    rfl
  refine take_ (i := 12) (N := some 22) (v := ?_) (a' := ?_) #[true, true, true, true, true, true, true, true, true, true, true, true, true, false, false, false, false, false, false, false, false, false, false, false, false, false, false, false, false, false] rfl rfl (by kernel_rfl) (fun _ _ _ h => h) (Or.inl ⟨by rfl, ?_⟩) hHeld ?_ ?_
  rotate_left
  · intro w' s
    have s0 := (s.cell l1).trans hvu; have s1 := (s.cell l1).trans hvw; have s2 := (s.cell l2).trans ci; have s3 := (s.cell l2).trans ck; have s4 := (s.cell l3).trans hx1_0; have s5 := (s.cell l3).trans hx1_1; have s6 := (s.cell l3).trans hx1_2; have s7 := (s.cell l3).trans hx2_0; have s8 := (s.cell l3).trans hx2_1; have s9 := (s.cell l3).trans hx2_2
    go_simp
    with_reducible rfl
  rotate_left
  · simp only [Act.put, List.setIfInBounds_toArray, List.set_cons_zero, List.set_cons_succ, i64_w, i32_w]
    rfl
  refine pure_ (i := 13) (N := some 23) (v := ?_) (a' := ?_) #[true, true, true, true, true, true, true, true, true, true, true, true, true, true, false, false, false, false, false, false, false, false, false, false, false, false, false, false, false, false] rfl rfl (by kernel_rfl) (fun _ _ _ h => h) (Or.inl ⟨by rfl, ?_⟩) ?_ ?_
  rotate_left
  · intro w'
    go_simp
    with_reducible rfl
  rotate_left
  · simp only [Act.put, List.setIfInBounds_toArray, List.set_cons_zero, List.set_cons_succ, i64_w, i32_w]
    rfl
  refine pure_ (i := 14) (N := some 24) (v := ?_) (a' := ?_) #[true, true, true, true, true, true, true, true, true, true, true, true, true, true, true, false, false, false, false, false, false, false, false, false, false, false, false, false, false, false] rfl rfl (by kernel_rfl) (fun _ _ _ h => h) (Or.inl ⟨by rfl, ?_⟩) ?_ ?_
  rotate_left
  · intro w'
    go_simp
    with_reducible rfl
  rotate_left
  · simp only [Act.put, List.setIfInBounds_toArray, List.set_cons_zero, List.set_cons_succ, i64_w, i32_w]
    rfl
  refine pure_ (i := 15) (N := some 25) (v := ?_) (a' := ?_) #[true, true, true, true, true, true, true, true, true, true, true, true, true, true, true, true, false, false, false, false, false, false, false, false, false, false, false, false, false, false] rfl rfl (by kernel_rfl) (fun _ _ _ h => h) (Or.inl ⟨by rfl, ?_⟩) ?_ ?_
  rotate_left
  · intro w'
    go_simp
    with_reducible rfl
  rotate_left
  · simp only [Act.put, List.setIfInBounds_toArray, List.set_cons_zero, List.set_cons_succ, i64_w, i32_w]
    rfl
  refine take_ (i := 16) (N := some 26) (v := ?_) (a' := ?_) #[true, true, true, true, true, true, true, true, true, true, true, true, true, true, true, true, true, false, false, false, false, false, false, false, false, false, false, false, false, false] rfl rfl (by kernel_rfl) (fun _ _ _ h => h) (Or.inl ⟨by rfl, ?_⟩) hHeld ?_ ?_
  rotate_left
  · intro w' s
    have s0 := (s.cell l1).trans hvu; have s1 := (s.cell l1).trans hvw; have s2 := (s.cell l2).trans ci; have s3 := (s.cell l2).trans ck; have s4 := (s.cell l3).trans hx1_0; have s5 := (s.cell l3).trans hx1_1; have s6 := (s.cell l3).trans hx1_2; have s7 := (s.cell l3).trans hx2_0; have s8 := (s.cell l3).trans hx2_1; have s9 := (s.cell l3).trans hx2_2
    go_simp
    with_reducible rfl
  rotate_left
  · simp only [Act.put, List.setIfInBounds_toArray, List.set_cons_zero, List.set_cons_succ, i64_w, i32_w]
    rfl
  refine pure_ (i := 17) (N := some 27) (v := ?_) (a' := ?_) #[true, true, true, true, true, true, true, true, true, true, true, true, true, true, true, true, true, true, false, false, false, false, false, false, false, false, false, false, false, false] rfl rfl (by kernel_rfl) (fun _ _ _ h => h) (Or.inl ⟨by rfl, ?_⟩) ?_ ?_
  rotate_left
  · intro w'
    go_simp
    with_reducible rfl
  rotate_left
  · simp only [Act.put, List.setIfInBounds_toArray, List.set_cons_zero, List.set_cons_succ, i64_w, i32_w]
    rfl
  refine pure_ (i := 18) (N := some 28) (v := ?_) (a' := ?_) #[true, true, true, true, true, true, true, true, true, true, true, true, true, true, true, true, true, true, true, false, false, false, false, false, false, false, false, false, false, false] rfl rfl (by kernel_rfl) (fun _ _ _ h => h) (Or.inl ⟨by rfl, ?_⟩) ?_ ?_
  rotate_left
  · intro w'
    go_simp
    with_reducible rfl
  rotate_left
  · simp only [Act.put, List.setIfInBounds_toArray, List.set_cons_zero, List.set_cons_succ, i64_w, i32_w]
    rfl
  refine pure_ (i := 19) (N := some 29) (v := ?_) (a' := ?_) #[true, true, true, true, true, true, true, true, true, true, true, true, true, true, true, true, true, true, true, true, false, false, false, false, false, false, false, false, false, false] rfl rfl (by kernel_rfl) (fun _ _ _ h => h) (Or.inl ⟨by rfl, ?_⟩) ?_ ?_
  rotate_left
  · intro w'
    go_simp
    with_reducible rfl
  rotate_left
  · simp only [Act.put, List.setIfInBounds_toArray, List.set_cons_zero, List.set_cons_succ, i64_w, i32_w]
    rfl
  refine take_ (i := 20) (N := some 30) (v := ?_) (a' := ?_) #[true, true, true, true, true, true, true, true, true, true, true, true, true, true, true, true, true, true, true, true, true, false, false, false, false, false, false, false, false, false] rfl rfl (by kernel_rfl) (fun _ _ _ h => h) (Or.inl ⟨by rfl, ?_⟩) hHeld ?_ ?_
  rotate_left
  · intro w' s
    have s0 := (s.cell l1).trans hvu; have s1 := (s.cell l1).trans hvw; have s2 := (s.cell l2).trans ci; have s3 := (s.cell l2).trans ck; have s4 := (s.cell l3).trans hx1_0; have s5 := (s.cell l3).trans hx1_1; have s6 := (s.cell l3).trans hx1_2; have s7 := (s.cell l3).trans hx2_0; have s8 := (s.cell l3).trans hx2_1; have s9 := (s.cell l3).trans hx2_2
    go_simp
    with_reducible rfl
  rotate_left
  · simp only [Act.put, List.setIfInBounds_toArray, List.set_cons_zero, List.set_cons_succ, i64_w, i32_w]
    rfl
  refine pure_ (i := 21) (N := some 31) (v := ?_) (a' := ?_) #[true, true, true, true, true, true, true, true, true, true, true, true, true, true, true, true, true, true, true, true, true, true, false, false, false, false, false, false, false, false] rfl rfl (by kernel_rfl) (fun _ _ _ h => h) (Or.inl ⟨by rfl, ?_⟩) ?_ ?_
  rotate_left
  · intro w'
    go_simp
    with_reducible rfl
  rotate_left
  · simp only [Act.put, List.setIfInBounds_toArray, List.set_cons_zero, List.set_cons_succ, i64_w, i32_w]
    rfl
  refine pure_ (i := 22) (N := some 32) (v := ?_) (a' := ?_) #[true, true, true, true, true, true, true, true, true, true, true, true, true, true, true, true, true, true, true, true, true, true, true, false, false, false, false, false, false, false] rfl rfl (by kernel_rfl) (fun _ _ _ h => h) (Or.inl ⟨by rfl, ?_⟩) ?_ ?_
  rotate_left
  · intro w'
    go_simp
    with_reducible rfl
  rotate_left
  · simp only [Act.put, List.setIfInBounds_toArray, List.set_cons_zero, List.set_cons_succ, i64_w, i32_w]
    rfl
  refine take_ (i := 23) (N := some 33) (v := ?_) (a' := ?_) #[true, true, true, true, true, true, true, true, true, true, true, true, true, true, true, true, true, true, true, true, true, true, true, true, false, false, false, false, false, false] rfl rfl (by kernel_rfl) (fun _ _ _ h => h) (Or.inl ⟨by rfl, ?_⟩) hHeld ?_ ?_
  rotate_left
  · intro w' s
    have s0 := (s.cell l1).trans hvu; have s1 := (s.cell l1).trans hvw; have s2 := (s.cell l2).trans ci; have s3 := (s.cell l2).trans ck; have s4 := (s.cell l3).trans hx1_0; have s5 := (s.cell l3).trans hx1_1; have s6 := (s.cell l3).trans hx1_2; have s7 := (s.cell l3).trans hx2_0; have s8 := (s.cell l3).trans hx2_1; have s9 := (s.cell l3).trans hx2_2
    go_simp
    with_reducible rfl
  rotate_left
  · simp only [Act.put, List.setIfInBounds_toArray, List.set_cons_zero, List.set_cons_succ, i64_w, i32_w]
    rfl
  refine pure_ (i := 24) (N := some 34) (v := ?_) (a' := ?_) #[true, true, true, true, true, true, true, true, true, true, true, true, true, true, true, true, true, true, true, true, true, true, true, true, true, false, false, false, false, false] rfl rfl (by kernel_rfl) (fun _ _ _ h => h) (Or.inl ⟨by rfl, ?_⟩) ?_ ?_
  rotate_left
  · intro w'
    go_simp
    with_reducible rfl
  rotate_left
  · simp only [Act.put, List.setIfInBounds_toArray, List.set_cons_zero, List.set_cons_succ, i64_w, i32_w]
    rfl
  refine take_ (i := 25) (N := some 35) (v := ?_) (a' := ?_) #[true, true, true, true, true, true, true, true, true, true, true, true, true, true, true, true, true, true, true, true, true, true, true, true, true, true, false, false, false, false] rfl rfl (by kernel_rfl) (fun _ _ _ h => h) (Or.inl ⟨by rfl, ?_⟩) hHeld ?_ ?_
  rotate_left
  · intro w' s
    have s0 := (s.cell l1).trans hvu; have s1 := (s.cell l1).trans hvw; have s2 := (s.cell l2).trans ci; have s3 := (s.cell l2).trans ck; have s4 := (s.cell l3).trans hx1_0; have s5 := (s.cell l3).trans hx1_1; have s6 := (s.cell l3).trans hx1_2; have s7 := (s.cell l3).trans hx2_0; have s8 := (s.cell l3).trans hx2_1; have s9 := (s.cell l3).trans hx2_2
    go_simp
    with_reducible rfl
  rotate_left
  · simp only [Act.put, List.setIfInBounds_toArray, List.set_cons_zero, List.set_cons_succ, i64_w, i32_w]
    rfl
  refine two_ (i := 26) (j := 27) (Ni := some 7) (Nj := some 8) #[true, true, true, true, true, true, true, true, true, true, true, true, true, true, true, true, true, true, true, true, true, true, true, true, true, true, true, false, false, false] #[true, true, true, true, true, true, true, true, true, true, true, true, true, true, true, true, true, true, true, true, true, true, true, true, true, true, false, true, false, false] rfl rfl rfl rfl (by kernel_rfl) (by decide) (by decide) (fun K hK => ?_) (fun K hK => ?_)
  · -- a's block first
    refine value_ (w1 := wa.alloc (.cells #[.int .i64 0, .int .i64 0, .int .i64 0] 30)) (v := .pointer (some ⟨wa.heap.size, 0, none⟩)) (by rfl) rfl (by go_simp; try rfl) ?_
    refine hK.out _ _ (hHeld.alloc hHeld.size _) (fun hH2 => ?_)
    clear hK K
    refine norm_ (a' := ?_) ?_ ?_
    rotate_left
    · show Act.put _ (some 7) _ = _
      simp only [Act.put, List.setIfInBounds_toArray, List.set_cons_zero, List.set_cons_succ, i64_w, i32_w]
      rfl
    have hp := al_new wa 30 #[.int .i64 0, .int .i64 0, .int .i64 0]
    have hpne := hHeld.size
    obtain ⟨p, ep⟩ : ∃ p, p = wa.heap.size := ⟨_, rfl⟩
    rw [← ep] at hp ⊢
    generalize wa.alloc (.cells #[.int .i64 0, .int .i64 0, .int .i64 0] 30) = wb at hH2 hp ⊢
    clear hHeld; have hHeld := hH2; clear hH2
    have gp : w.heap.size ≤ p := by omega
    refine one_ (i := 27) (N := some 8) #[true, true, true, true, true, true, true, true, true, true, true, true, true, true, true, true, true, true, true, true, true, true, true, true, true, true, true, true, false, false] rfl rfl (by kernel_rfl) (by decide) (fun K hK => ?_)
    have hp0 := hp
    refine value_ (w1 := wb.alloc (.cells #[.int .i64 0, .int .i64 0, .int .i64 0] 30)) (v := .pointer (some ⟨wb.heap.size, 0, none⟩)) (by rfl) rfl (by go_simp; try rfl) ?_
    refine hK.out _ _ (hHeld.alloc hHeld.size _) (fun hH2 => ?_)
    clear hK K
    refine norm_ (a' := ?_) ?_ ?_
    rotate_left
    · show Act.put _ (some 8) _ = _
      simp only [Act.put, List.setIfInBounds_toArray, List.set_cons_zero, List.set_cons_succ, i64_w, i32_w]
      rfl
    have hq := al_new wb 30 #[.int .i64 0, .int .i64 0, .int .i64 0]
    replace hp := al_old (o := .cells #[.int .i64 0, .int .i64 0, .int .i64 0] 30 (0, 0)) hp
    have hqne := hHeld.size
    obtain ⟨q, eq⟩ : ∃ p, p = wb.heap.size := ⟨_, rfl⟩
    rw [← eq] at hq ⊢
    generalize wb.alloc (.cells #[.int .i64 0, .int .i64 0, .int .i64 0] 30) = wc at hH2 hq hp ⊢
    clear hHeld; have hHeld := hH2; clear hH2
    have gq : w.heap.size ≤ q := by omega
    have hpq : p ≠ q := fun e => by have := (Array.getElem?_eq_some_iff.1 hp0).1; omega
    refine one_ (i := 28) (N := none) #[true, true, true, true, true, true, true, true, true, true, true, true, true, true, true, true, true, true, true, true, true, true, true, true, true, true, true, true, true, false] rfl rfl (by kernel_rfl) (by decide) (fun K hK => ?_)
    refine skip_ (w1 := wc.setCells p 0 [.int .i64 (rd_T30 us xi).f0, .int .i64 (rd_T30 us xi).f1, .int .i64 (rd_T30 us xi).f2]) (by rfl) rfl (st_run [.int .i64 (rd_T30 us xi).f0, .int .i64 (rd_T30 us xi).f1, .int .i64 (rd_T30 us xi).f2] hp rfl rfl rfl (by kernel_rfl) rfl (by intro u hu; simp at hu; rcases hu with rfl | rfl | rfl <;> rfl)) ?_
    refine hK.out _ _ (below_sets hHeld gp) (fun hH2 => ?_)
    clear hK K
    replace hp := st_same [.int .i64 (rd_T30 us xi).f0, .int .i64 (rd_T30 us xi).f1, .int .i64 (rd_T30 us xi).f2] (by rfl) hp
    replace hq := (setCells_far [.int .i64 (rd_T30 us xi).f0, .int .i64 (rd_T30 us xi).f1, .int .i64 (rd_T30 us xi).f2] 0 _ hpq.symm).trans hq
    generalize wc.setCells p 0 [.int .i64 (rd_T30 us xi).f0, .int .i64 (rd_T30 us xi).f1, .int .i64 (rd_T30 us xi).f2] = wd at hH2 hp hq ⊢
    clear hHeld; have hHeld := hH2; clear hH2
    refine one_ (i := 29) (N := none) #[true, true, true, true, true, true, true, true, true, true, true, true, true, true, true, true, true, true, true, true, true, true, true, true, true, true, true, true, true, true] rfl rfl (by kernel_rfl) (by decide) (fun K hK => ?_)
    refine skip_ (w1 := wd.setCells q 0 [.int .i64 (rd_T30 us xk).f0, .int .i64 (rd_T30 us xk).f1, .int .i64 (rd_T30 us xk).f2]) (by rfl) rfl (st_run [.int .i64 (rd_T30 us xk).f0, .int .i64 (rd_T30 us xk).f1, .int .i64 (rd_T30 us xk).f2] hq rfl rfl rfl (by kernel_rfl) rfl (by intro u hu; simp at hu; rcases hu with rfl | rfl | rfl <;> rfl)) ?_
    refine hK.out _ _ (below_sets hHeld gq) (fun hH2 => ?_)
    clear hK K
    replace hq := st_same [.int .i64 (rd_T30 us xk).f0, .int .i64 (rd_T30 us xk).f1, .int .i64 (rd_T30 us xk).f2] (by rfl) hq
    replace hp := (setCells_far [.int .i64 (rd_T30 us xk).f0, .int .i64 (rd_T30 us xk).f1, .int .i64 (rd_T30 us xk).f2] 0 _ hpq).trans hp
    generalize wd.setCells q 0 [.int .i64 (rd_T30 us xk).f0, .int .i64 (rd_T30 us xk).f1, .int .i64 (rd_T30 us xk).f2] = we at hH2 hq hp ⊢
    clear hHeld; have hHeld := hH2; clear hH2
    refine done_ (by kernel_rfl) ?_
    have p0 : we.cell? ⟨p, 0, none⟩ = some (.int .i64 (rd_T30 us xi).f0) := (cell_blk hp 0).trans rfl
    have p1 : we.cell? ⟨p, 1, none⟩ = some (.int .i64 (rd_T30 us xi).f1) := (cell_blk hp 1).trans rfl
    have q0 : we.cell? ⟨q, 0, none⟩ = some (.int .i64 (rd_T30 us xk).f0) := (cell_blk hq 0).trans rfl
    have q1' : we.cell? ⟨q, 1, none⟩ = some (.int .i64 (rd_T30 us xk).f1) := (cell_blk hq 1).trans rfl
    have s1 := (hHeld.cell l1).trans hvw
    have s2 := (hHeld.cell l2).trans ci
    have s3 := (hHeld.cell l2).trans ck
    clear hp hq ep eq hpne hqne l1 l2 l3 hvu hvw ci ck hx1_0 hx1_1 hx1_2 hx2_0 hx2_1 hx2_2
    try clear hp0
    try clear hq0
    clear gp gq hpq
    by_cases e0 : lessD us xi xk = 0
    · have e1 : lessR us xi xk = decide (xi < xk) := by unfold lessR; rw [if_pos e0]
      have E1 := Aside0.mk e1
      clear e1
      unfold lessD at e0
      go_wp2
      go_region
      go_wp2
      go_ret
      exact ⟨by rw [E1.out]; rfl, below_drew1 hHeld⟩
    · have e1 : lessR us xi xk = decide (lessD us xi xk < 0) := by unfold lessR; rw [if_neg e0]
      have E1 := Aside0.mk e1
      clear e1
      unfold lessD at e0
      go_wp2
      go_ret
      exact ⟨by rw [E1.out]; rfl, hHeld⟩
  · -- b's block first
    refine value_ (w1 := wa.alloc (.cells #[.int .i64 0, .int .i64 0, .int .i64 0] 30)) (v := .pointer (some ⟨wa.heap.size, 0, none⟩)) (by rfl) rfl (by go_simp; try rfl) ?_
    refine hK.out _ _ (hHeld.alloc hHeld.size _) (fun hH2 => ?_)
    clear hK K
    refine norm_ (a' := ?_) ?_ ?_
    rotate_left
    · show Act.put _ (some 8) _ = _
      simp only [Act.put, List.setIfInBounds_toArray, List.set_cons_zero, List.set_cons_succ, i64_w, i32_w]
      rfl
    have hq := al_new wa 30 #[.int .i64 0, .int .i64 0, .int .i64 0]
    have hqne := hHeld.size
    obtain ⟨q, eq⟩ : ∃ p, p = wa.heap.size := ⟨_, rfl⟩
    rw [← eq] at hq ⊢
    generalize wa.alloc (.cells #[.int .i64 0, .int .i64 0, .int .i64 0] 30) = wb at hH2 hq ⊢
    clear hHeld; have hHeld := hH2; clear hH2
    have gq : w.heap.size ≤ q := by omega
    refine one_ (i := 26) (N := some 7) #[true, true, true, true, true, true, true, true, true, true, true, true, true, true, true, true, true, true, true, true, true, true, true, true, true, true, true, true, false, false] rfl rfl (by kernel_rfl) (by decide) (fun K hK => ?_)
    have hq0 := hq
    refine value_ (w1 := wb.alloc (.cells #[.int .i64 0, .int .i64 0, .int .i64 0] 30)) (v := .pointer (some ⟨wb.heap.size, 0, none⟩)) (by rfl) rfl (by go_simp; try rfl) ?_
    refine hK.out _ _ (hHeld.alloc hHeld.size _) (fun hH2 => ?_)
    clear hK K
    refine norm_ (a' := ?_) ?_ ?_
    rotate_left
    · show Act.put _ (some 7) _ = _
      simp only [Act.put, List.setIfInBounds_toArray, List.set_cons_zero, List.set_cons_succ, i64_w, i32_w]
      rfl
    have hp := al_new wb 30 #[.int .i64 0, .int .i64 0, .int .i64 0]
    replace hq := al_old (o := .cells #[.int .i64 0, .int .i64 0, .int .i64 0] 30 (0, 0)) hq
    have hpne := hHeld.size
    obtain ⟨p, ep⟩ : ∃ p, p = wb.heap.size := ⟨_, rfl⟩
    rw [← ep] at hp ⊢
    generalize wb.alloc (.cells #[.int .i64 0, .int .i64 0, .int .i64 0] 30) = wc at hH2 hp hq ⊢
    clear hHeld; have hHeld := hH2; clear hH2
    have gp : w.heap.size ≤ p := by omega
    have hpq : p ≠ q := fun e => by have := (Array.getElem?_eq_some_iff.1 hq0).1; omega
    refine one_ (i := 28) (N := none) #[true, true, true, true, true, true, true, true, true, true, true, true, true, true, true, true, true, true, true, true, true, true, true, true, true, true, true, true, true, false] rfl rfl (by kernel_rfl) (by decide) (fun K hK => ?_)
    refine skip_ (w1 := wc.setCells p 0 [.int .i64 (rd_T30 us xi).f0, .int .i64 (rd_T30 us xi).f1, .int .i64 (rd_T30 us xi).f2]) (by rfl) rfl (st_run [.int .i64 (rd_T30 us xi).f0, .int .i64 (rd_T30 us xi).f1, .int .i64 (rd_T30 us xi).f2] hp rfl rfl rfl (by kernel_rfl) rfl (by intro u hu; simp at hu; rcases hu with rfl | rfl | rfl <;> rfl)) ?_
    refine hK.out _ _ (below_sets hHeld gp) (fun hH2 => ?_)
    clear hK K
    replace hp := st_same [.int .i64 (rd_T30 us xi).f0, .int .i64 (rd_T30 us xi).f1, .int .i64 (rd_T30 us xi).f2] (by rfl) hp
    replace hq := (setCells_far [.int .i64 (rd_T30 us xi).f0, .int .i64 (rd_T30 us xi).f1, .int .i64 (rd_T30 us xi).f2] 0 _ hpq.symm).trans hq
    generalize wc.setCells p 0 [.int .i64 (rd_T30 us xi).f0, .int .i64 (rd_T30 us xi).f1, .int .i64 (rd_T30 us xi).f2] = wd at hH2 hp hq ⊢
    clear hHeld; have hHeld := hH2; clear hH2
    refine one_ (i := 29) (N := none) #[true, true, true, true, true, true, true, true, true, true, true, true, true, true, true, true, true, true, true, true, true, true, true, true, true, true, true, true, true, true] rfl rfl (by kernel_rfl) (by decide) (fun K hK => ?_)
    refine skip_ (w1 := wd.setCells q 0 [.int .i64 (rd_T30 us xk).f0, .int .i64 (rd_T30 us xk).f1, .int .i64 (rd_T30 us xk).f2]) (by rfl) rfl (st_run [.int .i64 (rd_T30 us xk).f0, .int .i64 (rd_T30 us xk).f1, .int .i64 (rd_T30 us xk).f2] hq rfl rfl rfl (by kernel_rfl) rfl (by intro u hu; simp at hu; rcases hu with rfl | rfl | rfl <;> rfl)) ?_
    refine hK.out _ _ (below_sets hHeld gq) (fun hH2 => ?_)
    clear hK K
    replace hq := st_same [.int .i64 (rd_T30 us xk).f0, .int .i64 (rd_T30 us xk).f1, .int .i64 (rd_T30 us xk).f2] (by rfl) hq
    replace hp := (setCells_far [.int .i64 (rd_T30 us xk).f0, .int .i64 (rd_T30 us xk).f1, .int .i64 (rd_T30 us xk).f2] 0 _ hpq).trans hp
    generalize wd.setCells q 0 [.int .i64 (rd_T30 us xk).f0, .int .i64 (rd_T30 us xk).f1, .int .i64 (rd_T30 us xk).f2] = we at hH2 hq hp ⊢
    clear hHeld; have hHeld := hH2; clear hH2
    refine done_ (by kernel_rfl) ?_
    have p0 : we.cell? ⟨p, 0, none⟩ = some (.int .i64 (rd_T30 us xi).f0) := (cell_blk hp 0).trans rfl
    have p1 : we.cell? ⟨p, 1, none⟩ = some (.int .i64 (rd_T30 us xi).f1) := (cell_blk hp 1).trans rfl
    have q0 : we.cell? ⟨q, 0, none⟩ = some (.int .i64 (rd_T30 us xk).f0) := (cell_blk hq 0).trans rfl
    have q1' : we.cell? ⟨q, 1, none⟩ = some (.int .i64 (rd_T30 us xk).f1) := (cell_blk hq 1).trans rfl
    have s1 := (hHeld.cell l1).trans hvw
    have s2 := (hHeld.cell l2).trans ci
    have s3 := (hHeld.cell l2).trans ck
    clear hp hq ep eq hpne hqne l1 l2 l3 hvu hvw ci ck hx1_0 hx1_1 hx1_2 hx2_0 hx2_1 hx2_2
    try clear hp0
    try clear hq0
    clear gp gq hpq
    by_cases e0 : lessD us xi xk = 0
    · have e1 : lessR us xi xk = decide (xi < xk) := by unfold lessR; rw [if_pos e0]
      have E1 := Aside0.mk e1
      clear e1
      unfold lessD at e0
      go_wp2
      go_region
      go_wp2
      go_ret
      exact ⟨by rw [E1.out]; rfl, below_drew1 hHeld⟩
    · have e1 : lessR us xi xk = decide (lessD us xi xk < 0) := by unfold lessR; rw [if_neg e0]
      have E1 := Aside0.mk e1
      clear e1
      unfold lessD at e0
      go_wp2
      go_ret
      exact ⟨by rw [E1.out]; rfl, hHeld⟩
end Go.Proofs.Ytflponipbdgkeaa.G
