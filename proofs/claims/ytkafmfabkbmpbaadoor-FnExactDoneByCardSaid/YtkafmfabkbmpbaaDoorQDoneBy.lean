/-
 DoneBy: the reference answers what the program answers; marks on events.
-/
import Derived.Test.YtkafmfabkbmpbaaDoorQLogE
import Derived.Test.YtkafmfabkbmpbaaDoorHDoneBy
import Derived.Test.YtkafmfabkbmpbaaDoorG0
import Derived.Test.YtkafmfabkbmpbaaDoorG7
namespace Go.Proofs.YtkafmfabkbmpbaaDoor.G
open Go.RowKit Go.Proofs.YtkafmfabkbmpbaaDoorW.PrintWords Go.Proofs.YtkafmfabkbmpbaaDoorW.PrintLast Go.Proofs.YtkafmfabkbmpbaaDoorW.PrintMore C
set_option linter.unusedVariables false
set_option linter.unusedSimpArgs false

theorem doneBy_val (l0 : List S47) (l1 : List S46) (a2 : Int) : ∃ r, impl_DoneBy.f l0 l1 a2 = some r ∧ r.length ≤ 16 := by
 unfold impl_DoneBy.f
 refine ⟨_, rfl, ?_⟩
 split
 ·rw [castL_length]
  exact elems_len _
 ·simp
theorem markE_l0 : ∀ (d i k : Nat) (x : List S46) (c : Int), i + d = x.length → d < k → x.length ≤ 1048576 → 0 ≤ c → c + 3 * (d : Int) ≤ 4000000000000000 → ∃ l', laws_markEventS.l0 k x c (i : Int) = some (c + 3 * (d : Int), l') := by
 intro d
 induction d with
 | zero =>
  intro i k x c hi hk hx h0 h1
  obtain ⟨k, rfl⟩ : ∃ m, k = m + 1 := ⟨k - 1, by omega⟩
  rw [laws_markEventS.l0, if_neg (by omega)]
  exact ⟨x, by simp⟩
 | succ d ih =>
  intro i k x c hi hk hx h0 h1
  obtain ⟨k, rfl⟩ : ∃ m, k = m + 1 := ⟨k - 1, by omega⟩
  have hnx := nx (i := i) (m := 1048576) (by decide) (by omega)
  rw [laws_markEventS.l0, if_pos (by omega), if_pos (by omega), hnx]
  simp only [Option.bind_some]
  rw [w64 (x := c + 1) (by omega) (by omega), w64 (x := c + 1 + 1) (by omega) (by omega), w64 (x := c + 1 + 1 + 1) (by omega) (by omega)]
  obtain ⟨l', h⟩ := ih (i + 1) k (((x.set (i : Int).toNat ⟨c, (rd_T46 x (i : Int)).f1, (rd_T46 x (i : Int)).f2⟩).set (i : Int).toNat ⟨(rd_T46 (x.set (i : Int).toNat ⟨c, (rd_T46 x (i : Int)).f1, (rd_T46 x (i : Int)).f2⟩) (i : Int)).f0, c + 1, (rd_T46 (x.set (i : Int).toNat ⟨c, (rd_T46 x (i : Int)).f1, (rd_T46 x (i : Int)).f2⟩) (i : Int)).f2⟩).set (i : Int).toNat ⟨(rd_T46 ((x.set (i : Int).toNat ⟨c, (rd_T46 x (i : Int)).f1, (rd_T46 x (i : Int)).f2⟩).set (i : Int).toNat ⟨(rd_T46 (x.set (i : Int).toNat ⟨c, (rd_T46 x (i : Int)).f1, (rd_T46 x (i : Int)).f2⟩) (i : Int)).f0, c + 1, (rd_T46 (x.set (i : Int).toNat ⟨c, (rd_T46 x (i : Int)).f1, (rd_T46 x (i : Int)).f2⟩) (i : Int)).f2⟩) (i : Int)).f0, (rd_T46 ((x.set (i : Int).toNat ⟨c, (rd_T46 x (i : Int)).f1, (rd_T46 x (i : Int)).f2⟩).set (i : Int).toNat ⟨(rd_T46 (x.set (i : Int).toNat ⟨c, (rd_T46 x (i : Int)).f1, (rd_T46 x (i : Int)).f2⟩) (i : Int)).f0, c + 1, (rd_T46 (x.set (i : Int).toNat ⟨c, (rd_T46 x (i : Int)).f1, (rd_T46 x (i : Int)).f2⟩) (i : Int)).f2⟩) (i : Int)).f1, (Int.tmod (c + 1 + 1) 3 == 0)⟩) (c + 1 + 1 + 1) (by simp only [List.length_set]; omega) (by omega) (by simp only [List.length_set]; omega) (by omega) (by omega)
  exact ⟨l', h.trans (by congr 2; omega)⟩
theorem markE_eq (l : List S46) (c : Int) (K : Nat) (hc : 0 ≤ c ∧ c ≤ 3000000000000000) (hl : l.length ≤ 1048576) (hK : l.length < K) : ∃ l', laws_markEventS.f K l c = some (c + 3 * (l.length : Int), l') := markE_l0 l.length 0 K l c (by omega) hK hl hc.1 (by omega)
/-- What the events ahead of one add for a task. -/
def apS (l1 : List S46) (now t : Int) : Nat → List Int
 | 0 => []
 | j + 1 => if (rd_T46 l1 (j : Int)).f1 = t ∧ (rd_T46 l1 (j : Int)).f2 = true ∧ (rd_T46 l1 (j : Int)).f0 ≤ now then apS l1 now t j ++ [t] else apS l1 now t j
theorem apS_inv {l0 : List S47} {l1 : List S46} (now : Int) : ∀ (i : Nat), (∀ j, j < i → okAt l0 l1 j = true) → ∀ t : Nat, apS l1 now (t : Int) i = if (stM l1 i).ov.testBit t = true ∧ (stM l1 i).cl t ≤ now then [(t : Int)] else []
 | 0, _, t => by simp [apS, stM, Mst.ini]
 | i + 1, ho, t => by
  have ih := apS_inv now i (fun j hj => ho j (by omega)) t
  have hk := okAt_okM (ho i (by omega))
  obtain ⟨u, hu, hun, hs⟩ := step_cases hk
  have eu : (rd_T46 l1 (i : Int)).f1.toNat = u := by omega
  rcases hs with ⟨c0, c1, c2, c3, c4⟩ | ⟨c0, c1, c3, c4⟩
  ·have es : stM l1 (i + 1) = ⟨(stM l1 i).bg, (stM l1 i).ov ||| 2 ^ u, (stM l1 i).be, upd (stM l1 i).cl u (rd_T46 l1 (i : Int)).f0⟩ := by
    rw [stM]
    unfold stepM
    rw [if_pos c0, eu]
   rw [es]
   show apS l1 now (t : Int) (i + 1) = if ((stM l1 i).ov ||| 2 ^ u).testBit t = true ∧ upd (stM l1 i).cl u (rd_T46 l1 (i : Int)).f0 t ≤ now then [(t : Int)] else []
   rw [apS, testBit_or_pow, hu]
   by_cases e : t = u
   ·subst e
    have hih : apS l1 now (t : Int) i = [] := by rw [ih, if_neg (fun h => by rw [c2] at h; cases h.1)]
    rw [hih, upd_at, decide_eq_true rfl, Bool.or_true]
    by_cases hn : (rd_T46 l1 (i : Int)).f0 ≤ now
    ·rw [if_pos ⟨rfl, c0, hn⟩, if_pos ⟨rfl, hn⟩]; rfl
    ·rw [if_neg (fun h => hn h.2.2), if_neg (fun h => hn h.2)]
   ·rw [upd_ne _ e, decide_eq_false e, Bool.or_false, if_neg (fun h => e (by omega)), ih]
  ·have es : stM l1 (i + 1) = ⟨(stM l1 i).bg ||| 2 ^ u, (stM l1 i).ov, upd (stM l1 i).be u (rd_T46 l1 (i : Int)).f0, (stM l1 i).cl⟩ := by
    rw [stM]
    unfold stepM
    rw [if_neg (by rw [c0]; decide), eu]
   rw [es]
   show apS l1 now (t : Int) (i + 1) = if (stM l1 i).ov.testBit t = true ∧ (stM l1 i).cl t ≤ now then [(t : Int)] else []
   rw [apS, if_neg (fun h => by rw [c0] at h; cases h.2.1), ih]
theorem apS_len {l1 : List S46} (now t : Int) : ∀ i, (apS l1 now t i).length ≤ i
 | 0 => Nat.le_refl _
 | i + 1 => by
  have := apS_len (l1 := l1) now t i
  unfold apS
  split
  ·rw [List.length_append, List.length_singleton]; omega
  ·omega
theorem done_l1 {l0 : List S47} {l1 : List S46} (hl1 : l1.length ≤ 16) (now : Int) (t : Nat) (acc : List Int) (ha : acc.length ≤ 200) : ∀ (d j k : Nat), j + d = l1.length → spec_DoneBy.l1 (k + d + 1) l0 l1 now (acc ++ apS l1 now (t : Int) j) (t : Int) (j : Int) = spec_DoneBy.l0 k l0 l1 now (acc ++ apS l1 now (t : Int) l1.length) (wrap64 ((t : Int) + 1)) := by
 intro d
 induction d with
 | zero =>
  intro j k hj
  rw [spec_DoneBy.l1, if_neg (by omega), show j = l1.length by omega]
 | succ d ih =>
  intro j k hj
  have hnx := nx (i := j) (m := 16) (by decide) (by omega)
  have hih := ih (j + 1) k (by omega)
  have hal := apS_len (l1 := l1) now (t : Int) j
  rw [show k + (d + 1) + 1 = (k + d + 1) + 1 by omega, spec_DoneBy.l1, if_pos (by omega), if_pos (by omega), hnx]
  rw [apS] at hih
  by_cases c1 : (rd_T46 l1 (j : Int)).f1 = (t : Int)
  ·rw [if_pos c1]
   by_cases c2 : (rd_T46 l1 (j : Int)).f2 = true
   ·rw [if_pos c2]
    by_cases c3 : (rd_T46 l1 (j : Int)).f0 ≤ now
    ·rw [if_pos c3, if_pos (by rw [List.length_append]; omega)]
     rw [if_pos ⟨c1, c2, c3⟩, ← List.append_assoc] at hih
     exact hih
    ·rw [if_neg c3]
     rw [if_neg (fun h => c3 h.2.2)] at hih
     exact hih
   ·rw [if_neg c2]
    rw [if_neg (fun h => c2 h.2.1)] at hih
    exact hih
  ·rw [if_neg c1]
   rw [if_neg (fun h => c1 h.1)] at hih
   exact hih
def doneF (l1 : List S46) (now : Int) (q : Nat) : List Int := (List.range q).flatMap (fun (t : Nat) => apS l1 now (t : Int) l1.length)
theorem doneF_succ (l1 : List S46) (now : Int) (q : Nat) : doneF l1 now (q + 1) = doneF l1 now q ++ apS l1 now (q : Int) l1.length := by
 unfold doneF
 rw [List.range_succ, List.flatMap_append]
 simp
theorem doneF_eq {l0 : List S47} {l1 : List S46} (ho : ∀ j, j < l1.length → okAt l0 l1 j = true) (now : Int) : ∀ q, doneF l1 now q = castL ((List.range q).filter (fun t => (stM l1 l1.length).ov.testBit t && decide ((stM l1 l1.length).cl t ≤ now)))
 | 0 => rfl
 | q + 1 => by
  rw [doneF_succ, doneF_eq ho now q, apS_inv now l1.length ho q, List.range_succ, List.filter_append]
  unfold castL
  rw [List.map_append]
  congr 1
  by_cases c : (stM l1 l1.length).ov.testBit q = true ∧ (stM l1 l1.length).cl q ≤ now
  ·rw [if_pos c, List.filter_cons, c.1, decide_eq_true c.2]
   rfl
  ·rw [if_neg c, List.filter_cons, if_neg (by rw [Bool.and_eq_true, decide_eq_true_eq]; exact c)]
   rfl
theorem doneF_len {l0 : List S47} {l1 : List S46} (ho : ∀ j, j < l1.length → okAt l0 l1 j = true) (now : Int) (q : Nat) : (doneF l1 now q).length ≤ q := by
 rw [doneF_eq ho, castL_length]
 have := List.length_filter_le (fun t => (stM l1 l1.length).ov.testBit t && decide ((stM l1 l1.length).cl t ≤ now)) (List.range q)
 simpa using this
theorem done_l0 {l0 : List S47} {l1 : List S46} (h8 : l0.length ≤ 8) (hl1 : l1.length ≤ 16) (ho : ∀ j, j < l1.length → okAt l0 l1 j = true) (now : Int) : ∀ (d t k : Nat), t + d = l0.length → d * 20 + 1 ≤ k → spec_DoneBy.l0 k l0 l1 now (doneF l1 now t) (t : Int) = some (doneF l1 now l0.length) := by
 intro d
 induction d with
 | zero =>
  intro t k ht hk
  obtain ⟨k, rfl⟩ : ∃ m, k = m + 1 := ⟨k - 1, by omega⟩
  rw [spec_DoneBy.l0, if_neg (by omega), show t = l0.length by omega]
 | succ d ih =>
  intro t k ht hk
  obtain ⟨k, rfl⟩ : ∃ m, k = (m + l1.length + 1) + 1 := ⟨k - l1.length - 2, by omega⟩
  have hnx := nx (i := t) (m := 8) (by decide) (by omega)
  have hdl := doneF_len ho now t
  have h := done_l1 (l0 := l0) hl1 now t (doneF l1 now t) (by omega) l1.length 0 k (by omega)
  rw [show apS l1 now (t : Int) 0 = [] from rfl, List.append_nil, show ((0 : Nat) : Int) = 0 from rfl] at h
  rw [spec_DoneBy.l0, if_pos (by omega), h, hnx, ← doneF_succ]
  exact ih (t + 1) k (by omega) (by omega)
theorem doneGo_bits (cl : Nat → Int) (now : Int) : ∀ (L : List Nat) (s k : Nat), (L.foldl (doneStep cl now) s).testBit k = (s.testBit k || (L.contains k && decide (cl k ≤ now)))
 | [], s, k => by simp
 | x :: r, s, k => by
  rw [List.foldl_cons, doneGo_bits cl now r]
  unfold doneStep
  by_cases c : cl x ≤ now
  ·rw [if_pos c, testBit_or_pow]
   by_cases e : k = x
   ·subst e
    simp [c]
   ·simp [e]
  ·rw [if_neg c]
   by_cases e : k = x
   ·subst e
    simp [c]
   ·simp [e]
theorem doneN_elems {n : Nat} (hn : n ≤ 8) {cl : Nat → Int} {now : Int} {ov : Nat} (hov : ov < 2 ^ n) : elems (doneN cl now ov) = (List.range n).filter (fun t => ov.testBit t && decide (cl t ≤ now)) := by
 have ho16 : ov < 65536 := Nat.lt_trans (pow8 hn hov) (by decide)
 have hlt := doneGo_lt (n := n) cl now (elems ov) 0 (fun k hk => elems_lt hn hov hk) (Nat.two_pow_pos n)
 refine Bits.elems_eq (P := fun k => ov.testBit k = true ∧ cl k ≤ now) ⟨Nat.lt_trans (pow8 hn hlt) (by decide), fun k => ?_⟩ (List.Pairwise.filter _ List.pairwise_lt_range) (fun k => ?_)
 ·rw [doneGo_bits, Nat.zero_testBit, Bool.false_or, Bool.and_eq_true, decide_eq_true_eq, List.contains_iff_mem, mem_elems ho16]
 ·rw [List.mem_filter, List.mem_range, Bool.and_eq_true, decide_eq_true_eq]
  exact ⟨fun h => h.2, fun h => ⟨elems_lt hn hov ((mem_elems ho16).2 h.1), h⟩⟩
theorem specDoneBy_eq {l0 : List S47} {l1 : List S46} {B : Nat} (hB : B ≤ 4611686018427387904) (hs : Small B l0) (a2 : Int) (k : Nat) (hk : 2 * B + 400 < k) : spec_DoneBy.f k l0 l1 a2 = impl_DoneBy.f l0 l1 a2 := by
 unfold spec_DoneBy.f impl_DoneBy.f
 rw [validLog_eq hB hs k hk, Option.bind_some]
 cases c : okLog l0 l1 with
 | false => rfl
 | true =>
  obtain ⟨h1, h2, h3⟩ := okLog_gok c
  have h8 := gok8 h1
  have h := done_l0 h8 h2 h3 a2 l0.length 0 k (by omega) (by omega)
  rw [show doneF l1 a2 0 = [] from rfl, show ((0 : Nat) : Int) = 0 from rfl] at h
  rw [if_pos rfl, if_pos rfl, h, doneF_eq h3, doneN_elems h8 (stM_ok l1.length h3).ov]
end Go.Proofs.YtkafmfabkbmpbaaDoor.G
