/-
 The reference's words on logs: what eventFits, validLog, BusyTime, MostTogether compute, in the words of the program's machine.
-/
import Derived.Test.YtkafmfabkbmpbaaDoorHLog
import Derived.Test.YtkafmfabkbmpbaaDoorQSpec
import Derived.Test.YtkafmfabkbmpbaaDoorG0
import Derived.Test.YtkafmfabkbmpbaaDoorG1
import Derived.Test.YtkafmfabkbmpbaaDoorG2
import Derived.Test.YtkafmfabkbmpbaaDoorG3
import Derived.Test.YtkafmfabkbmpbaaDoorG4
import Derived.Test.YtkafmfabkbmpbaaDoorG5
namespace Go.Proofs.YtkafmfabkbmpbaaDoor.G
open Go.RowKit Go.Proofs.YtkafmfabkbmpbaaDoorW.PrintWords Go.Proofs.YtkafmfabkbmpbaaDoorW.PrintLast Go.Proofs.YtkafmfabkbmpbaaDoorW.PrintMore C
set_option linter.unusedVariables false
set_option linter.unusedSimpArgs false

theorem allDoneG_go {l0 l1 : List Int} (hl : l0.length ≤ 4611686018427387904) (hl1 : l1.length ≤ 4611686018427387904) : ∀ (rest pre : List Int) (k : Nat), l0 = pre ++ rest → rest.length + l1.length < k → spec_allDone.l0 k l0 l1 (pre.length : Int) = some (rest.all (fun x => l1.contains x)) := by
 intro rest
 induction rest with
 | nil =>
  intro pre k e hk
  obtain ⟨k, rfl⟩ : ∃ m, k = m + 1 := ⟨k - 1, by omega⟩
  rw [spec_allDone.l0, if_neg (by rw [e]; simp)]
  rfl
 | cons x r ih =>
  intro pre k e hk
  obtain ⟨k, rfl⟩ : ∃ m, k = m + 1 := ⟨k - 1, by omega⟩
  simp only [List.length_cons] at hk
  have hlt : pre.length < l0.length := by rw [e]; simp
  rw [spec_allDone.l0, if_pos (by omega), if_pos (by omega), show rd l0 (pre.length : Int) = x by rw [e]; exact rd_app _ _ _, nx hl hlt, isIn_eq hl1 _ _ (by omega)]
  simp only [Option.bind_some]
  have hih := ih (pre ++ [x]) k (by rw [e]; simp) (by omega)
  rw [List.length_append, List.length_singleton] at hih
  cases c : l1.contains x with
  | true => rw [if_pos rfl, hih, List.all_cons, c, Bool.true_and]
  | false => rw [if_neg (by decide), List.all_cons, c, Bool.false_and]
theorem allDoneG_eq {l0 l1 : List Int} (hl : l0.length ≤ 4611686018427387904) (hl1 : l1.length ≤ 4611686018427387904) (k : Nat) (hk : l0.length + l1.length < k) : spec_allDone.f k l0 l1 = some (l0.all (fun x => l1.contains x)) := allDoneG_go hl hl1 l0 [] k rfl hk
theorem inRangeG (a b c : Int) : spec_inRange.f a b c = some (decide (b ≤ a ∧ a ≤ c)) := by
 unfold spec_inRange.f
 by_cases h : b ≤ a
 ·rw [if_pos h]
  congr 1
  by_cases h2 : a ≤ c
  ·rw [decide_eq_true h2, decide_eq_true ⟨h, h2⟩]
  ·rw [decide_eq_false h2, decide_eq_false (fun x => h2 x.2)]
 ·rw [if_neg h, decide_eq_false (fun x => h x.1)]
/-- When a task began (-1: not yet), who is over: ahead of an event, as the reference looks back. -/
def begS (l1 : List S46) (t : Int) : Nat → Int
 | 0 => -1
 | j + 1 => if (rd_T46 l1 (j : Int)).f2 = true then begS l1 t j else if (rd_T46 l1 (j : Int)).f1 = t then (rd_T46 l1 (j : Int)).f0 else begS l1 t j
def ovS (l1 : List S46) : Nat → List Int
 | 0 => []
 | j + 1 => if (rd_T46 l1 (j : Int)).f2 = true then ovS l1 j ++ [(rd_T46 l1 (j : Int)).f1] else ovS l1 j
theorem ovS_len (l1 : List S46) : ∀ i, (ovS l1 i).length ≤ i
 | 0 => Nat.le_refl _
 | i + 1 => by
  have := ovS_len l1 i
  unfold ovS
  split
  ·rw [List.length_append, List.length_singleton]
   omega
  ·omega
/-- What eventFits answers. -/
def fitS (l0 : List S47) (l1 : List S46) (a : Nat) (e : S46) : Bool := if e.f2 = true then decide (begS l1 e.f1 a ≥ 0) && (!(ovS l1 a).contains e.f1 && decide (e.f0 = begS l1 e.f1 a + (rd_T47 l0 e.f1).f0)) else decide (begS l1 e.f1 a < 0) && (rd_T47 l0 e.f1).f1.all (fun x => (ovS l1 a).contains x)
theorem fits_l0 {l0 : List S47} {l1 : List S46} (hl1 : l1.length ≤ 16) {a : Nat} (ha : a ≤ l1.length) {e : S46} (he : 0 ≤ e.f1 ∧ e.f1 < (l0.length : Int)) (hb : -1 ≤ begS l1 e.f1 a ∧ begS l1 e.f1 a ≤ 200) (ht : 1 ≤ (rd_T47 l0 e.f1).f0 ∧ (rd_T47 l0 e.f1).f0 ≤ 20) (hn : (rd_T47 l0 e.f1).f1.length ≤ 8) :
  ∀ (d j k : Nat), j + d = a → d + 40 < k → spec_eventFits.l0 k l0 l1 (a : Int) (begS l1 e.f1 j) (ovS l1 j) (j : Int) e.f0 e.f1 e.f2 = some (fitS l0 l1 a e) := by
 intro d
 induction d with
 | zero =>
  intro j k hj hk
  obtain ⟨k, rfl⟩ : ∃ m, k = m + 1 := ⟨k - 1, by omega⟩
  have hja : j = a := by omega
  subst hja
  have hol := ovS_len l1 j
  unfold fitS
  rw [spec_eventFits.l0, if_neg (by omega)]
  cases c : e.f2 with
  | true =>
   rw [if_pos rfl, if_pos rfl]
   by_cases hg : begS l1 e.f1 j ≥ 0
   ·rw [if_pos hg, isIn_eq (by omega) _ _ (by omega), Option.bind_some, decide_eq_true hg, Bool.true_and]
    cases c2 : (ovS l1 j).contains e.f1 with
    | true => rw [if_pos rfl]; rfl
    | false =>
     rw [if_neg (by decide), if_pos he.1, if_pos he.2, w64 (by omega) (by omega)]
     congr 1
   ·rw [if_neg hg, decide_eq_false hg, Bool.false_and]
  | false =>
   rw [if_neg (show ¬ (false = true) by decide), if_neg (show ¬ (false = true) by decide)]
   by_cases hg : begS l1 e.f1 j < 0
   ·rw [if_pos hg, if_pos he.1, if_pos he.2, allDoneG_eq (by omega) (by omega) _ (by omega), Option.bind_some, decide_eq_true hg, Bool.true_and]
   ·rw [if_neg hg, decide_eq_false hg, Bool.false_and]
 | succ d ih =>
  intro j k hj hk
  obtain ⟨k, rfl⟩ : ∃ m, k = m + 1 := ⟨k - 1, by omega⟩
  have hj16 : j < 16 ∧ j < a := by clear ih hb ht hn he; omega
  have hnx := nx (i := j) (m := 16) (by decide) hj16.1
  have hih := ih (j + 1) k (by clear ih hb ht hn he; omega) (by clear ih hb ht hn he; omega)
  have hol := ovS_len l1 j
  clear ih hb ht hn he
  rw [spec_eventFits.l0, if_pos (by omega), if_pos (by omega), if_pos (by omega), hnx]
  rw [begS, ovS] at hih
  by_cases c : (rd_T46 l1 (j : Int)).f2 = true
  ·rw [if_pos c, if_pos (by omega)]
   rw [if_pos c, if_pos c] at hih
   exact hih
  ·rw [if_neg c]
   rw [if_neg c, if_neg c] at hih
   by_cases c2 : (rd_T46 l1 (j : Int)).f1 = e.f1
   ·rw [if_pos c2]
    rw [if_pos c2] at hih
    exact hih
   ·rw [if_neg c2]
    rw [if_neg c2] at hih
    exact hih
/-- The machine knows what the reference looks back for. -/
theorem beg_inv {n : Nat} (hn : n ≤ 8) (l1 : List S46) : ∀ (i : Nat), (∀ j, j < i → rngM n (rd_T46 l1 (j : Int)) = true) →
  (∀ t : Nat, begS l1 (t : Int) i = if (stM l1 i).bg.testBit t then (stM l1 i).be t else -1) ∧ (∀ t : Nat, (ovS l1 i).contains (t : Int) = (stM l1 i).ov.testBit t)
 | 0, _ => ⟨fun t => by simp [begS, stM, Mst.ini], fun t => by simp [ovS, stM, Mst.ini]⟩
 | i + 1, h => by
  obtain ⟨h1, h2⟩ := beg_inv hn l1 i (fun j hj => h j (by omega))
  obtain ⟨_, u, hu, hun⟩ := rng_of (h i (by omega))
  have eu : (rd_T46 l1 (i : Int)).f1.toNat = u := by omega
  by_cases c : (rd_T46 l1 (i : Int)).f2 = true
  ·have es : stM l1 (i + 1) = ⟨(stM l1 i).bg, (stM l1 i).ov ||| 2 ^ u, (stM l1 i).be, upd (stM l1 i).cl u (rd_T46 l1 (i : Int)).f0⟩ := by
    rw [stM]
    unfold stepM
    rw [if_pos c, eu]
   rw [es]
   refine ⟨fun t => ?_, fun t => ?_⟩
   ·rw [begS, if_pos c]
    exact h1 t
   ·rw [ovS, if_pos c, Nat.testBit_or, Nat.testBit_two_pow, ← h2 t, List.contains_append, hu]
    congr 1
    by_cases e : u = t
    ·subst e; simp
    ·rw [decide_eq_false e, List.contains_cons, List.contains_nil, Bool.or_false, beq_eq_false_iff_ne.2 (by omega)]
  ·have es : stM l1 (i + 1) = ⟨(stM l1 i).bg ||| 2 ^ u, (stM l1 i).ov, upd (stM l1 i).be u (rd_T46 l1 (i : Int)).f0, (stM l1 i).cl⟩ := by
    rw [stM]
    unfold stepM
    rw [if_neg c, eu]
   rw [es]
   refine ⟨fun t => ?_, fun t => ?_⟩
   ·rw [begS, if_neg c, hu]
    show _ = if ((stM l1 i).bg ||| 2 ^ u).testBit t = true then upd (stM l1 i).be u (rd_T46 l1 (i : Int)).f0 t else -1
    rw [Nat.testBit_or, Nat.testBit_two_pow]
    by_cases e : u = t
    ·subst e
     rw [if_pos rfl, decide_eq_true rfl, Bool.or_true, if_pos rfl, upd_at]
    ·rw [if_neg (by omega), decide_eq_false e, Bool.or_false, upd_ne _ (fun h => e h.symm)]
     exact h1 t
   ·rw [ovS, if_neg c]
    exact h2 t
theorem needs_all {l0 : List S47} (h : fine l0 = true) {t : Nat} (ht : t < l0.length) {l : List Int} {ov : Nat} (hov : ov < 65536) (hl : ∀ k : Nat, l.contains (k : Int) = ov.testBit k) : (rd_T47 l0 (t : Int)).f1.all (fun x => l.contains x) = decide (andNot ((ndm l0).getD t 0) ov = 0) := by
 have hb := (ndm_bits h ht).andNot (b := ov) (Q := fun k => ov.testBit k = true) ⟨hov, fun _ => Iff.rfl⟩
 have h0 := (needs_len h ht).2
 rw [Bool.eq_iff_iff, decide_eq_true_eq, hb.eq_zero, List.all_eq_true]
 constructor
 ·rintro hx k ⟨hk, hn⟩
  obtain ⟨x, hxm, rfl⟩ := List.mem_map.1 hk
  have h1 := hx x hxm
  have h2 := h0 x hxm
  rw [show x = ((x.toNat : Nat) : Int) by omega, hl] at h1
  exact hn h1
 ·intro hx x hxm
  have h2 := h0 x hxm
  rw [show x = ((x.toNat : Nat) : Int) by omega, hl]
  have := hx x.toNat
  cases c : ov.testBit x.toNat with
  | true => rfl
  | false => exact absurd ⟨List.mem_map.2 ⟨x, hxm, rfl⟩, by rw [c]; decide⟩ this
theorem fitS_eq {l0 : List S47} {l1 : List S46} (hf : fine l0 = true) {i : Nat} (hr : ∀ j, j < i → rngM l0.length (rd_T46 l1 (j : Int)) = true) (hs : OkS l0.length (stM l1 i)) {e : S46} (he : rngM l0.length e = true) :
  fitS l0 l1 i e = fitM l0 (stM l1 i) e ∧ -1 ≤ begS l1 e.f1 i ∧ begS l1 e.f1 i ≤ 200 := by
 have h8 := (fine_task hf).1
 obtain ⟨_, t, ht, htn⟩ := rng_of he
 obtain ⟨h1, h2⟩ := beg_inv h8 l1 i hr
 have et : e.f1.toNat = t := by omega
 have hbt := hs.be t
 have h1t := h1 t
 have hov : (stM l1 i).ov < 65536 := Nat.lt_trans (pow8 h8 hs.ov) (by decide)
 unfold fitS fitM
 rw [et, ht, h2 t, needs_all hf htn hov h2, h1t]
 refine ⟨?_, ?_⟩
 ·by_cases c : e.f2 = true
  ·rw [if_pos c, if_pos c]
   cases c1 : (stM l1 i).bg.testBit t with
   | true => rw [if_pos rfl, decide_eq_true (show (stM l1 i).be t ≥ 0 from hbt.1)]
   | false => rfl
  ·rw [if_neg c, if_neg c]
   cases c1 : (stM l1 i).bg.testBit t with
   | true =>
    rw [if_pos rfl, decide_eq_false (by omega)]
    rfl
   | false => rfl
 ·split <;> omega
theorem eventFits_eq {l0 : List S47} {l1 : List S46} (hf : fine l0 = true) (hl1 : l1.length ≤ 16) {i : Nat} (hi : i < l1.length) (hr : ∀ j, j < i → rngM l0.length (rd_T46 l1 (j : Int)) = true) (hs : OkS l0.length (stM l1 i)) (he : rngM l0.length (rd_T46 l1 (i : Int)) = true) (k : Nat) (hk : 100 ≤ k) :
  spec_eventFits.f k l0 l1 (i : Int) = some (fitM l0 (stM l1 i) (rd_T46 l1 (i : Int))) := by
 obtain ⟨h1, hb⟩ := fitS_eq hf hr hs he
 obtain ⟨_, t, ht, htn⟩ := rng_of he
 rw [← h1]
 unfold spec_eventFits.f
 rw [if_pos (by omega), if_pos (by omega)]
 exact fits_l0 hl1 (Nat.le_of_lt hi) (by omega) hb (by rw [ht]; exact fine_time hf htn) (by rw [ht]; exact (needs_len hf htn).1) i 0 k (by omega) (by omega)
theorem validLog_l0 {l0 : List S47} {l1 : List S46} (hf : fine l0 = true) (hl1 : l1.length ≤ 16) : ∀ (d i k : Nat), i + d = l1.length → d + 200 ≤ k → (∀ j, j < i → okAt l0 l1 j = true) → spec_validLog.l0 k l0 l1 (i : Int) = some (decide (∀ j, j < l1.length → okAt l0 l1 j = true)) := by
 have h8 := (fine_task hf).1
 intro d
 induction d with
 | zero =>
  intro i k hi hk ho
  obtain ⟨k, rfl⟩ : ∃ m, k = m + 1 := ⟨k - 1, by omega⟩
  rw [spec_validLog.l0, if_neg (by omega), decide_eq_true (fun j hj => ho j (by omega))]
 | succ d ih =>
  intro i k hi hk ho
  obtain ⟨k, rfl⟩ : ∃ m, k = m + 1 := ⟨k - 1, by omega⟩
  have hnx := nx (i := i) (m := 16) (by omega) (by omega)
  have hn1 : wrap64 ((l0.length : Int) - 1) = (l0.length : Int) - 1 := w64 (by omega) (by omega)
  have hs := stM_ok i ho
  have hrg : ∀ j, j < i → rngM l0.length (rd_T46 l1 (j : Int)) = true := fun j hj => okAt_rng (ho j hj)
  have hno : okAt l0 l1 i = false → some false = some (decide (∀ j, j < l1.length → okAt l0 l1 j = true)) := fun h => by
   rw [decide_eq_false (fun hx => by rw [hx i (by omega)] at h; cases h)]
  have hyes : okAt l0 l1 i = true → spec_validLog.l0 k l0 l1 (wrap64 ((i : Int) + 1)) = some (decide (∀ j, j < l1.length → okAt l0 l1 j = true)) := fun h => by
   rw [hnx]
   exact ih (i + 1) k (by omega) (by omega) (fun j hj => by
    rcases Nat.lt_succ_iff_lt_or_eq.1 hj with c | c
    ·exact ho j c
    ·rw [c]; exact h)
  rw [spec_validLog.l0, if_pos (by omega), if_pos (by omega), inRangeG, Option.bind_some]
  obtain ⟨e, he⟩ : ∃ e, rd_T46 l1 (i : Int) = e := ⟨_, rfl⟩
  have hok : okAt l0 l1 i = (decide (i = 0 ∨ atM l1 (i - 1) ≤ e.f0) && (rngM l0.length e && fitM l0 (stM l1 i) e)) := by
   unfold okAt okM atM
   rw [he]
  have hfit := fun (hrr : rngM l0.length e = true) => eventFits_eq hf hl1 (show i < l1.length by omega) hrg hs (by rw [he]; exact hrr) k (by omega)
  rw [he] at hfit ⊢
  by_cases c1 : 0 ≤ e.f0 ∧ e.f0 ≤ 200
  ·rw [decide_eq_true c1, if_pos rfl]
   have hrest : (i = 0 ∨ atM l1 (i - 1) ≤ e.f0) → ((spec_inRange.f e.f1 0 (wrap64 ((l0.length : Int) - 1))).bind fun t => if t = true then (spec_eventFits.f k l0 l1 (i : Int)).bind fun t => if t = true then spec_validLog.l0 k l0 l1 (wrap64 ((i : Int) + 1)) else some false else some false) = some (decide (∀ j, j < l1.length → okAt l0 l1 j = true)) := fun hp => by
    rw [inRangeG, Option.bind_some, hn1]
    rw [decide_eq_true hp, Bool.true_and] at hok
    by_cases c2 : 0 ≤ e.f1 ∧ e.f1 ≤ (l0.length : Int) - 1
    ·have hrr : rngM l0.length e = true := by unfold rngM; rw [decide_eq_true c1, decide_eq_true c2]; rfl
     rw [decide_eq_true c2, if_pos rfl, hfit hrr, Option.bind_some]
     rw [hrr, Bool.true_and] at hok
     cases c3 : fitM l0 (stM l1 i) e with
     | true => rw [if_pos rfl]; exact hyes (by rw [hok, c3])
     | false => rw [if_neg (by decide)]; exact hno (by rw [hok, c3])
    ·have hrr : rngM l0.length e = false := by unfold rngM; rw [decide_eq_false c2, Bool.and_false]
     rw [decide_eq_false c2, if_neg (by decide)]
     exact hno (by rw [hok, hrr]; rfl)
   by_cases c2 : i = 0
   ·rw [if_neg (by omega)]
    exact hrest (.inl c2)
   ·have hw : wrap64 ((i : Int) - 1) = ((i - 1 : Nat) : Int) := by rw [w64 (by omega) (by omega)]; omega
    rw [if_pos (by omega), hw, if_pos (by omega), if_pos (by omega)]
    by_cases c3 : e.f0 < (rd_T46 l1 ((i - 1 : Nat) : Int)).f0
    ·rw [if_pos c3]
     have hnp : ¬ (i = 0 ∨ atM l1 (i - 1) ≤ e.f0) := by
      unfold atM
      omega
     exact hno (by rw [hok, decide_eq_false hnp, Bool.false_and])
    ·rw [if_neg c3]
     exact hrest (.inr (by unfold atM; omega))
  ·have hrr : rngM l0.length e = false := by unfold rngM; rw [decide_eq_false c1]; rfl
   rw [decide_eq_false c1, if_neg (by decide)]
   exact hno (by rw [hok, hrr, Bool.false_and, Bool.and_false])
theorem validLog_eq {l0 : List S47} {l1 : List S46} {B : Nat} (hB : B ≤ 4611686018427387904) (hs : Small B l0) (k : Nat) (hk : 2 * B + 400 < k) : spec_validLog.f k l0 l1 = some (okLog l0 l1) := by
 unfold spec_validLog.f okLog
 rw [validGraph_eq hB hs k hk, Option.bind_some]
 obtain ⟨k, rfl⟩ : ∃ m, k = m + 1 := ⟨k - 1, by omega⟩
 cases hg : gok l0 with
 | false => rw [if_neg (by decide), spec_validLog.j0, if_pos rfl]; rfl
 | true =>
  rw [if_pos rfl, spec_validLog.j0, Bool.true_and]
  by_cases c : l1.length ≤ 16
  ·rw [decide_eq_false (by omega), if_neg (by decide), decide_eq_true c, Bool.true_and]
   have h := validLog_l0 (gok_fine hg) c l1.length 0 k (by omega) (by omega) (fun j hj => by omega)
   rw [show ((0 : Nat) : Int) = 0 from rfl] at h
   rw [h]
   congr 1
   rw [Bool.eq_iff_iff, decide_eq_true_eq, List.all_eq_true]
   exact ⟨fun hx x hxm => hx x (List.mem_range.1 hxm), fun hx x hxm => hx x (List.mem_range.2 hxm)⟩
  ·rw [decide_eq_true (by omega), if_pos rfl, decide_eq_false c, Bool.false_and]
theorem elems_nodup (m : Nat) : (elems m).Nodup := (elems_sorted m).imp (fun h => Nat.ne_of_lt h)
/-- A number more in a set. -/
theorem elems_more {a b u : Nat} (ha : a < 65536) (hb : b < 65536) (hu : a.testBit u = false) (h : ∀ k, b.testBit k = (a.testBit k || decide (k = u))) : (elems b).Perm (elems a ++ [u]) := by
 refine (List.perm_ext_iff_of_nodup (elems_nodup b) ?_).2 (fun x => ?_)
 ·rw [List.nodup_append]
  refine ⟨elems_nodup a, by simp, fun x hx y hy e => ?_⟩
  rw [List.mem_singleton] at hy
  have := (mem_elems ha).1 hx
  rw [e, hy, hu] at this
  cases this
 ·rw [mem_elems hb, List.mem_append, mem_elems ha, List.mem_singleton, h, Bool.or_eq_true, decide_eq_true_eq]
theorem tsum_perm (l0 : List S47) {l l' : List Nat} (h : l.Perm l') : tsum l0 l = tsum l0 l' := h.foldl_eq' (fun x _ y _ z => by omega) 0
theorem testBit_or_pow (m u k : Nat) : (m ||| 2 ^ u).testBit k = (m.testBit k || decide (k = u)) := by
 rw [Nat.testBit_or, Nat.testBit_two_pow]
 congr 1
 exact decide_eq_decide.2 ⟨fun h => h.symm, fun h => h.symm⟩
/-- What an event that is taken changes. -/
theorem step_cases {l0 : List S47} {s : Mst} {e : S46} (h : okM l0 s e = true) : ∃ u : Nat, e.f1 = (u : Int) ∧ u < l0.length ∧
  ((e.f2 = true ∧ s.bg.testBit u = true ∧ s.ov.testBit u = false ∧ (stepM s e).bg = s.bg ∧ (stepM s e).ov = s.ov ||| 2 ^ u) ∨ (e.f2 = false ∧ s.bg.testBit u = false ∧ (stepM s e).bg = s.bg ||| 2 ^ u ∧ (stepM s e).ov = s.ov)) := by
 unfold okM at h
 rw [Bool.and_eq_true] at h
 obtain ⟨_, u, hu, hun⟩ := rng_of h.1
 have eu : e.f1.toNat = u := by omega
 have h2 := h.2
 unfold fitM at h2
 refine ⟨u, hu, hun, ?_⟩
 unfold stepM
 rw [eu] at h2 ⊢
 cases c : e.f2 with
 | true =>
  rw [if_pos c] at h2
  simp only [Bool.and_eq_true, Bool.not_eq_true'] at h2
  exact .inl ⟨rfl, h2.1, h2.2.1, rfl, rfl⟩
 | false =>
  rw [if_neg (by rw [c]; decide)] at h2
  simp only [Bool.and_eq_true, Bool.not_eq_true'] at h2
  exact .inr ⟨rfl, h2.1, rfl, rfl⟩
/-- Who is over has begun. -/
theorem ov_bg {l0 : List S47} {l1 : List S46} : ∀ (i : Nat), (∀ j, j < i → okAt l0 l1 j = true) → ∀ t, (stM l1 i).ov.testBit t = true → (stM l1 i).bg.testBit t = true
 | 0, _, t, h => by simp [stM, Mst.ini] at h
 | i + 1, ho, t, h => by
  have ih := ov_bg i (fun j hj => ho j (by omega)) t
  have hk := ho i (by omega)
  unfold okAt at hk
  rw [Bool.and_eq_true] at hk
  obtain ⟨u, _, _, ⟨_, c1, _, c3, c4⟩ | ⟨_, _, c3, c4⟩⟩ := step_cases hk.2
  ·rw [stM, c4, testBit_or_pow, Bool.or_eq_true, decide_eq_true_eq] at h
   rw [stM, c3]
   rcases h with h | h
   ·exact ih h
   ·rw [h]; exact c1
  ·rw [stM, c4] at h
   rw [stM, c3, testBit_or_pow, ih h, Bool.true_or]
theorem okAt_okM {l0 : List S47} {l1 : List S46} {i : Nat} (h : okAt l0 l1 i = true) : okM l0 (stM l1 i) (rd_T46 l1 (i : Int)) = true := by
 unfold okAt at h
 rw [Bool.and_eq_true] at h
 exact h.2
theorem tsum_bdL {l0 : List S47} (hf : fine l0 = true) : ∀ (L : List Nat) (a : Int), (∀ i, i ∈ L → i < l0.length) → a ≤ L.foldl (fun (s : Int) (i : Nat) => s + (rd_T47 l0 (i : Int)).f0) a ∧ L.foldl (fun (s : Int) (i : Nat) => s + (rd_T47 l0 (i : Int)).f0) a ≤ a + 20 * (L.length : Int)
 | [], a, _ => by simp
 | x :: r, a, h => by
  have ih := tsum_bdL hf r (a + (rd_T47 l0 (x : Int)).f0) (fun i hi => h i (by simp [hi]))
  have hx := fine_time hf (h x (by simp))
  rw [List.foldl_cons, List.length_cons]
  constructor <;> omega
/-- The time of those over, the number of those that run. -/
def busyN (l0 : List S47) (l1 : List S46) (i : Nat) : Int := tsum l0 (elems (stM l1 i).ov)
def runN (l1 : List S46) (i : Nat) : Int := ((elems (andNot (stM l1 i).bg (stM l1 i).ov)).length : Int)
theorem busyN_bd {l0 : List S47} {l1 : List S46} (hf : fine l0 = true) {i : Nat} (hs : OkS l0.length (stM l1 i)) : 0 ≤ busyN l0 l1 i ∧ busyN l0 l1 i ≤ 320 := by
 have h8 := (fine_task hf).1
 have h := tsum_bdL hf (elems (stM l1 i).ov) 0 (fun x hx => elems_lt h8 hs.ov hx)
 have hl := elems_len (stM l1 i).ov
 unfold busyN tsum
 omega
theorem runN_bd (l1 : List S46) (i : Nat) : 0 ≤ runN l1 i ∧ runN l1 i ≤ 16 := by
 have hl := elems_len (andNot (stM l1 i).bg (stM l1 i).ov)
 unfold runN
 omega
theorem bits16 {a : Nat} (h : a < 65536) : Bits a (fun k => a.testBit k = true) := ⟨h, fun _ => Iff.rfl⟩
theorem andNot_bit {a b : Nat} (ha : a < 65536) (hb : b < 65536) (k : Nat) : (andNot a b).testBit k = (a.testBit k && !b.testBit k) := by
 have := ((bits16 ha).andNot (bits16 hb)).iff k
 rw [Bool.eq_iff_iff, this, Bool.and_eq_true, Bool.not_eq_true', Bool.not_eq_true]
theorem busyN_step {l0 : List S47} {l1 : List S46} (hf : fine l0 = true) {i : Nat} (ho : ∀ j, j < i + 1 → okAt l0 l1 j = true) : busyN l0 l1 (i + 1) = if (rd_T46 l1 (i : Int)).f2 = true then busyN l0 l1 i + (rd_T47 l0 (rd_T46 l1 (i : Int)).f1).f0 else busyN l0 l1 i := by
 have h8 := (fine_task hf).1
 have hs := stM_ok i (fun j hj => ho j (by omega))
 have hs1 := stM_ok (i + 1) ho
 obtain ⟨u, hu, hun, ⟨c0, c1, c2, c3, c4⟩ | ⟨c0, c1, c3, c4⟩⟩ := step_cases (okAt_okM (ho i (by omega)))
 ·rw [if_pos c0, hu]
  unfold busyN
  rw [← tsum_snoc]
  refine tsum_perm l0 (elems_more (Nat.lt_trans (pow8 h8 hs.ov) (by decide)) (Nat.lt_trans (pow8 h8 hs1.ov) (by decide)) c2 (fun k => ?_))
  rw [stM, c4, testBit_or_pow]
 ·rw [if_neg (by rw [c0]; decide)]
  unfold busyN
  rw [stM, c4]
theorem runN_step {l0 : List S47} {l1 : List S46} (hf : fine l0 = true) {i : Nat} (ho : ∀ j, j < i + 1 → okAt l0 l1 j = true) : runN l1 (i + 1) = runN l1 i + 1 - 2 * (if (rd_T46 l1 (i : Int)).f2 = true then 1 else 0) := by
 have h8 := (fine_task hf).1
 have hs := stM_ok i (fun j hj => ho j (by omega))
 have hs1 := stM_ok (i + 1) ho
 have b0 : (stM l1 i).bg < 65536 := Nat.lt_trans (pow8 h8 hs.bg) (by decide)
 have o0 : (stM l1 i).ov < 65536 := Nat.lt_trans (pow8 h8 hs.ov) (by decide)
 have b1 : (stM l1 (i + 1)).bg < 65536 := Nat.lt_trans (pow8 h8 hs1.bg) (by decide)
 have o1 : (stM l1 (i + 1)).ov < 65536 := Nat.lt_trans (pow8 h8 hs1.ov) (by decide)
 have r0 : andNot (stM l1 i).bg (stM l1 i).ov < 65536 := Nat.lt_of_le_of_lt Nat.and_le_left b0
 have r1 : andNot (stM l1 (i + 1)).bg (stM l1 (i + 1)).ov < 65536 := Nat.lt_of_le_of_lt Nat.and_le_left b1
 have hsub := ov_bg (l0 := l0) i (fun j hj => ho j (by omega))
 obtain ⟨u, hu, hun, ⟨c0, c1, c2, c3, c4⟩ | ⟨c0, c1, c3, c4⟩⟩ := step_cases (okAt_okM (ho i (by omega)))
 ·rw [if_pos c0]
  have hp := (elems_more (u := u) r1 r0 (by rw [andNot_bit b1 o1, stM, c3, c4, testBit_or_pow]; simp) (fun k => by
   rw [andNot_bit b1 o1, andNot_bit b0 o0, stM, c3, c4, testBit_or_pow]
   by_cases e : k = u
   ·subst e
    rw [c1, c2]
    simp
   ·rw [decide_eq_false e]
    simp)).length_eq
  rw [List.length_append, List.length_singleton] at hp
  unfold runN
  omega
 ·rw [if_neg (by rw [c0]; decide)]
  have hov : (stM l1 i).ov.testBit u = false := by
   cases c : (stM l1 i).ov.testBit u with
   | false => rfl
   | true => rw [hsub u c] at c1; cases c1
  have hp := (elems_more (u := u) r0 r1 (by rw [andNot_bit b0 o0, c1, Bool.false_and]) (fun k => by
   rw [andNot_bit b1 o1, andNot_bit b0 o0, stM, c3, c4, testBit_or_pow]
   by_cases e : k = u
   ·subst e
    rw [c1, hov]
    simp
   ·rw [decide_eq_false e]
    simp)).length_eq
  rw [List.length_append, List.length_singleton] at hp
  unfold runN
  omega
/-! ### Copies of events -/
def toEv (l : List S50) : List S46 := l.map (fun e => ⟨e.f0, e.f1, e.f2⟩)
theorem toEv_length (l : List S50) : (toEv l).length = l.length := by simp [toEv]
theorem rd_toEv (l : List S50) {i : Nat} (hi : i < l.length) : (toEv l)[i]? = some ⟨(rd_T50 l (i : Int)).f0, (rd_T50 l (i : Int)).f1, (rd_T50 l (i : Int)).f2⟩ := by
 unfold toEv rd_T50
 rw [List.getElem?_map, Int.toNat_natCast, List.getD_eq_getElem?_getD, List.getElem?_eq_getElem hi]
 rfl
theorem toEventS_l0 (l : List S50) (hl : l.length ≤ 1048576) : ∀ (d i k : Nat) (m : List S46), i + d = l.length → d < k → m.length = l.length → m.take i = (toEv l).take i → laws_toEventS.l0 k l m (i : Int) = some (toEv l) := by
 intro d
 induction d with
 | zero =>
  intro i k m hi hk hm h
  obtain ⟨k, rfl⟩ : ∃ m, k = m + 1 := ⟨k - 1, by omega⟩
  rw [laws_toEventS.l0, if_neg (by omega)]
  rw [List.take_of_length_le (by omega), List.take_of_length_le (by rw [toEv_length]; omega)] at h
  rw [h]
 | succ d ih =>
  intro i k m hi hk hm h
  obtain ⟨k, rfl⟩ : ∃ m, k = m + 1 := ⟨k - 1, by omega⟩
  have hnx := nx (i := i) (m := 1048576) (by decide) (by omega)
  rw [laws_toEventS.l0, if_pos (by omega), if_pos (by omega), show laws_toEvent.f (rd_T50 l (i : Int)).f0 (rd_T50 l (i : Int)).f1 (rd_T50 l (i : Int)).f2 = some ((rd_T50 l (i : Int)).f0, (rd_T50 l (i : Int)).f1, (rd_T50 l (i : Int)).f2) from rfl, Option.bind_some, if_pos (by omega), hnx]
  refine ih (i + 1) k _ (by omega) (by omega) (by rw [List.length_set]; exact hm) ?_
  rw [Int.toNat_natCast, List.take_add_one, List.take_add_one, List.take_set_of_le (Nat.le_refl _), h, List.getElem?_set_self (by omega), rd_toEv l (by omega)]
theorem toEventS_eq (l : List S50) (k : Nat) (hl : l.length ≤ 1048576) (hk : l.length < k) : laws_toEventS.f k l = some (toEv l) := by
 unfold laws_toEventS.f
 rw [if_pos (by omega), if_pos (by omega)]
 exact toEventS_l0 l hl l.length 0 k _ (by omega) hk (by simp) (by simp)
theorem eqEventS_l0 (l : List S46) (hl : l.length ≤ 1048576) : ∀ (d i k : Nat), i + d = l.length → d < k → laws_eqEventS.l0 k l l (i : Int) = some true := by
 intro d
 induction d with
 | zero =>
  intro i k hi hk
  obtain ⟨k, rfl⟩ : ∃ m, k = m + 1 := ⟨k - 1, by omega⟩
  rw [laws_eqEventS.l0, if_neg (by omega)]
 | succ d ih =>
  intro i k hi hk
  obtain ⟨k, rfl⟩ : ∃ m, k = m + 1 := ⟨k - 1, by omega⟩
  have hnx := nx (i := i) (m := 1048576) (by decide) (by omega)
  rw [laws_eqEventS.l0, if_pos (by omega), if_pos (by omega), if_pos (by omega)]
  unfold laws_eqEvent.f
  rw [if_pos rfl, if_pos rfl, if_neg (by simp), Option.bind_some, if_pos rfl, hnx]
  exact ih (i + 1) k (by omega) (by omega)
theorem eqEventS_refl (l : List S46) (k : Nat) (hl : l.length ≤ 1048576) (hk : l.length < k) : laws_eqEventS.f k l l = some true := by
 unfold laws_eqEventS.f
 rw [if_pos rfl]
 exact eqEventS_l0 l hl l.length 0 k (by omega) hk
theorem szEventS_eq (l : List S50) (a : Int) (ha : 0 ≤ a ∧ a ≤ 1048576) (hl : l.length ≤ 9223372036854775807) : (laws_szEventS.f l a = some (-1)) ∨ (∃ s, laws_szEventS.f l a = some s ∧ ¬ s < 0 ∧ l.length ≤ 1048576) := by
 have hw : wrap64 (a - (l.length : Int)) = a - (l.length : Int) := w64 (by omega) (by omega)
 unfold laws_szEventS.f
 rw [hw]
 by_cases c : a - (l.length : Int) < 0
 ·rw [if_pos c]; exact .inl rfl
 ·rw [if_neg c]; exact .inr ⟨_, rfl, c, by omega⟩
end Go.Proofs.YtkafmfabkbmpbaaDoor.G
