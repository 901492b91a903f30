/-
 Stale tasks: the program's set is the reference model's.
-/
import Derived.Test.YtcmhdcjdgchnfaaDoorQSpec
import Derived.Test.YtcmhdcjdgchnfaaDoorHStale
import Derived.Test.YtcmhdcjdgchnfaaDoorG0
import Derived.Test.YtcmhdcjdgchnfaaDoorG10
namespace Go.Proofs.YtcmhdcjdgchnfaaDoor.G
open Go.RowKit Go.Proofs.YtcmhdcjdgchnfaaDoorW.PrintWords Go.Proofs.YtcmhdcjdgchnfaaDoorW.PrintLast Go.Proofs.YtcmhdcjdgchnfaaDoorW.PrintMore C
set_option linter.unusedVariables false
set_option linter.unusedSimpArgs false

theorem staleN_bits {l0 : List S69} (hg : gok l0 = true) {s : Nat} {S : Nat → Prop} (hs : Bits s S) : ∀ (done : List Nat), Pre l0.length (nds l0) done → Bits (staleN (ndm l0) done s) (fun i => S i ∨ (i ∈ done ∧ ∃ c, S c ∧ C.Reach (nds l0) i c)) := by
 intro done
 induction done using snoc_ind with
 | h0 => intro _; exact hs.congr (fun i => by simp)
 | hs pre x ih =>
  intro hp
  have hpre : Pre l0.length (nds l0) pre := ⟨fun i hi => hp.lt i (by simp [hi]), (List.nodup_append.1 hp.nodup).1, fun a b c e k hk => hp.needs a b (c ++ [x]) (by rw [e]; simp) k hk⟩
  have hb := ih hpre
  have hxn : x < l0.length := hp.lt x (by simp)
  have hks : ∀ k, k ∈ nds l0 x → k ∈ pre := fun k hk => hp.needs pre x [] rfl k hk
  have hand := Bits.and (ndm_bits (gok_fine hg) hxn) hb
  rw [staleN_snoc]
  have hiff : (∃ k, k ∈ nds l0 x ∧ (S k ∨ (k ∈ pre ∧ ∃ c, S c ∧ C.Reach (nds l0) k c))) ↔ ∃ c, S c ∧ C.Reach (nds l0) x c := by
   constructor
   ·rintro ⟨k, hk, h | ⟨_, c, hc, hr⟩⟩
    ·exact ⟨k, h, .base hk⟩
    ·exact ⟨c, hc, .step hk hr⟩
   ·rintro ⟨c, hc, hr⟩
    obtain ⟨k, hk, e | hr'⟩ := reach_iff.1 hr
    ·exact ⟨k, hk, .inl (e ▸ hc)⟩
    ·exact ⟨k, hk, .inr ⟨hks k hk, c, hc, hr'⟩⟩
  by_cases c : (ndm l0).getD x 0 &&& staleN (ndm l0) pre s = 0
  ·rw [if_pos c]
   have hno := hand.eq_zero.1 c
   refine hb.congr (fun i => ?_)
   constructor
   ·rintro (h | ⟨h, h'⟩)
    ·exact .inl h
    ·exact .inr ⟨by simp [h], h'⟩
   ·rintro (h | ⟨h, h'⟩)
    ·exact .inl h
    ·rcases List.mem_append.1 h with h | h
     ·exact .inr ⟨h, h'⟩
     ·obtain rfl := List.mem_singleton.1 h
      obtain ⟨k, hk⟩ := hiff.2 h'
      exact absurd hk (hno k)
  ·rw [if_neg c]
   have hyes : ∃ c, S c ∧ C.Reach (nds l0) x c := by
    apply hiff.1
    apply Classical.byContradiction
    intro hn
    exact c (hand.eq_zero.2 (fun k hk => hn ⟨k, hk⟩))
   refine (hb.or (Bits.pow (k := x) (by have := gok8 hg; omega))).congr (fun i => ?_)
   constructor
   ·rintro ((h | ⟨h, h'⟩) | h)
    ·exact .inl h
    ·exact .inr ⟨by simp [h], h'⟩
    ·exact .inr ⟨by simp [h], h ▸ hyes⟩
   ·rintro (h | ⟨h, h'⟩)
    ·exact .inl (.inl h)
    ·rcases List.mem_append.1 h with h | h
     ·exact .inl (.inr ⟨h, h'⟩)
     ·exact .inr (List.mem_singleton.1 h)
theorem asc_bits {n : Nat} (hn : n ≤ 8) {l : List Int} (h : ascB n (-1) l = true) : Bits (maskGo 0 l) (fun i => (i : Int) ∈ l) :=
 (maskGo_bits hn l 0 _ Bits.zero (fun x hx => ⟨by have := ascB_mem h x hx; omega, (ascB_mem h x hx).2⟩)).congr (fun i => by simp)
/-- Task i is stale. -/
def Stale (l0 : List S69) (l1 : List Int) (i : Nat) : Prop := (i : Int) ∈ l1 ∨ ∃ c : Nat, (c : Int) ∈ l1 ∧ C.Reach (nds l0) i c
theorem sok_parts {l0 : List S69} {l1 : List Int} (h : sok l0 l1 = true) : gok l0 = true ∧ ascB l0.length (-1) l1 = true := by
 unfold sok at h
 simpa only [Bool.and_eq_true] using h
theorem stN_bits {l0 : List S69} {l1 : List Int} (h : sok l0 l1 = true) : Bits (stN l0 l1) (fun i => i < l0.length ∧ Stale l0 l1 i) := by
 obtain ⟨hg, ha⟩ := sok_parts h
 refine (staleN_bits hg (asc_bits (gok8 hg) ha) (ord l0) (topo_pre _ _)).congr (fun i => ?_)
 rw [ord_mem hg]
 constructor
 ·rintro (h1 | ⟨h1, h2⟩)
  ·have := ascB_mem ha _ h1
   exact ⟨by omega, .inl h1⟩
  ·exact ⟨h1, .inr h2⟩
 ·rintro ⟨h1, h2 | h2⟩
  ·exact .inl h2
  ·exact .inr ⟨h1, h2⟩
section
variable {l0 : List S69} {l1 : List Int}
/-- Some change is needed. -/
def anyN (l0 : List S69) (i : Nat) (rest : List Int) : Bool := rest.any (fun c => (elems ((bel l0).getD i 0)).contains c.toNat)
theorem stale_l1 (h : sok l0 l1 = true) (hl : l1.length ≤ 8) (out : List Nat) (hout : out.length ≤ 8) (i : Nat) (hi : i < l0.length) : ∀ (rest pre : List Int) (b : Bool) (k : Nat), l1 = pre ++ rest → rest.length + 20 < k →
  ∃ k', k ≤ k' + rest.length + 1 ∧ spec_stale.l1 k l0 l1 (castL out) (i : Int) (castL (elems ((bel l0).getD i 0))) b (pre.length : Int) = spec_stale.l0 k' l0 l1 (castL (if (b || anyN l0 i rest) = true then out ++ [i] else out)) (wrap64 ((i : Int) + 1)) := by
 obtain ⟨hg, ha⟩ := sok_parts h
 intro rest
 induction rest with
 | nil =>
  intro pre b k e hk
  obtain ⟨k, rfl⟩ : ∃ m, k = m + 1 := ⟨k - 1, by omega⟩
  refine ⟨k, by simp, ?_⟩
  rw [spec_stale.l1, if_neg (by rw [e]; simp)]
  cases b with
  | true => rw [if_pos rfl, if_pos (by rw [castL_length]; omega), if_pos (by rfl), castL_snoc]
  | false => rw [if_neg (by decide), if_neg (by simp [anyN])]
 | cons c r ih =>
  intro pre b k e hk
  obtain ⟨k, rfl⟩ : ∃ m, k = m + 1 := ⟨k - 1, by omega⟩
  simp only [List.length_cons] at hk
  have hlt : pre.length < l1.length := by rw [e]; simp
  have hc0 : 0 ≤ c := by have := ascB_mem ha c (by rw [e]; simp); omega
  have hnw : wrap64 ((pre.length : Int) + 1) = ((pre ++ [c]).length : Int) := by rw [nx (m := 8) (by omega) (by omega)]; simp
  rw [spec_stale.l1, if_pos (by omega), hnw]
  cases b with
  | true =>
   rw [if_pos rfl]
   obtain ⟨k', hk', e'⟩ := ih (pre ++ [c]) true k (by rw [e]; simp) (by omega)
   exact ⟨k', by simp only [List.length_cons]; omega, by rw [e']; simp⟩
  | false =>
   have hel := elems_len ((bel l0).getD i 0)
   rw [if_neg (by decide), if_pos (by omega), show rd l1 (pre.length : Int) = c by rw [e]; exact rd_app _ _ _, isIn_eq (by rw [castL_length]; omega) _ _ (by rw [castL_length]; omega), toNat_contains hc0]
   simp only [Option.bind_some]
   obtain ⟨k', hk', e'⟩ := ih (pre ++ [c]) _ k (by rw [e]; simp) (by omega)
   refine ⟨k', by simp only [List.length_cons]; omega, ?_⟩
   rw [e', Bool.false_or]
   have e2 : anyN l0 i (c :: r) = ((elems ((bel l0).getD i 0)).contains c.toNat || anyN l0 i r) := rfl
   rw [e2]
theorem stale_l0 (h : sok l0 l1 = true) (hl : l1.length ≤ 8) : ∀ (m i : Nat) (out : List Nat) (k : Nat), i + m = l0.length → out.length ≤ i → m * 20 + 420 ≤ k →
  spec_stale.l0 k l0 l1 (castL out) (i : Int) = some (castL (out ++ (List.range' i m).filter (fun (i : Nat) => l1.contains (i : Int) || anyN l0 i l1))) := by
 obtain ⟨hg, ha⟩ := sok_parts h
 have h8 := gok8 hg
 intro m
 induction m with
 | zero =>
  intro i out k hi ho hk
  obtain ⟨k, rfl⟩ : ∃ m, k = m + 1 := ⟨k - 1, by omega⟩
  rw [spec_stale.l0, if_neg (by omega)]
  simp
 | succ m ih =>
  intro i out k hi ho hk
  obtain ⟨k, rfl⟩ : ∃ m, k = m + 1 := ⟨k - 1, by omega⟩
  rw [spec_stale.l0, if_pos (by omega), allNeeds_eq hg (by omega) k (by omega)]
  simp only [Option.bind_some]
  rw [isIn_eq (by omega) _ _ (by omega)]
  simp only [Option.bind_some]
  obtain ⟨k', hk', e⟩ := stale_l1 h hl out (by omega) i (by omega) l1 [] (l1.contains (i : Int)) k rfl (by omega)
  refine Eq.trans e ?_
  rw [nx (m := 8) (by omega) (by omega), List.range'_succ, List.filter_cons]
  by_cases c : (l1.contains (i : Int) || anyN l0 i l1) = true
  ·rw [if_pos c, if_pos c, ih (i + 1) (out ++ [i]) k' (by omega) (by simp; omega) (by omega)]
   simp
  ·rw [if_neg c, if_neg c, ih (i + 1) out k' (by omega) (by omega) (by omega)]
theorem asc_len8 (h : sok l0 l1 = true) : l1.length ≤ 8 := by
 obtain ⟨hg, ha⟩ := sok_parts h
 have h8 := gok8 hg
 rcases asc_short _ _ ha (by omega) with e | e
 ·rw [e]; simp
 ·omega
theorem stale_eq (h : sok l0 l1 = true) (k : Nat) (hk : 600 ≤ k) : spec_stale.f k l0 l1 = some (castL (elems (stN l0 l1))) := by
 obtain ⟨hg, ha⟩ := sok_parts h
 have h8 := gok8 hg
 unfold spec_stale.f
 refine Eq.trans (stale_l0 h (asc_len8 h) l0.length 0 [] k (by omega) (by simp) (by omega)) ?_
 congr 2
 rw [List.nil_append]
 symm
 refine (stN_bits h).elems_eq (List.Pairwise.filter _ ?_) (fun i => ?_)
 ·rw [← List.range_eq_range']
  exact List.pairwise_lt_range
 ·rw [List.mem_filter, ← List.range_eq_range', List.mem_range]
  refine and_congr_right (fun hi => ?_)
  rw [Bool.or_eq_true]
  have hb := bel_bits hg hi
  unfold Stale anyN
  rw [List.any_eq_true]
  refine or_congr (by simp) ?_
  constructor
  ·rintro ⟨c, hc, hm⟩
   have hc0 : 0 ≤ c := by have := ascB_mem ha c hc; omega
   refine ⟨c.toNat, by rw [Int.toNat_of_nonneg hc0]; exact hc, (hb.iff _).1 ((mem_elems hb.lt).1 (by simpa using hm))⟩
  ·rintro ⟨c, hc, hr⟩
   refine ⟨(c : Int), hc, ?_⟩
   rw [List.contains_eq_mem, decide_eq_true_eq, mem_elems hb.lt]
   exact (hb.iff _).2 hr
end
end Go.Proofs.YtcmhdcjdgchnfaaDoor.G
