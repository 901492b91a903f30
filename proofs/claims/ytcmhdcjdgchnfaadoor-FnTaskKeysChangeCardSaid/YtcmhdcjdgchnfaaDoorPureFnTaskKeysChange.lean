/- FnTaskKeysChange: for every code, one changed input changes its own task's key, and no key of a task that is not stale. Nothing is assumed. -/
import Derived.Test.YtcmhdcjdgchnfaaDoorQKeys
import Derived.Test.YtcmhdcjdgchnfaaDoorQStaleL
import Derived.Test.YtcmhdcjdgchnfaaDoorQAny
import Derived.Test.YtcmhdcjdgchnfaaDoorQEqualInts
import Derived.Test.YtcmhdcjdgchnfaaDoorLFnTaskKeysChange
import Derived.Test.YtcmhdcjdgchnfaaDoorG0
import Derived.Test.YtcmhdcjdgchnfaaDoorG6
import Derived.Test.YtcmhdcjdgchnfaaDoorG8
import Derived.Test.YtcmhdcjdgchnfaaDoorLFnTaskKeysChange
namespace Go.Proofs.YtcmhdcjdgchnfaaDoor.G
open Go.RowKit Go.Proofs.YtcmhdcjdgchnfaaDoorW.PrintWords Go.Proofs.YtcmhdcjdgchnfaaDoorW.PrintLast Go.Proofs.YtcmhdcjdgchnfaaDoorW.PrintMore C
set_option linter.unusedVariables false
set_option linter.unusedSimpArgs false

theorem pre_initK {n : Nat} {nd : Nat → List Nat} {pre : List Nat} {x : Nat} (hp : Pre n nd (pre ++ [x])) : Pre n nd pre ∧ x < n ∧ x ∉ pre ∧ (∀ k, k ∈ nd x → k ∈ pre) := by
 refine ⟨⟨fun i hi => hp.lt i (by simp [hi]), (List.nodup_append.1 hp.nodup).1, fun a b c e k hk => hp.needs a b (c ++ [x]) (by rw [e]; simp) k hk⟩, hp.lt x (by simp), fun hx => ?_, fun k hk => hp.needs pre x [] rfl k hk⟩
 exact (List.nodup_append.1 hp.nodup).2.2 x hx x (by simp) rfl
theorem getD_setI (l : List Int) (i j : Nat) (x : Int) (h : j ≠ i) : (l.set i x).getD j 0 = l.getD j 0 := by
 rw [List.getD_eq_getElem?_getD, List.getD_eq_getElem?_getD, List.getElem?_set_ne (fun e => h e.symm)]
theorem foldl_congrK {o1 o2 : List Int} : ∀ (L : List Nat) (k : Int), (∀ j, j ∈ L → o1.getD j 0 = o2.getD j 0) → L.foldl (kstep o1) k = L.foldl (kstep o2) k
 | [], _, _ => rfl
 | j :: r, k, h => by
  rw [List.foldl_cons, List.foldl_cons]
  have e : kstep o1 k j = kstep o2 k j := by unfold kstep; rw [h j (by simp)]
  rw [e]
  exact foldl_congrK r _ (fun j hj => h j (by simp [hj]))
/-- A changed input changes the keys of stale tasks alone. -/
theorem keys_same {g : List S69} {inp : List Int} {c : Nat} {x : Int} (hg : gok g = true) : ∀ pre : List Nat, Pre g.length (nds g) pre → ∀ k, k ∈ pre → ¬ Stale g [(c : Int)] k →
  (keysN (ndm g) (inp.set c x) g.length pre).getD k 0 = (keysN (ndm g) inp g.length pre).getD k 0 := by
 intro pre
 induction pre using snoc_ind with
 | h0 => intro _ k hk; cases hk
 | hs pre y ih =>
  intro hp k hk hns
  obtain ⟨hpre, hyn, hy, hny⟩ := pre_initK hp
  rw [keysN_snoc, keysN_snoc]
  have l1 := keysN_len (ndm g) (inp.set c x) g.length pre
  have l2 := keysN_len (ndm g) inp g.length pre
  by_cases e : k = y
  ·subst e
   have hkc : k ≠ c := fun e => hns (.inl (by rw [e]; simp))
   have ek : keyN (ndm g) (inp.set c x) (keysN (ndm g) (inp.set c x) g.length pre) k = keyN (ndm g) inp (keysN (ndm g) inp g.length pre) k := by
    unfold keyN
    have hb : kbeg (inp.set c x) k = kbeg inp k := by unfold kbeg; rw [getD_setI _ _ _ _ hkc]
    rw [hb]
    refine foldl_congrK _ _ (fun j hj => ?_)
    rw [nds_elems (gok_fine hg) hyn] at hj
    refine ih hpre j (hny j hj) (fun h => hns ?_)
    rcases h with h | ⟨z, hz, hr⟩
    ·exact .inr ⟨j, h, .base hj⟩
    ·exact .inr ⟨z, hz, .step hj hr⟩
   rw [ek, List.getD_eq_getElem?_getD, List.getD_eq_getElem?_getD, List.getElem?_set_self (by omega), List.getElem?_set_self (by omega)]
  ·rw [getD_setI _ _ _ _ e, getD_setI _ _ _ _ e]
   refine ih hpre k ?_ hns
   rcases List.mem_append.1 hk with h | h
   ·exact h
   ·exact absurd (List.mem_singleton.1 h) e
theorem tm_inj {a b o : Int} (h0 : 0 ≤ a ∧ a ≤ 10006) (h1 : 0 ≤ b ∧ b ≤ 10006) (ho : 0 ≤ o) (h : Int.tmod (131 * a + o + 1) 10007 = Int.tmod (131 * b + o + 1) 10007) : a = b := by
 rw [Int.tmod_eq_emod_of_nonneg (by omega), Int.tmod_eq_emod_of_nonneg (by omega)] at h
 omega
theorem kfold_inj {out : List Int} (ho : Kb out) : ∀ (L : List Nat) (a b : Int), 0 ≤ a ∧ a ≤ 10006 → 0 ≤ b ∧ b ≤ 10006 → L.foldl (kstep out) a = L.foldl (kstep out) b → a = b
 | [], _, _, _, _, h => h
 | j :: r, a, b, h0, h1, h => by
  rw [List.foldl_cons, List.foldl_cons] at h
  have hj := ho j
  have e := kfold_inj ho r _ _ (tm_bd (a := 131 * a + out.getD j 0 + 1) (by omega)) (tm_bd (a := 131 * b + out.getD j 0 + 1) (by omega)) h
  exact tm_inj h0 h1 hj.1 e
/-- The changed task's own key changes. -/
theorem keys_diff {g : List S69} {inp : List Int} {c : Nat} {x : Int} (hg : gok g = true) (hl : inp.length = g.length) (hin : ∀ i : Nat, 0 ≤ inp.getD i 0 ∧ inp.getD i 0 ≤ 1000) (hc : c < g.length) (hx : 0 ≤ x ∧ x ≤ 1000) (hne : x ≠ inp.getD c 0) : ∀ pre : List Nat, Pre g.length (nds g) pre → c ∈ pre →
  (keysN (ndm g) (inp.set c x) g.length pre).getD c 0 ≠ (keysN (ndm g) inp g.length pre).getD c 0 := by
 intro pre
 induction pre using snoc_ind with
 | h0 => intro _ hk; cases hk
 | hs pre y ih =>
  intro hp hk
  obtain ⟨hpre, hyn, hy, hny⟩ := pre_initK hp
  rw [keysN_snoc, keysN_snoc]
  have l1 := keysN_len (ndm g) (inp.set c x) g.length pre
  have l2 := keysN_len (ndm g) inp g.length pre
  by_cases e : c = y
  ·subst e
   rw [List.getD_eq_getElem?_getD, List.getD_eq_getElem?_getD, List.getElem?_set_self (by omega), List.getElem?_set_self (by omega)]
   show keyN _ _ _ _ ≠ keyN _ _ _ _
   intro hk2
   unfold keyN at hk2
   have hfold : ∀ a : Int, (elems ((ndm g).getD c 0)).foldl (kstep (keysN (ndm g) (inp.set c x) g.length pre)) a = (elems ((ndm g).getD c 0)).foldl (kstep (keysN (ndm g) inp g.length pre)) a := fun a => foldl_congrK _ _ (fun j hj => by
    rw [nds_elems (gok_fine hg) hyn] at hj
    refine keys_same hg pre hpre j (hny j hj) (fun h => ?_)
    have hr : C.Reach (nds g) c c := by
     rcases h with h | ⟨z, hz, hr⟩
     ·have e1 : (j : Int) = (c : Int) := by simpa using h
      rw [show j = c by omega] at hj
      exact .base hj
     ·have e1 : (z : Int) = (c : Int) := by simpa using hz
      rw [show z = c by omega] at hr
      exact .step hj hr
    exact (gok_full hg).irrefl hc hr)
   rw [hfold] at hk2
   have hxb : 0 ≤ (inp.set c x).getD c 0 ∧ (inp.set c x).getD c 0 ≤ 1000 := by
    rw [List.getD_eq_getElem?_getD, List.getElem?_set_self (by omega)]
    exact hx
   have hxe : (inp.set c x).getD c 0 = x := by rw [List.getD_eq_getElem?_getD, List.getElem?_set_self (by omega)]; rfl
   have hb := kfold_inj (keysN_bd (nd := ndm g) (n := g.length) (fun i => (hin i).1) pre) _ _ _ (kbeg_bd hxb.1) (kbeg_bd (hin c).1) hk2
   unfold kbeg at hb
   rw [hxe] at hb
   have hic := hin c
   rw [Int.tmod_eq_emod_of_nonneg (by omega), Int.tmod_eq_emod_of_nonneg (by omega)] at hb
   omega
  ·rw [getD_setI _ _ _ _ e, getD_setI _ _ _ _ e]
   refine ih hpre ?_
   rcases List.mem_append.1 hk with h | h
   ·exact h
   ·exact absurd (List.mem_singleton.1 h) e
theorem kc_l0 {r r2 : List Int} {S : List Nat} {c : Nat} (h8 : r.length ≤ 8) (hl : r2.length = r.length) (hS : S.length ≤ 16) (hcS : c ∈ S) (hd : r2.getD c 0 ≠ r.getD c 0) (hs : ∀ i, i < r.length → ¬ i ∈ S → r2.getD i 0 = r.getD i 0) : ∀ (d i k : Nat), i + d = r.length → d + 30 ≤ k → laws_FnTaskKeysChange.l0 k r (c : Int) r2 (castL S) (i : Int) = some true := by
 intro d
 induction d with
 | zero =>
  intro i k hi hk
  obtain ⟨k, rfl⟩ : ∃ m, k = m + 1 := ⟨k - 1, by omega⟩
  rw [laws_FnTaskKeysChange.l0, if_neg (by omega)]
 | succ d ih =>
  intro i k hi hk
  obtain ⟨k, rfl⟩ : ∃ m, k = m + 1 := ⟨k - 1, by omega⟩
  have hin : laws_isIn.f k (castL S) (i : Int) = some (S.contains i) := by rw [lIsIn_eq (by rw [castL_length]; omega) _ _ (by rw [castL_length]; omega), castL_contains]
  have hih := ih (i + 1) k (by omega) (by omega)
  rw [laws_FnTaskKeysChange.l0, if_pos (by omega), if_neg (by omega), hin, nx (m := 8) (by omega) (by omega), rd_nat, rd_nat]
  simp only [Option.bind_some]
  by_cases e : i ∈ S
  ·rw [if_pos (by simpa using e)]
   by_cases ec : i = c
   ·subst ec
    rw [if_pos rfl, if_pos (by omega), if_pos (by omega), if_neg hd]
    exact hih
   ·rw [if_neg (by omega)]
    exact hih
  ·rw [if_neg (by simpa using e), if_pos (by omega), if_pos (by omega), if_pos (hs i (by omega) e), if_neg (fun h : (i : Int) = (c : Int) => e ((show i = c by omega) ▸ hcS))]
   exact hih
theorem pureFnTaskKeysChange : laws_FnTaskKeysChange.Pure := by
 intro l hm hl hw
 obtain ⟨k, hk⟩ : ∃ k, 2000 ≤ k := ⟨2000, Nat.le_refl _⟩
 refine ⟨k, ?_⟩
 unfold laws_FnTaskKeysChange.f
 by_cases h1 : (l.length : Int) > 1048576
 ·rw [if_pos h1]
 rw [if_neg h1]
 obtain ⟨g, s, hd, hsm, hsl⟩ := drawTaskKeys l hw
 have hsmall : Small 100 g := ⟨Nat.le_trans hsm.len (by decide), fun t ht => Nat.le_trans (hsm.nd t ht) (by decide)⟩
 obtain ⟨m, rfl⟩ : ∃ m, k = m + 1 := ⟨k - 1, by omega⟩
 obtain ⟨r, hv, h8, hb, hcase⟩ := keys_val g s
 have hspec : ∀ k, 950 ≤ k → spec_TaskKeys.f k g s = some r := fun k hk => (specKeys_eq (B := 100) (by decide) hsmall (by omega) k (by omega)).trans hv
 simp only [hd, Option.bind_some, hv, hspec (m + 1) (by omega), eqI_refl r (m + 1) (by omega) (by omega), if_true]
 cases e : ((r.length : Int) == 0) with
 | true =>
  rw [laws_FnTaskKeysChange.j0, if_pos rfl]
  simp only [hspec m (by omega), Option.bind_some, eqI_refl r m (by omega) (by omega)]
 | false =>
  rw [laws_FnTaskKeysChange.j0, if_neg (by decide)]
  rcases hcase with ⟨cv, er, hlr⟩ | rfl
  ·obtain ⟨hg, hls, hin⟩ := vin_parts cv
   have hn0 : g.length ≠ 0 := fun h => by
    rw [hlr, h] at e
    cases e
   have hg8 := gok8 hg
   obtain ⟨c, hc⟩ : ∃ c : Nat, l.length % g.length = c := ⟨_, rfl⟩
   have hci : ((l.length : Int) % (g.length : Int)) = (c : Int) := by rw [← hc]; simp
   have hcn : c < g.length := by rw [← hc]; exact Nat.mod_lt _ (by omega)
   simp only [Option.bind_some, List.nil_append, hci, List.length_nil]
   rw [if_neg (by omega), if_pos (by omega), if_pos (by omega), if_pos (by omega), Int.toNat_natCast]
   have hx := hin c
   obtain ⟨x, hxe⟩ : ∃ x, Int.tmod (wrap64 (rd s (c : Int) + 1)) 1001 = x := ⟨_, rfl⟩
   have hxb : 0 ≤ x ∧ x ≤ 1000 := by
    rw [← hxe, rd_nat, w64 (by omega) (by omega), Int.tmod_eq_emod_of_nonneg (by omega)]
    omega
   rw [hxe]
   have hv2 : vin g (s.set c x) = true := by
    have cv' := cv
    unfold vin at cv' ⊢
    simp only [Bool.and_eq_true, decide_eq_true_eq, List.all_eq_true, List.length_set] at cv' ⊢
    refine ⟨cv'.1, cv'.2.1, fun y hy => ?_⟩
    rcases List.mem_or_eq_of_mem_set hy with h | h
    ·exact cv'.2.2 y h
    ·rw [h]; exact hxb
   have hk2 : impl_TaskKeys.f g (s.set c x) = some (keysN (ndm g) (s.set c x) g.length (ord g)) := by unfold impl_TaskKeys.f; rw [if_pos hv2]
   have hl2 := keysN_len (ndm g) (s.set c x) g.length (ord g)
   have hsk : sok g [(c : Int)] = true := sok_mk hg (by
    simp only [ascB, Bool.and_eq_true, decide_eq_true_eq]
    exact ⟨by omega, trivial⟩)
   have hst : impl_StaleTasks.f g [(c : Int)] = some (castL (elems (stN g [(c : Int)]))) := by unfold impl_StaleTasks.f; rw [if_pos hsk]
   simp only [hk2, hst, Option.bind_some]
   have hel := elems_len (stN g [(c : Int)])
   have hne : x ≠ s.getD c 0 := by
    rw [← hxe, rd_nat, w64 (by omega) (by omega), Int.tmod_eq_emod_of_nonneg (by omega)]
    omega
   refine kc_l0 h8 (by omega) hel ((stN_mem hsk).2 ⟨hcn, .inl (by simp)⟩) ?_ (fun i hi hns => ?_) r.length 0 m (by omega) (by omega)
   ·rw [er]
    exact keys_diff hg hls hin hcn hxb hne (ord g) (topo_pre _ _) ((ord_mem hg).2 hcn)
   ·rw [er]
    exact keys_same (inp := s) (c := c) (x := x) hg (ord g) (topo_pre _ _) i ((ord_mem hg).2 (by omega)) (fun h => hns ((stN_mem hsk).2 ⟨by omega, h⟩))
  ·exact absurd e (by decide)
end Go.Proofs.YtcmhdcjdgchnfaaDoor.G
