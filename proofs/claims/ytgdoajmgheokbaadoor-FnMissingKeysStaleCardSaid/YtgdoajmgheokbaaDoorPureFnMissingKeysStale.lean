/- FnMissingKeysStale: for every code, after one input has changed the keys are missing of stale tasks alone. Nothing is assumed. -/
import Derived.Test.YtgdoajmgheokbaaDoorQKeys
import Derived.Test.YtgdoajmgheokbaaDoorHMiss
import Derived.Test.YtgdoajmgheokbaaDoorQStaleL
import Derived.Test.YtgdoajmgheokbaaDoorQAny
import Derived.Test.YtgdoajmgheokbaaDoorQEqualInts
import Derived.Test.YtgdoajmgheokbaaDoorLFnMissingKeysStale
import Derived.Test.YtgdoajmgheokbaaDoorG0
import Derived.Test.YtgdoajmgheokbaaDoorG6
import Derived.Test.YtgdoajmgheokbaaDoorLFnMissingKeysStale
namespace Go.Proofs.YtgdoajmgheokbaaDoor.G
open Go.RowKit Go.Proofs.YtgdoajmgheokbaaDoorW.PrintWords Go.Proofs.YtgdoajmgheokbaaDoorW.PrintLast Go.Proofs.YtgdoajmgheokbaaDoorW.PrintMore C
set_option linter.unusedVariables false
set_option linter.unusedSimpArgs false

theorem pre_initK {n : Nat} {nd : Nat → List Nat} {pre : List Nat} {x : Nat} (hp : Pre n nd (pre ++ [x])) : Pre n nd pre ∧ x < n ∧ x ∉ pre ∧ (∀ k, k ∈ nd x → k ∈ pre) := by
 refine ⟨⟨fun i hi => hp.lt i (by simp [hi]), (List.nodup_append.1 hp.nodup).1, fun a b c e k hk => hp.needs a b (c ++ [x]) (by rw [e]; simp) k hk⟩, hp.lt x (by simp), fun hx => ?_, fun k hk => hp.needs pre x [] rfl k hk⟩
 exact (List.nodup_append.1 hp.nodup).2.2 x hx x (by simp) rfl
theorem getD_setI (l : List Int) (i j : Nat) (x : Int) (h : j ≠ i) : (l.set i x).getD j 0 = l.getD j 0 := by
 rw [List.getD_eq_getElem?_getD, List.getD_eq_getElem?_getD, List.getElem?_set_ne (fun e => h e.symm)]
theorem foldl_congrK {o1 o2 : List Int} : ∀ (L : List Nat) (k : Int), (∀ j, j ∈ L → o1.getD j 0 = o2.getD j 0) → L.foldl (kstep o1) k = L.foldl (kstep o2) k
 | [], _, _ => rfl
 | j :: r, k, h => by
  rw [List.foldl_cons, List.foldl_cons]
  have e : kstep o1 k j = kstep o2 k j := by unfold kstep; rw [h j (by simp)]
  rw [e]
  exact foldl_congrK r _ (fun j hj => h j (by simp [hj]))
/-- A changed input changes the keys of stale tasks alone. -/
theorem keys_same {g : List S74} {inp : List Int} {c : Nat} {x : Int} (hg : gok g = true) : ∀ pre : List Nat, Pre g.length (nds g) pre → ∀ k, k ∈ pre → ¬ Stale g [(c : Int)] k →
  (keysN (ndm g) (inp.set c x) g.length pre).getD k 0 = (keysN (ndm g) inp g.length pre).getD k 0 := by
 intro pre
 induction pre using snoc_ind with
 | h0 => intro _ k hk; cases hk
 | hs pre y ih =>
  intro hp k hk hns
  obtain ⟨hpre, hyn, hy, hny⟩ := pre_initK hp
  rw [keysN_snoc, keysN_snoc]
  have l1 := keysN_len (ndm g) (inp.set c x) g.length pre
  have l2 := keysN_len (ndm g) inp g.length pre
  by_cases e : k = y
  ·subst e
   have hkc : k ≠ c := fun e => hns (.inl (by rw [e]; simp))
   have ek : keyN (ndm g) (inp.set c x) (keysN (ndm g) (inp.set c x) g.length pre) k = keyN (ndm g) inp (keysN (ndm g) inp g.length pre) k := by
    unfold keyN
    have hb : kbeg (inp.set c x) k = kbeg inp k := by unfold kbeg; rw [getD_setI _ _ _ _ hkc]
    rw [hb]
    refine foldl_congrK _ _ (fun j hj => ?_)
    rw [nds_elems (gok_fine hg) hyn] at hj
    refine ih hpre j (hny j hj) (fun h => hns ?_)
    rcases h with h | ⟨z, hz, hr⟩
    ·exact .inr ⟨j, h, .base hj⟩
    ·exact .inr ⟨z, hz, .step hj hr⟩
   rw [ek, List.getD_eq_getElem?_getD, List.getD_eq_getElem?_getD, List.getElem?_set_self (by omega), List.getElem?_set_self (by omega)]
  ·rw [getD_setI _ _ _ _ e, getD_setI _ _ _ _ e]
   refine ih hpre k ?_ hns
   rcases List.mem_append.1 hk with h | h
   ·exact h
   ·exact absurd (List.mem_singleton.1 h) e
theorem ms_l0 {a b : List Int} (ha : a.length ≤ 100) (hb : b.length ≤ 100) (hs : ∀ x, x ∈ a → x ∈ b) : ∀ (rest pre : List Int) (k : Nat), a = pre ++ rest → rest.length + 110 ≤ k → laws_FnMissingKeysStale.l0 k a b (pre.length : Int) = some true := by
 intro rest
 induction rest with
 | nil =>
  intro pre k e hk
  obtain ⟨k, rfl⟩ : ∃ m, k = m + 1 := ⟨k - 1, by omega⟩
  rw [laws_FnMissingKeysStale.l0, if_neg (by rw [e]; simp)]
 | cons x r ih =>
  intro pre k e hk
  obtain ⟨k, rfl⟩ : ∃ m, k = m + 1 := ⟨k - 1, by omega⟩
  simp only [List.length_cons] at hk
  have hlt : pre.length < a.length := by rw [e]; simp
  have hin : b.contains x = true := List.contains_iff_mem.2 (hs x (by rw [e]; simp))
  rw [laws_FnMissingKeysStale.l0, if_pos (by omega), if_pos (by omega), show rd a (pre.length : Int) = x by rw [e]; exact rd_app _ _ _, lIsIn_eq (by omega) _ _ (by omega), hin, nx (m := 100) (by omega) (by omega)]
  simp only [Option.bind_some, if_true]
  have hih := ih (pre ++ [x]) k (by rw [e]; simp) (by omega)
  rw [List.length_append, List.length_singleton] at hih
  exact hih
theorem pureFnMissingKeysStale : laws_FnMissingKeysStale.Pure := by
 intro l hm hl hw
 obtain ⟨k, hk⟩ : ∃ k, 2000 ≤ k := ⟨2000, Nat.le_refl _⟩
 refine ⟨k, ?_⟩
 unfold laws_FnMissingKeysStale.f
 by_cases h1 : (l.length : Int) > 1048576
 ·rw [if_pos h1]
 rw [if_neg h1]
 obtain ⟨g, s, hd, hsm, hsl⟩ := drawTaskKeys l hw
 have hsmall : Small 100 g := ⟨Nat.le_trans hsm.len (by decide), fun t ht => Nat.le_trans (hsm.nd t ht) (by decide)⟩
 obtain ⟨m, rfl⟩ : ∃ m, k = m + 1 := ⟨k - 1, by omega⟩
 obtain ⟨r, hv, h8, hb, hcase⟩ := keys_val g s
 have hspec : ∀ k, 950 ≤ k → spec_TaskKeys.f k g s = some r := fun k hk => (specKeys_eq (B := 100) (by decide) hsmall (by omega) k (by omega)).trans hv
 simp only [hd, Option.bind_some, hv, hspec (m + 1) (by omega), eqI_refl r (m + 1) (by omega) (by omega), if_true]
 cases e : ((r.length : Int) == 0) with
 | true =>
  rw [laws_FnMissingKeysStale.j0, if_pos rfl]
  simp only [hspec m (by omega), Option.bind_some, eqI_refl r m (by omega) (by omega)]
 | false =>
  rw [laws_FnMissingKeysStale.j0, if_neg (by decide)]
  rcases hcase with ⟨cv, er, hlr⟩ | rfl
  ·obtain ⟨hg, hls, hin⟩ := vin_parts cv
   have hn0 : g.length ≠ 0 := fun h => by
    rw [hlr, h] at e
    cases e
   have hg8 := gok8 hg
   obtain ⟨c, hc⟩ : ∃ c : Nat, l.length % g.length = c := ⟨_, rfl⟩
   have hci : ((l.length : Int) % (g.length : Int)) = (c : Int) := by rw [← hc]; simp
   have hcn : c < g.length := by rw [← hc]; exact Nat.mod_lt _ (by omega)
   simp only [Option.bind_some, List.nil_append, hci, List.length_nil]
   rw [if_neg (by omega), if_pos (by omega), if_pos (by omega), if_pos (by omega), Int.toNat_natCast]
   have hx := hin c
   obtain ⟨x, hxe⟩ : ∃ x, Int.tmod (wrap64 (rd s (c : Int) + 1)) 1001 = x := ⟨_, rfl⟩
   have hxb : 0 ≤ x ∧ x ≤ 1000 := by
    rw [← hxe, rd_nat, w64 (by omega) (by omega), Int.tmod_eq_emod_of_nonneg (by omega)]
    omega
   rw [hxe]
   have hv2 : vin g (s.set c x) = true := by
    have cv' := cv
    unfold vin at cv' ⊢
    simp only [Bool.and_eq_true, decide_eq_true_eq, List.all_eq_true, List.length_set] at cv' ⊢
    refine ⟨cv'.1, cv'.2.1, fun y hy => ?_⟩
    rcases List.mem_or_eq_of_mem_set hy with h | h
    ·exact cv'.2.2 y h
    ·rw [h]; exact hxb
   have hk2 : keysOr g (s.set c x) = keysN (ndm g) (s.set c x) g.length (ord g) := by unfold keysOr; rw [if_pos hv2]
   have hl2 := keysN_len (ndm g) (s.set c x) g.length (ord g)
   have hmiss : impl_MissingKeys.f g (s.set c x) r = some (miss (keysN (ndm g) (s.set c x) g.length (ord g)) r) := by
    unfold impl_MissingKeys.f
    rw [hk2, if_pos ⟨hl2, by omega, hg⟩]
   have hsk : sok g [(c : Int)] = true := sok_mk hg (by
    simp only [ascB, Bool.and_eq_true, decide_eq_true_eq]
    exact ⟨by omega, trivial⟩)
   have hst : impl_StaleTasks.f g [(c : Int)] = some (castL (elems (stN g [(c : Int)]))) := by unfold impl_StaleTasks.f; rw [if_pos hsk]
   simp only [hmiss, hst, Option.bind_some]
   have hel := elems_len (stN g [(c : Int)])
   refine ms_l0 (by unfold miss; rw [castL_length]; have := missTo_len (keysN (ndm g) (s.set c x) g.length (ord g)) r (keysN (ndm g) (s.set c x) g.length (ord g)).length; omega) (by rw [castL_length]; omega) (fun y hy => ?_) _ [] m rfl (by (try unfold miss); (first | rw [castL_length] | rw [List.length_map]); have := missTo_len (keysN (ndm g) (s.set c x) g.length (ord g)) r (keysN (ndm g) (s.set c x) g.length (ord g)).length; omega)
   unfold miss castL missTo at hy
   obtain ⟨i, hi, rfl⟩ := List.mem_map.1 hy
   rw [List.mem_filter, List.mem_range] at hi
   refine List.mem_map.2 ⟨i, (stN_mem hsk).2 ⟨by omega, ?_⟩, rfl⟩
   refine Classical.byContradiction (fun hns => ?_)
   have hsame := keys_same (inp := s) (c := c) (x := x) hg (ord g) (topo_pre _ _) i ((ord_mem hg).2 (by omega)) hns
   have hb2 := hi.2
   rw [hsame, ← er] at hb2
   have hir : i < r.length := by omega
   have : r.contains (r.getD i 0) = true := List.contains_iff_mem.2 (by
    rw [List.getD_eq_getElem?_getD, List.getElem?_eq_getElem hir]
    exact List.getElem_mem _)
   rw [this] at hb2
   cases hb2
  ·exact absurd e (by decide)
end Go.Proofs.YtgdoajmgheokbaaDoor.G
