/- FnStaleTasks: for every code, exactly the changed tasks and all users of them are stale. Nothing is assumed. -/
import Derived.Test.YtimgkhapphipbaaDoorQStaleL
import Derived.Test.YtimgkhapphipbaaDoorLFnStaleTasks
import Derived.Test.YtimgkhapphipbaaDoorG0
import Derived.Test.YtimgkhapphipbaaDoorLFnStaleTasks
namespace Go.Proofs.YtimgkhapphipbaaDoor.G
open Go.RowKit Go.Proofs.YtimgkhapphipbaaDoorW.PrintWords Go.Proofs.YtimgkhapphipbaaDoorW.PrintLast Go.Proofs.YtimgkhapphipbaaDoorW.PrintMore C
set_option linter.unusedVariables false
set_option linter.unusedSimpArgs false

/-- Some change is task i, or has i among its users. -/
def usedB (g : List S42) (i : Nat) (rest : List Int) : Bool := rest.any (fun c => (castL (elems ((abv g).getD c.toNat 0))).contains (i : Int))
theorem stt_l1 {g : List S42} {s out : List Int} (c : sok g s = true) (hout : out.length ≤ 16) (i : Nat) : ∀ (rest pre : List Int) (b : Bool) (k : Nat), s = pre ++ rest → rest.length + 100 < k → (b || usedB g i rest) = out.contains (i : Int) →
    laws_FnStaleTasks.l1 k g s out (i : Int) b (pre.length : Int) = laws_FnStaleTasks.l0 (k - (rest.length + 1)) g s out (wrap64 ((i : Int) + 1)) := by
  obtain ⟨hg, ha⟩ := sok_parts c
  have h8 := gok8 hg
  have hl8 := asc_len8 c
  intro rest
  induction rest with
  | nil =>
    intro pre b k e hk hb
    obtain ⟨k, rfl⟩ : ∃ m, k = m + 1 := ⟨k - 1, by omega⟩
    rw [laws_FnStaleTasks.l1, if_neg (by rw [e]; simp), lIsIn_eq (by omega) _ _ (by omega)]
    simp only [Option.bind_some]
    have hb' : b = out.contains (i : Int) := by simpa [usedB] using hb
    rw [← hb', if_neg (by simp)]
    rfl
  | cons x r ih =>
    intro pre b k e hk hb
    obtain ⟨k, rfl⟩ : ∃ m, k = m + 1 := ⟨k - 1, by omega⟩
    simp only [List.length_cons] at hk
    have hlt : pre.length < s.length := by rw [e]; simp
    have hx := ascB_mem ha x (by rw [e]; simp)
    have ek : k + 1 - ((x :: r).length + 1) = k - (r.length + 1) := by simp only [List.length_cons]; omega
    rw [laws_FnStaleTasks.l1, if_pos (by omega), nx (m := 8) (by omega) (by omega), show pre.length + 1 = (pre ++ [x]).length by simp, ek]
    cases b with
    | true =>
      rw [if_pos rfl]
      exact ih (pre ++ [x]) true k (by rw [e]; simp) (by omega) (by simpa using hb)
    | false =>
      have hr : impl_AllUsers.f g x = some (castL (elems ((abv g).getD x.toNat 0))) := by
        unfold impl_AllUsers.f relF
        rw [if_pos ⟨hg, by omega, by omega⟩]
      have hel := elems_len ((abv g).getD x.toNat 0)
      rw [if_neg (by decide), if_pos (by omega), show rd s (pre.length : Int) = x by rw [e]; exact rd_app _ _ _, hr]
      simp only [Option.bind_some]
      rw [lIsIn_eq (by rw [castL_length]; omega) _ _ (by rw [castL_length]; omega)]
      simp only [Option.bind_some]
      refine ih (pre ++ [x]) _ k (by rw [e]; simp) (by omega) ?_
      rw [← hb, Bool.false_or]
      rfl
theorem stt_l0 {g : List S42} {s : List Int} (c : sok g s = true) : ∀ (d i k : Nat), i + d = g.length → d * 20 + 150 ≤ k → laws_FnStaleTasks.l0 k g s (castL (elems (stN g s))) (i : Int) = some true := by
  obtain ⟨hg, ha⟩ := sok_parts c
  have h8 := gok8 hg
  have hl8 := asc_len8 c
  have hel := elems_len (stN g s)
  intro d
  induction d with
  | zero =>
    intro i k hi hk
    obtain ⟨k, rfl⟩ : ∃ m, k = m + 1 := ⟨k - 1, by omega⟩
    rw [laws_FnStaleTasks.l0, if_neg (by omega)]
  | succ d ih =>
    intro i k hi hk
    obtain ⟨k, rfl⟩ : ∃ m, k = m + 1 := ⟨k - 1, by omega⟩
    have hin : i < g.length := by omega
    rw [laws_FnStaleTasks.l0, if_pos (by omega), lIsIn_eq (by omega) _ _ (by omega)]
    simp only [Option.bind_some]
    have h := stt_l1 c (out := castL (elems (stN g s))) (by rw [castL_length]; exact hel) i s [] (s.contains (i : Int)) k rfl (by omega) (by
      rw [castL_contains]
      rw [Bool.eq_iff_iff, Bool.or_eq_true, List.contains_eq_mem, decide_eq_true_eq, List.contains_eq_mem, decide_eq_true_eq, stN_mem c]
      unfold usedB
      rw [List.any_eq_true]
      have hmem : ∀ x, x ∈ s → ((castL (elems ((abv g).getD x.toNat 0))).contains (i : Int) = true ↔ C.Reach (nds g) i x.toNat) := by
        intro x hx
        have hx2 := ascB_mem ha x hx
        have hb := abv_bits hg (show x.toNat < g.length by omega)
        rw [castL_contains, List.contains_eq_mem, decide_eq_true_eq, mem_elems hb.lt]
        exact (hb.iff i).trans ⟨fun h => h.2, fun h => ⟨hin, h⟩⟩
      constructor
      · rintro (h | ⟨x, hx, h⟩)
        · exact ⟨hin, .inl h⟩
        · have hx2 := ascB_mem ha x hx
          exact ⟨hin, .inr ⟨x.toNat, by rw [Int.toNat_of_nonneg (by omega)]; exact hx, (hmem x hx).1 h⟩⟩
      · rintro ⟨_, h | ⟨c', hc, hr⟩⟩
        · exact .inl h
        · exact .inr ⟨(c' : Int), hc, (hmem _ hc).2 (by simpa using hr)⟩)
    refine Eq.trans h ?_
    rw [nx (m := 8) (by omega) (by omega)]
    exact ih (i + 1) _ (by omega) (by omega)
theorem pureFnStaleTasks : laws_FnStaleTasks.Pure := by
  intro l hm hl hw
  obtain ⟨k, hk⟩ : ∃ k, 2000 ≤ k := ⟨2000, Nat.le_refl _⟩
  refine ⟨k, ?_⟩
  unfold laws_FnStaleTasks.f
  by_cases h1 : (l.length : Int) > 1048576
  · rw [if_pos h1]
  rw [if_neg h1]
  obtain ⟨g, s, hd, hsm, hsl⟩ := drawStaleTasks l hw
  have hsmall := sm_small hsm (by decide) (by decide)
  simp only [hd, Option.bind_some, specStaleTasks_eq (l0 := g) (l1 := s) (B := 100) (by decide) hsmall (by omega) k (by omega)]
  obtain ⟨m, rfl⟩ : ∃ m, k = m + 1 := ⟨k - 1, by omega⟩
  by_cases c : sok g s = true
  · have hv : impl_StaleTasks.f g s = some (castL (elems (stN g s))) := by unfold impl_StaleTasks.f; rw [if_pos c]
    have hel := elems_len (stN g s)
    have h8 := gok8 (sok_parts c).1
    simp only [hv, Option.bind_some, eqI_refl (castL (elems (stN g s))) (m + 1) (by rw [castL_length]; omega) (by rw [castL_length]; omega), if_true]
    cases e : (((castL (elems (stN g s))).length : Int) == 0) with
    | true =>
      rw [laws_FnStaleTasks.j0, if_pos rfl]
      simp only [specStaleTasks_eq (l0 := g) (l1 := s) (B := 100) (by decide) hsmall (by omega) m (by omega), hv, Option.bind_some, eqI_refl (castL (elems (stN g s))) m (by rw [castL_length]; omega) (by rw [castL_length]; omega)]
    | false =>
      rw [laws_FnStaleTasks.j0, if_neg (by decide)]
      exact stt_l0 c g.length 0 m (by omega) (by omega)
  · have hv : impl_StaleTasks.f g s = some [] := by unfold impl_StaleTasks.f; rw [if_neg c]
    simp only [hv, Option.bind_some, eqI_refl [] (m + 1) (by simp) (by simp), if_true]
    rw [show ((([] : List Int).length : Int) == 0) = true from rfl, laws_FnStaleTasks.j0, if_pos rfl]
    simp only [specStaleTasks_eq (l0 := g) (l1 := s) (B := 100) (by decide) hsmall (by omega) m (by omega), hv, Option.bind_some, eqI_refl [] m (by simp) (by simp; omega)]
end Go.Proofs.YtimgkhapphipbaaDoor.G
