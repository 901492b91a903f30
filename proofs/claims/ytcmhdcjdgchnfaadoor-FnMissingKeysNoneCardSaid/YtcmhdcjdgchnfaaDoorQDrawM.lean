/-
 What the generator of MissingKeys' arguments hands out; the reference's keys that are missing.
-/
import Derived.Test.YtcmhdcjdgchnfaaDoorHDrawM
import Derived.Test.YtcmhdcjdgchnfaaDoorQMiss
import Derived.Test.YtcmhdcjdgchnfaaDoorQAny
import Derived.Test.YtcmhdcjdgchnfaaDoorG0
import Derived.Test.YtcmhdcjdgchnfaaDoorG6
namespace Go.Proofs.YtcmhdcjdgchnfaaDoor.G
open Go.RowKit Go.Proofs.YtcmhdcjdgchnfaaDoorW.PrintWords Go.Proofs.YtcmhdcjdgchnfaaDoorW.PrintLast Go.Proofs.YtcmhdcjdgchnfaaDoorW.PrintMore C
set_option linter.unusedVariables false
set_option linter.unusedSimpArgs false

theorem dmk_ok {b : List Int} (hb : Rdr b) (k : Nat) (hk : 1 ≤ k) : ∀ (d : Nat) (st : List Int) (p : Int), 0 ≤ p → p + 2 * d ≤ 900000 → Ok (dmk k b d st p) (fun r => r.1.length = st.length ∧ p ≤ r.2 ∧ r.2 ≤ p + 2 * d)
 | 0, st, p, h0, h1 => Ok.some ⟨rfl, Int.le_refl _, by show p ≤ _; omega⟩
 | d + 1, st, p, h0, h1 => by
  unfold dmk
  refine (pick_ok hb k p 3 hk h0 (by omega) (by omega)).bind ?_
  rintro ⟨v, q⟩ ⟨e, _⟩
  simp only at e ⊢
  by_cases c : v = 0
  ·rw [if_pos c]
   refine (pick_ok hb k q 250 hk (by omega) (by omega) (by omega)).bind ?_
   rintro ⟨v2, q2⟩ ⟨e2, _⟩
   simp only at e2 ⊢
   refine (dmk_ok hb k hk d _ q2 (by omega) (by omega)).mono ?_
   rintro r ⟨g1, g2, g3⟩
   exact ⟨by rw [g1, List.length_set], by omega, by omega⟩
  ·rw [if_neg c]
   refine (dmk_ok hb k hk d _ q (by omega) (by omega)).mono ?_
   rintro r ⟨g1, g2, g3⟩
   exact ⟨g1, by omega, by omega⟩
theorem drawMissingKeys (l : List Int) (hw : ∀ x, x ∈ l → (Lit.int .u8 x).wf = true) : ∃ g s st, spec_DrawMissingKeys.f l = some (g, s, st) ∧ Sm 16 10 g ∧ s.length ≤ 17 ∧ st.length ≤ 21 := by
 unfold spec_DrawMissingKeys.f
 obtain ⟨b, hb, hr⟩ := newReader_ok l hw
 obtain ⟨⟨g, p⟩, hg, h1, h2, h3⟩ := anyGraph_ok hr gfuel 0 (by decide) (by omega) (by omega)
 simp only at h1 h2 h3
 obtain ⟨⟨s, q⟩, hs, h4, h5, h6⟩ := someInputs_ok hr h1.len gfuel p (by decide) h2 (by omega)
 simp only at h4 h5 h6
 have hsmall : Small 100 g := ⟨Nat.le_trans h1.len (by decide), fun t ht => Nat.le_trans (h1.nd t ht) (by decide)⟩
 obtain ⟨r, hv, h8, _, _⟩ := keys_val g s
 have hspec : spec_TaskKeys.f kfuel g s = some r := (specKeys_eq (B := 100) (by decide) hsmall (by omega) kfuel (by decide)).trans hv
 obtain ⟨⟨st, q2⟩, hd, h9, h10, h11⟩ := dmk_ok hr gfuel (by decide) r.length r q (by omega) (by omega)
 simp only at h9 h10 h11
 obtain ⟨⟨v, q3⟩, hp, _⟩ := pick_ok hr gfuel q2 16 (by decide) (by omega) (by omega) (by omega)
 refine ⟨g, s, _, by simp only [hb, Option.bind_some, hg, hs, hspec, hd, hp]; rfl, h1, h4, ?_⟩
 split
 ·unfold padTo
  simp
  omega
 ·omega
theorem miss_mem {ks st : List Int} {i : Nat} (hi : i < ks.length) : (miss ks st).contains (i : Int) = !(st.contains (ks.getD i 0)) := by
 unfold miss
 have h : (castL (missTo ks st ks.length)).contains (i : Int) = (missTo ks st ks.length).contains i := by
  rw [Bool.eq_iff_iff, List.contains_iff_mem, List.contains_iff_mem]
  unfold castL
  rw [List.mem_map]
  constructor
  ·rintro ⟨j, hj, e⟩
   have : j = i := by omega
   exact this ▸ hj
  ·intro h
   exact ⟨i, h, rfl⟩
 rw [h, Bool.eq_iff_iff, List.contains_iff_mem]
 unfold missTo
 rw [List.mem_filter, List.mem_range]
 constructor
 ·exact fun h => h.2
 ·exact fun h => ⟨hi, h⟩
theorem miss_self (ks : List Int) : miss ks ks = [] := by
 unfold miss missTo
 have : (List.range ks.length).filter (fun j => !(ks.contains (ks.getD j 0))) = [] := by
  rw [List.filter_eq_nil_iff]
  intro j hj
  rw [List.mem_range] at hj
  have : ks.contains (ks.getD j 0) = true := List.contains_iff_mem.2 (by
   rw [List.getD_eq_getElem?_getD, List.getElem?_eq_getElem hj]
   exact List.getElem_mem _)
  rw [this]
  decide
 rw [this]
 rfl
theorem miss_none (ks : List Int) : (miss ks []).length = ks.length := by
 unfold miss missTo
 rw [castL_length, List.filter_eq_self.2 (fun j _ => by simp), List.length_range]
theorem keysOr_val (g : List S69) (inp : List Int) : impl_TaskKeys.f g inp = some (keysOr g inp) := rfl
theorem gok_nil {g : List S69} (h : g.length = 0) : gok g = true := by
 rw [List.eq_nil_of_length_eq_zero h]
 decide
end Go.Proofs.YtcmhdcjdgchnfaaDoor.G
