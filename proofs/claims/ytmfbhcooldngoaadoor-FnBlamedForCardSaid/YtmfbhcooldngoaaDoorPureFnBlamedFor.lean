/- FnBlamedFor: for every code, who is to blame fails and is needed, and a task without one is done. Nothing is assumed. -/
import Derived.Test.YtmfbhcooldngoaaDoorQBl
import Derived.Test.YtmfbhcooldngoaaDoorQAny
import Derived.Test.YtmfbhcooldngoaaDoorQEqualInts
import Derived.Test.YtmfbhcooldngoaaDoorLFnBlamedFor
import Derived.Test.YtmfbhcooldngoaaDoorG0
import Derived.Test.YtmfbhcooldngoaaDoorG4
import Derived.Test.YtmfbhcooldngoaaDoorLFnBlamedFor
namespace Go.Proofs.YtmfbhcooldngoaaDoor.G
open Go.RowKit Go.Proofs.YtmfbhcooldngoaaDoorW.PrintWords Go.Proofs.YtmfbhcooldngoaaDoorW.PrintLast Go.Proofs.YtmfbhcooldngoaaDoorW.PrintMore C
set_option linter.unusedVariables false
set_option linter.unusedSimpArgs false

theorem pureFnBlamedFor : laws_FnBlamedFor.Pure := by
 intro l hm hl hw
 obtain ⟨k, hk⟩ : ∃ k, 2000 ≤ k := ⟨2000, Nat.le_refl _⟩
 refine ⟨k, ?_⟩
 unfold laws_FnBlamedFor.f
 by_cases h1 : (l.length : Int) > 1048576
 ·rw [if_pos h1]
 rw [if_neg h1]
 obtain ⟨g, s, a, hd, hsm, hsl⟩ := drawBlamed l hw
 have hsmall : Small 100 g := ⟨Nat.le_trans hsm.len (by decide), fun t ht => Nat.le_trans (hsm.nd t ht) (by decide)⟩
 obtain ⟨m, rfl⟩ : ∃ m, k = m + 1 := ⟨k - 1, by omega⟩
 obtain ⟨v, hv, hcase⟩ := blamed_val g s a
 obtain ⟨out, ho, hlen, hocase⟩ := outcomes_val g s 8
 have hspec : ∀ k, 950 ≤ k → spec_BlamedFor.f k g s a = some v := fun k hk => (specBlamed_eq (B := 100) (by decide) hsmall (by omega) a k (by omega)).trans hv
 have htriv : laws_FnBlamedFor.j0 (m + 1) g s a v out true = some true := by
  rw [laws_FnBlamedFor.j0, if_pos rfl, hspec m (by omega)]
  simp
 simp only [hd, Option.bind_some, hv, ho, hspec (m + 1) (by omega), if_true]
 rcases hcase with ⟨c, i, rfl, hi, rfl⟩ | ⟨hno, rfl⟩
 ·have hg := (sok_partsO c).1
  have h8 := gok8 hg
  have eo : out = outL g s 8 := by
   rcases hocase with ⟨_, _, _, h, _⟩ | h
   ·exact h
   ·unfold impl_Outcomes.f ook at ho
    rw [c] at ho
    simpa using ho.symm
  have hlo := outL_len (l1 := s) (kI := 8) hg
  subst eo
  rw [if_neg (by omega), show decide ((i : Int) ≥ ((outL g s 8).length : Int)) = false from decide_eq_false (by omega), laws_FnBlamedFor.j0, if_neg (by decide)]
  rcases blame_cases g s i with ⟨e, hall⟩ | ⟨x, hx, h1x, e⟩
  ·rw [e, if_pos (by decide), if_pos (by omega), if_pos (by omega), rd_nat]
   by_cases q : (outL g s 8).getD i 0 = 0
   ·rw [q]; rfl
   ·obtain ⟨x, hx, h1x⟩ := out_blame c i hi q
    exact absurd h1x (hall x ((mem_blm hg hi).2 hx))
  ·have hxn := elems_lt h8 (blm_lt hg hi) hx
   have hx' := (mem_blm hg hi).1 hx
   rw [e, if_neg (by omega), if_pos (by omega), if_pos (by omega), rd_nat, if_pos h1x, if_pos (by omega), if_pos (by omega), rd_nat, if_neg (fun h0 => out_none c hi h0 hx' h1x)]
   by_cases q : x = i
   ·subst q
    rw [if_pos rfl]
   ·rw [if_neg (by omega)]
    unfold impl_AllNeeds.f relF
    rw [if_pos ⟨hg, by omega⟩, Int.toNat_natCast]
    simp only [Option.bind_some]
    rw [lIsInO_eq (by rw [castL_length]; have := elems_len ((bel g).getD i 0); omega) _ _ (by rw [castL_length]; have := elems_len ((bel g).getD i 0); omega)]
    have hb := bel_bits hg hi
    have hr : C.Reach (nds g) i x := hx'.resolve_left q
    have hmem : (castL (elems ((bel g).getD i 0))).contains (x : Int) = true := by
     rw [List.contains_iff_mem]
     exact List.mem_map.2 ⟨x, (mem_elems hb.lt).2 ((hb.iff x).2 hr), rfl⟩
    rw [hmem]
    rfl
 ·by_cases q : a < 0
  ·rw [if_pos q]
   exact htriv
  ·rw [if_neg q, show decide (a ≥ (out.length : Int)) = true from decide_eq_true (by
    rcases hno with h | h | h
    ·rcases hocase with ⟨h', _⟩ | h'
     ·rw [h] at h'; cases h'
     ·rw [h']; simpa using q
    ·exact absurd h q
    ·rcases hocase with ⟨_, _, _, _, h'⟩ | h'
     ·omega
     ·rw [h']; simpa using q)]
   exact htriv
end Go.Proofs.YtmfbhcooldngoaaDoor.G
