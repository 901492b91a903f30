/- FnTaskKeysEqual: for every code, the keys depend on the needs and the inputs alone. Nothing is assumed. -/
import Derived.Test.YtdihblbfafhhnaaDoorQKeys
import Derived.Test.YtdihblbfafhhnaaDoorQAny
import Derived.Test.YtdihblbfafhhnaaDoorQEqualInts
import Derived.Test.YtdihblbfafhhnaaDoorLFnTaskKeysEqual
import Derived.Test.YtdihblbfafhhnaaDoorG0
import Derived.Test.YtdihblbfafhhnaaDoorG4
import Derived.Test.YtdihblbfafhhnaaDoorLFnTaskKeysEqual
namespace Go.Proofs.YtdihblbfafhhnaaDoor.G
open Go.RowKit Go.Proofs.YtdihblbfafhhnaaDoorW.PrintWords Go.Proofs.YtdihblbfafhhnaaDoorW.PrintLast Go.Proofs.YtdihblbfafhhnaaDoorW.PrintMore C
set_option linter.unusedVariables false
set_option linter.unusedSimpArgs false

/-- A task with its needs alone. -/
def dullT (t : S31) : S31 := ⟨1, t.f1, 0, 1⟩
def dull (g : List S31) : List S31 := g.map dullT
theorem dull_rd (g : List S31) (i : Int) : (rd_T31 (dull g) i).f1 = (rd_T31 g i).f1 := by
 unfold rd_T31 dull
 rw [List.getD_eq_getElem?_getD, List.getD_eq_getElem?_getD, List.getElem?_map]
 cases g[i.toNat]? <;> rfl
theorem dull_nds (g : List S31) : nds (dull g) = nds g := by
 funext i
 unfold nds
 rw [dull_rd]
theorem dull_len (g : List S31) : (dull g).length = g.length := by simp [dull]
theorem dull_ndm (g : List S31) : ndm (dull g) = ndm g := by
 unfold ndm dull
 rw [List.map_map]
 rfl
theorem dull_ord (g : List S31) : ord (dull g) = ord g := by
 unfold ord
 rw [dull_len, dull_nds]
theorem dull_gok {g : List S31} (h : gok g = true) : gok (dull g) = true := by
 have hf := gok_fine h
 have hfull := gok_full h
 obtain ⟨h8, ht⟩ := fine_task hf
 have hfd : fine (dull g) = true := by
  unfold fine
  rw [dull_len, decide_eq_true h8, Bool.true_and, List.all_eq_true]
  intro t hm
  obtain ⟨u, hu, rfl⟩ := List.mem_map.1 hm
  have := ht u hu
  unfold fineT at this ⊢
  simp only [Bool.and_eq_true] at this
  simp only [dullT]
  rw [this.1]
  rfl
 unfold gok
 rw [hfd, Bool.true_and, dull_len, dull_nds]
 exact decide_eq_true hfull
theorem dull_keys {g : List S31} {s : List Int} (c : vin g s = true) : impl_TaskKeys.f (dull g) s = some (keysN (ndm g) s g.length (ord g)) := by
 have hv : vin (dull g) s = true := by
  unfold vin at c ⊢
  simp only [Bool.and_eq_true] at c ⊢
  rw [dull_len]
  exact ⟨dull_gok c.1, c.2⟩
 unfold impl_TaskKeys.f
 rw [if_pos hv, dull_ndm, dull_len, dull_ord]
theorem te_l0 {g : List S31} {s r : List Int} (h8 : g.length ≤ 8) (hr8 : r.length ≤ 8) (hk : impl_TaskKeys.f (dull g) s = some r) : ∀ (d i k : Nat), i + d = g.length → d + 20 ≤ k → laws_FnTaskKeysEqual.l0 k g s r (dull (g.take i)) (i : Int) = some true := by
 intro d
 induction d with
 | zero =>
  intro i k hi hk'
  obtain ⟨k, rfl⟩ : ∃ m, k = m + 1 := ⟨k - 1, by omega⟩
  rw [laws_FnTaskKeysEqual.l0, if_neg (by omega), List.take_of_length_le (by omega), hk]
  simp only [Option.bind_some, eqI_refl r k (by omega) (by omega)]
 | succ d ih =>
  intro i k hi hk'
  obtain ⟨k, rfl⟩ : ∃ m, k = m + 1 := ⟨k - 1, by omega⟩
  have hlt : i < g.length := by omega
  have hl : (dull (g.take i)).length = i := by rw [dull_len, List.length_take]; omega
  have e : dull (g.take i) ++ [(⟨1, (rd_T31 g (i : Int)).f1, 0, 1⟩ : S31)] = dull (g.take (i + 1)) := by
   rw [List.take_succ_eq_append_getElem hlt]
   unfold dull
   rw [List.map_append]
   congr 1
   unfold rd_T31 dullT
   rw [Int.toNat_natCast, List.getD_eq_getElem?_getD, List.getElem?_eq_getElem hlt]
   rfl
  rw [laws_FnTaskKeysEqual.l0, if_pos (by omega), if_pos (by omega), if_pos (by omega), e, nx (m := 8) (by omega) (by omega)]
  exact ih (i + 1) k (by omega) (by omega)
theorem pureFnTaskKeysEqual : laws_FnTaskKeysEqual.Pure := by
 intro l hm hl hw
 obtain ⟨k, hk⟩ : ∃ k, 2000 ≤ k := ⟨2000, Nat.le_refl _⟩
 refine ⟨k, ?_⟩
 unfold laws_FnTaskKeysEqual.f
 by_cases h1 : (l.length : Int) > 1048576
 ·rw [if_pos h1]
 rw [if_neg h1]
 obtain ⟨g, s, hd, hsm, hsl⟩ := drawTaskKeys l hw
 have hsmall : Small 100 g := ⟨Nat.le_trans hsm.len (by decide), fun t ht => Nat.le_trans (hsm.nd t ht) (by decide)⟩
 obtain ⟨m, rfl⟩ : ∃ m, k = m + 1 := ⟨k - 1, by omega⟩
 obtain ⟨r, hv, h8, hb, hcase⟩ := keys_val g s
 have hspec : ∀ k, 950 ≤ k → spec_TaskKeys.f k g s = some r := fun k hk => (specKeys_eq (B := 100) (by decide) hsmall (by omega) k (by omega)).trans hv
 simp only [hd, Option.bind_some, hv, hspec (m + 1) (by omega), eqI_refl r (m + 1) (by omega) (by omega), if_true]
 cases e : ((r.length : Int) == 0) with
 | true =>
  rw [laws_FnTaskKeysEqual.j0, if_pos rfl]
  simp only [hspec m (by omega), Option.bind_some, eqI_refl r m (by omega) (by omega)]
 | false =>
  rw [laws_FnTaskKeysEqual.j0, if_neg (by decide)]
  rcases hcase with ⟨c, er, hl⟩ | rfl
  ·exact te_l0 (by omega) h8 (by rw [dull_keys c, er]) g.length 0 m (by omega) (by omega)
  ·exact absurd e (by decide)
end Go.Proofs.YtdihblbfafhhnaaDoor.G
