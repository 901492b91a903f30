/-
 The stages of tasks, along the order: plain numbers.
-/
import Derived.Test.YtbodhggmhbiebaaDoorHGOf
import Derived.Test.YtbodhggmhbiebaaDoorG0
namespace Go.Proofs.YtbodhggmhbiebaaDoor.G
open Go.RowKit Go.Proofs.YtbodhggmhbiebaaDoorW.PrintWords Go.Proofs.YtbodhggmhbiebaaDoorW.PrintLast Go.Proofs.YtbodhggmhbiebaaDoorW.PrintMore C
set_option linter.unusedVariables false
set_option linter.unusedSimpArgs false

/-- One more need looked at. -/
def sgk (o : List Int) (a : Int) (k : Nat) : Int := mx a (o.getD k 0 + 1)
/-- The stage of a task, out of its needs' ones. -/
def stgAt (nd : List Nat) (o : List Int) (i : Nat) : Int := (elems (nd.getD i 0)).foldl (sgk o) (o.getD i 0)
def stagesN (nd : List Nat) (n : Nat) (od : List Nat) : List Int := od.foldl (fun o i => o.set i (stgAt nd o i)) (List.replicate n 0)
theorem stagesN_snoc (nd : List Nat) (n : Nat) (od : List Nat) (i : Nat) : stagesN nd n (od ++ [i]) = (stagesN nd n od).set i (stgAt nd (stagesN nd n od) i) := by
 unfold stagesN
 rw [List.foldl_append]
 rfl
theorem stagesN_len (nd : List Nat) (n : Nat) : ∀ od : List Nat, (stagesN nd n od).length = n := by
 intro od
 induction od using snoc_ind with
 | h0 => simp [stagesN]
 | hs od i ih => rw [stagesN_snoc, List.length_set, ih]
theorem mx_bd {a b c : Int} (h1 : 0 ≤ a ∧ a ≤ c) (h2 : 0 ≤ b ∧ b ≤ c) : 0 ≤ mx a b ∧ mx a b ≤ c := by
 unfold mx
 split <;> omega
/-- Each number lies between 0 and c. -/
def Sb (c : Int) (o : List Int) : Prop := ∀ i : Nat, 0 ≤ o.getD i 0 ∧ o.getD i 0 ≤ c
theorem Sb.mono {c d : Int} {o : List Int} (h : Sb c o) (hd : c ≤ d) : Sb d o := fun i => ⟨(h i).1, by have := (h i).2; omega⟩
theorem Sb.set {c : Int} {o : List Int} (h : Sb c o) (i : Nat) {x : Int} (h0 : 0 ≤ x) (h1 : x ≤ c) : Sb c (o.set i x) := fun j => by
 have hj := h j
 rw [List.getD_eq_getElem?_getD, List.getElem?_set] at *
 split
 ·split
  ·exact ⟨h0, h1⟩
  ·exact ⟨by decide, by show (0 : Int) ≤ c; omega⟩
 ·exact hj
theorem Sb.zero (n : Nat) : Sb 0 (List.replicate n 0) := fun i => by
 rw [List.getD_eq_getElem?_getD, List.getElem?_replicate]
 split <;> exact ⟨by decide, by decide⟩
theorem sfold_bd {c : Int} {o : List Int} (ho : Sb c o) : ∀ (l : List Nat) (a : Int), 0 ≤ a → a ≤ c + 1 → 0 ≤ l.foldl (sgk o) a ∧ l.foldl (sgk o) a ≤ c + 1
 | [], a, h0, h1 => ⟨h0, h1⟩
 | j :: r, a, h0, h1 => by
  have h := ho j
  have hs := mx_bd (a := a) (b := o.getD j 0 + 1) (c := c + 1) ⟨h0, h1⟩ ⟨by omega, by omega⟩
  exact sfold_bd ho r (sgk o a j) hs.1 hs.2
theorem stagesN_bd (nd : List Nat) (n : Nat) : ∀ od : List Nat, Sb (od.length : Int) (stagesN nd n od) := by
 intro od
 induction od using snoc_ind with
 | h0 => exact Sb.zero n
 | hs od i ih =>
  rw [stagesN_snoc]
  have h0 := ih i
  have h2 := sfold_bd ih (elems (nd.getD i 0)) ((stagesN nd n od).getD i 0) h0.1 (by omega)
  have e : ((od ++ [i]).length : Int) = od.length + 1 := by simp
  exact (ih.mono (by omega)).set i h2.1 (by rw [e]; exact h2.2)
/-- Of a valid graph. -/
def stg (l0 : List S29) : List Int := stagesN (ndm l0) l0.length (ord l0)
theorem stg_len (l0 : List S29) : (stg l0).length = l0.length := stagesN_len _ _ _
theorem getD_sgk {o o' : List Int} : ∀ (L : List Nat) (a : Int), (∀ k, k ∈ L → o.getD k 0 = o'.getD k 0) → L.foldl (sgk o) a = L.foldl (sgk o') a
 | [], _, _ => rfl
 | j :: r, a, h => by
  rw [List.foldl_cons, List.foldl_cons]
  have e : sgk o a j = sgk o' a j := by unfold sgk; rw [h j (by simp)]
  rw [e]
  exact getD_sgk r _ (fun k hk => h k (by simp [hk]))
/-- What a stage is: of a task whose needs are a list, by their stages. -/
structure IsTop (o : List Int) (L : List Nat) (a : Int) (v : Int) : Prop where
 ge : ∀ k, k ∈ L → o.getD k 0 + 1 ≤ v
 base : a ≤ v
 from_ : v = a ∨ ∃ k, k ∈ L ∧ v = o.getD k 0 + 1
theorem mx_cases (a b : Int) : (mx a b = a ∧ b ≤ a) ∨ (mx a b = b ∧ a ≤ b) := by
 unfold mx
 split <;> omega
theorem sfold_top (o : List Int) : ∀ (L : List Nat) (a : Int), IsTop o L a (L.foldl (sgk o) a)
 | [], a => ⟨fun k hk => (nomatch hk), Int.le_refl _, .inl rfl⟩
 | j :: r, a => by
  have h := sfold_top o r (sgk o a j)
  rw [List.foldl_cons]
  have hc := mx_cases a (o.getD j 0 + 1)
  have hb := h.base
  have e : sgk o a j = mx a (o.getD j 0 + 1) := rfl
  refine ⟨fun k hk => ?_, by omega, ?_⟩
  ·rcases List.mem_cons.1 hk with rfl | hk
   ·omega
   ·exact h.ge k hk
  ·rcases h.from_ with hf | ⟨k, hk, hf⟩
   ·rcases hc with ⟨h1, _⟩ | ⟨h1, _⟩
    ·exact .inl (by omega)
    ·exact .inr ⟨j, by simp, by omega⟩
   ·exact .inr ⟨k, by simp [hk], hf⟩
theorem preS {n : Nat} {nd : Nat → List Nat} {pre : List Nat} {x : Nat} (hp : Pre n nd (pre ++ [x])) : Pre n nd pre ∧ x < n ∧ x ∉ pre ∧ (∀ k, k ∈ nd x → k ∈ pre) := by
 refine ⟨⟨fun i hi => hp.lt i (by simp [hi]), (List.nodup_append.1 hp.nodup).1, fun a b c e k hk => hp.needs a b (c ++ [x]) (by rw [e]; simp) k hk⟩, hp.lt x (by simp), fun hx => ?_, fun k hk => hp.needs pre x [] rfl k hk⟩
 exact (List.nodup_append.1 hp.nodup).2.2 x hx x (by simp) rfl
theorem getD_setS (l : List Int) (i j : Nat) (x : Int) (h : j ≠ i) : (l.set i x).getD j 0 = l.getD j 0 := by
 rw [List.getD_eq_getElem?_getD, List.getD_eq_getElem?_getD, List.getElem?_set_ne (fun e => h e.symm)]
/-- Behind a task's turn its stage is what its needs' stages say; ahead of it 0. -/
theorem stages_inv {l0 : List S29} (hg : gok l0 = true) : ∀ od : List Nat, Pre l0.length (nds l0) od →
  (∀ i, i ∉ od → (stagesN (ndm l0) l0.length od).getD i 0 = 0) ∧ ∀ i, i ∈ od → IsTop (stagesN (ndm l0) l0.length od) (nds l0 i) 0 ((stagesN (ndm l0) l0.length od).getD i 0) := by
 intro od
 induction od using snoc_ind with
 | h0 =>
  intro _
  refine ⟨fun i _ => ?_, fun i hi => by cases hi⟩
  show (List.replicate l0.length (0 : Int)).getD i 0 = 0
  rw [List.getD_eq_getElem?_getD, List.getElem?_replicate]
  split <;> rfl
 | hs od y ih =>
  intro hp
  obtain ⟨hpre, hyn, hy, hny⟩ := preS hp
  obtain ⟨h1, h2⟩ := ih hpre
  have hlen := stagesN_len (ndm l0) l0.length od
  rw [stagesN_snoc]
  have hL : ∀ k, k ∈ elems ((ndm l0).getD y 0) ↔ k ∈ nds l0 y := fun k => by
   have hb := ndm_bits (gok_fine hg) hyn
   rw [mem_elems hb.lt]
   exact hb.iff k
  have htop : IsTop (stagesN (ndm l0) l0.length od) (nds l0 y) 0 (stgAt (ndm l0) (stagesN (ndm l0) l0.length od) y) := by
   have h := sfold_top (stagesN (ndm l0) l0.length od) (elems ((ndm l0).getD y 0)) ((stagesN (ndm l0) l0.length od).getD y 0)
   rw [h1 y hy] at h
   unfold stgAt
   rw [h1 y hy]
   exact ⟨fun k hk => h.ge k ((hL k).2 hk), h.base, by
    rcases h.from_ with hf | ⟨k, hk, hf⟩
    ·exact .inl hf
    ·exact .inr ⟨k, (hL k).1 hk, hf⟩⟩
  generalize stgAt (ndm l0) (stagesN (ndm l0) l0.length od) y = v at htop
  generalize stagesN (ndm l0) l0.length od = o at *
  have hmove : ∀ i u, (∀ k, k ∈ nds l0 i → k ≠ y) → IsTop o (nds l0 i) 0 u → IsTop (o.set y v) (nds l0 i) 0 u := fun i u hk h => ⟨fun k hk' => by rw [getD_setS _ _ _ _ (hk k hk')]; exact h.ge k hk', h.base, by
   rcases h.from_ with hf | ⟨k, hk', hf⟩
   ·exact .inl hf
   ·exact .inr ⟨k, hk', by rw [getD_setS _ _ _ _ (hk k hk')]; exact hf⟩⟩
  refine ⟨fun i hi => ?_, fun i hi => ?_⟩
  ·have hiy : i ≠ y := fun e => hi (by simp [e])
   rw [getD_setS _ _ _ _ hiy]
   exact h1 i (fun h => hi (by simp [h]))
  ·by_cases e : i = y
   ·subst e
    have ev : (o.set i v).getD i 0 = v := by rw [List.getD_eq_getElem?_getD, List.getElem?_set_self (by omega)]; rfl
    rw [ev]
    exact hmove i v (fun k hk hki => hy (hki ▸ hny k hk)) htop
   ·rw [getD_setS _ _ _ _ e]
    have hi' : i ∈ od := by
     rcases List.mem_append.1 hi with h | h
     ·exact h
     ·exact absurd (List.mem_singleton.1 h) e
    refine hmove i _ (fun k hk hky => hy ?_) (h2 i hi')
    obtain ⟨p1, p2, hp12⟩ := List.append_of_mem hi'
    have := hpre.needs p1 i p2 hp12 k hk
    rw [← hky, hp12]
    simp [this]
theorem stg_top {l0 : List S29} (hg : gok l0 = true) {i : Nat} (hi : i < l0.length) : IsTop (stg l0) (nds l0 i) 0 ((stg l0).getD i 0) :=
 (stages_inv hg (ord l0) (topo_pre _ _)).2 i ((ord_mem hg).2 hi)
/-- A task's stage is at most the number of those that it needs. -/
theorem stg_le {l0 : List S29} (hg : gok l0 = true) : ∀ i, i < l0.length → (stg l0).getD i 0 ≤ ((elems ((bel l0).getD i 0)).length : Int) := by
 have hn := gok_full hg
 refine hn.ind (fun i hi ih => ?_)
 have ht := stg_top hg hi
 rcases ht.from_ with h | ⟨k, hk, h⟩
 ·omega
 ·have hkn := nds_lt (gok_fine hg) hi hk
  have hik := ih k hk
  have hbi := bel_bits hg hi
  have hbk := bel_bits hg hkn
  have hnd : (k :: elems ((bel l0).getD k 0)).Nodup := List.nodup_cons.2 ⟨fun hm => hn.irrefl hkn ((hbk.iff k).1 ((mem_elems hbk.lt).1 hm)), (elems_sorted _).imp (fun h => Nat.ne_of_lt h)⟩
  have hle := List.Nodup.length_le_of_subset hnd (l₂ := elems ((bel l0).getD i 0)) (fun x hx => by
   rw [mem_elems hbi.lt, hbi.iff]
   rcases List.mem_cons.1 hx with rfl | hx
   ·exact .base hk
   ·exact .step hk ((hbk.iff x).1 ((mem_elems hbk.lt).1 hx)))
  simp only [List.length_cons] at hle
  omega
theorem stg_lt {l0 : List S29} (hg : gok l0 = true) {i : Nat} (hi : i < l0.length) : 0 ≤ (stg l0).getD i 0 ∧ (stg l0).getD i 0 < (l0.length : Int) := by
 have ht := stg_top hg hi
 have hl := stg_le hg i hi
 have hbi := bel_bits hg hi
 have hn := gok_full hg
 have hnd : (i :: elems ((bel l0).getD i 0)).Nodup := List.nodup_cons.2 ⟨fun hm => hn.irrefl hi ((hbi.iff i).1 ((mem_elems hbi.lt).1 hm)), (elems_sorted _).imp (fun h => Nat.ne_of_lt h)⟩
 have hle := nodup_length_le hnd (n := l0.length) (fun x hx => by
  rcases List.mem_cons.1 hx with rfl | hx
  ·exact hi
  ·exact hn.reach_lt hi ((hbi.iff x).1 ((mem_elems hbi.lt).1 hx)))
 simp only [List.length_cons] at hle
 exact ⟨ht.base, by omega⟩
end Go.Proofs.YtbodhggmhbiebaaDoor.G
