/-
 Marks on a graph that was handed over: markTaskS by hand; what markIntS and heldIntS answer.
-/
import Derived.Test.YtkafmfabkbmpbaaDoorQOk
import Derived.Test.YtkafmfabkbmpbaaDoorWKept
import Derived.Test.YtkafmfabkbmpbaaDoorHR
import Derived.Test.YtkafmfabkbmpbaaDoorG0
import Derived.Test.YtkafmfabkbmpbaaDoorG7
namespace Go.Proofs.YtkafmfabkbmpbaaDoor.G
open Go.RowKit Go.Proofs.YtkafmfabkbmpbaaDoorW.PrintWords Go.Proofs.YtkafmfabkbmpbaaDoorW.PrintLast Go.Proofs.YtkafmfabkbmpbaaDoorW.PrintMore C
set_option linter.unusedVariables false
set_option linter.unusedSimpArgs false

/-- Behind the marks the first i elements are c, c + 1, .. -/
def MarkedI (l : List Int) (c : Int) (i : Nat) : Prop := ∀ j, j < i → l.getD j 0 = c + j
theorem markI_l0 (c : Int) (hc : 0 ≤ c ∧ c ≤ 4000000000000000000) : ∀ (d k i : Nat) (l : List Int), l.length ≤ 1000000000 → i + d = l.length → d < k → MarkedI l c i →
  ∃ l', laws_markIntS.l0 k l (c + i) (i : Int) = some (c + l.length, l') ∧ l'.length = l.length ∧ MarkedI l' c l.length := by
 intro d
 induction d with
 | zero =>
  intro k i l hl hi hk hm
  obtain ⟨k, rfl⟩ : ∃ m, k = m + 1 := ⟨k - 1, by omega⟩
  simp only [laws_markIntS.l0]
  rw [if_neg (by omega)]
  obtain rfl : i = l.length := by omega
  exact ⟨l, rfl, rfl, hm⟩
 | succ d ih =>
  intro k i l hl hi hk hm
  obtain ⟨k, rfl⟩ : ∃ m, k = m + 1 := ⟨k - 1, by omega⟩
  simp only [laws_markIntS.l0]
  have hn : wrap64 ((i : Int) + 1) = ((i + 1 : Nat) : Int) := by rw [w64 (by omega) (by omega)]; omega
  have hn2 : wrap64 (c + (i : Int) + 1) = c + ((i + 1 : Nat) : Int) := by rw [w64 (by omega) (by omega)]; omega
  rw [if_pos (by omega), if_pos (by omega), hn, hn2, Int.toNat_natCast]
  obtain ⟨l', h1, h2, h3⟩ := ih k (i + 1) (l.set i (c + i)) (by simpa using hl) (by simp; omega) (by omega) (by
   intro j hj
   rw [List.getD_eq_getElem?_getD, List.getElem?_set]
   by_cases e : i = j
   ·subst e
    rw [if_pos rfl, if_pos (by omega)]
    rfl
   ·rw [if_neg e, ← List.getD_eq_getElem?_getD]
    exact hm j (by omega))
  rw [List.length_set] at h1 h2 h3
  exact ⟨l', h1, h2, h3⟩
theorem markI_eq (l : List Int) (c : Int) (k : Nat) (hc : 0 ≤ c ∧ c ≤ 4000000000000000000) (hl : l.length ≤ 1000000000) (hk : l.length < k) :
  ∃ l', laws_markIntS.f k l c = some (c + l.length, l') ∧ l'.length = l.length ∧ MarkedI l' c l.length := by
 unfold laws_markIntS.f
 have h := markI_l0 c hc l.length k 0 l hl (by omega) hk (fun j hj => absurd hj (by omega))
 simpa using h
theorem heldI_l0 (c : Int) (l : List Int) (hc : 0 ≤ c ∧ c ≤ 1000000000) (hl : l.length ≤ 1000000000) (hm : MarkedI l c l.length) : ∀ (d k i : Nat), i + d = l.length → d < k →
  laws_heldIntS.l0 k l (c + i) (i : Int) = some (c + l.length) := by
 intro d
 induction d with
 | zero =>
  intro k i hi hk
  obtain ⟨k, rfl⟩ : ∃ m, k = m + 1 := ⟨k - 1, by omega⟩
  simp only [laws_heldIntS.l0]
  rw [if_neg (by omega)]
  obtain rfl : i = l.length := by omega
  rfl
 | succ d ih =>
  intro k i hi hk
  obtain ⟨k, rfl⟩ : ∃ m, k = m + 1 := ⟨k - 1, by omega⟩
  simp only [laws_heldIntS.l0]
  have hn : wrap64 ((i : Int) + 1) = ((i + 1 : Nat) : Int) := by rw [w64 (by omega) (by omega)]; omega
  have hn2 : wrap64 (c + (i : Int) + 1) = c + ((i + 1 : Nat) : Int) := by rw [w64 (by omega) (by omega)]; omega
  have hv : rd l (i : Int) = c + (i : Int) := hm i (by omega)
  rw [if_pos (by omega), if_pos (by omega), if_pos hv, hn, hn2]
  exact ih k (i + 1) (by omega) (by omega)
theorem heldI_eq (l : List Int) (c : Int) (k : Nat) (hc : 0 ≤ c ∧ c ≤ 1000000000) (hl : l.length ≤ 1000000000) (hm : MarkedI l c l.length) (hk : l.length < k) :
  laws_heldIntS.f k l c = some (c + l.length) := by
 unfold laws_heldIntS.f
 have h := heldI_l0 c l hc hl hm l.length k 0 (by omega) hk
 simpa using h
/-- A graph's row while it is marked: the headers stay, the rows behind them bear some numbers. -/
def TI (base g : Nat) (ok : Nat → Prop) (f : Nat → Nat) (n : Nat) (W : World) (cells : Array Value) : Prop :=
 W.heap[g]? = some (.cells cells 47 (0, 0)) ∧ ∀ i, i < n → ∃ (u0 u2 u3 : Value) (A : Option Addr) (c : Nat) (ys : List Int), cells[i * 4]? = some u0 ∧ cells[i * 4 + 1]? = some (.slice A ys.length c) ∧ cells[i * 4 + 2]? = some u2 ∧ cells[i * 4 + 3]? = some u3 ∧ ys.length ≤ 1048576 ∧
  Kd.R (Kd.int .i64) 3 W base (fun k => (ok k ∧ k ≠ g) ∧ f k = i) (.slice A ys.length c) ys
theorem TI.set {base g : Nat} {ok : Nat → Prop} {f : Nat → Nat} {n : Nat} {W : World} {cells : Array Value} (h : TI base g ok f n W cells) (i t : Nat) (ht : t < 4) (h1 : t ≠ 1) (u : Value) :
  TI base g ok f n (W.setCell ⟨g, i * 4 + t, none⟩ u) (cells.setIfInBounds (i * 4 + t) u) := by
 obtain ⟨hg, hr⟩ := h
 refine ⟨blk_set hg (i * 4 + t) u, fun j hj => ?_⟩
 obtain ⟨u0, u2, u3, A, c, ys, e0, e1, e2, e3, hl, hR⟩ := hr j hj
 have hget : ∀ (q : Nat) (v : Value), cells[q]? = some v → ∃ v', (cells.setIfInBounds (i * 4 + t) u)[q]? = some v' := fun q v hq => by
  rw [Array.getElem?_setIfInBounds]
  split
  ·split
   ·exact ⟨_, rfl⟩
   ·have := (Array.getElem?_eq_some_iff.1 hq).1
    omega
  ·exact ⟨v, hq⟩
 obtain ⟨v0, f0⟩ := hget _ _ e0
 obtain ⟨v2, f2⟩ := hget _ _ e2
 obtain ⟨v3, f3⟩ := hget _ _ e3
 refine ⟨v0, v2, v3, A, c, ys, f0, ?_, f2, f3, hl, Kd.R_far hR (p := ⟨g, i * 4 + t, none⟩) (fun k hk => hk.1.2) u⟩
 rw [Array.getElem?_setIfInBounds, if_neg (by omega)]
 exact e1
theorem TI.kept {base g : Nat} {ok : Nat → Prop} {f : Nat → Nat} {n i : Nat} {W W' : World} {cells : Array Value} (h : TI base g ok f n W cells) {A : Option Addr} {c : Nat} {ys ys' : List Int} (hlen : ys'.length = ys.length) (he : cells[i * 4 + 1]? = some (.slice A ys.length c))
  (hR : Kd.R (Kd.int .i64) 3 W base (fun k => (ok k ∧ k ≠ g) ∧ f k = i) (.slice A ys.length c) ys) {okn : Nat → Prop} (hR' : Kd.R (Kd.int .i64) 3 W' base okn (.slice A ys.length c) ys') (hl : ys.length ≤ 1048576) (hk : Kept W W' (fun k => (ok k ∧ k ≠ g) ∧ f k = i)) : TI base g ok f n W' cells := by
 obtain ⟨hg, hr⟩ := h
 refine ⟨blk_kept hg hk (fun h => h.1.2 rfl), fun j hj => ?_⟩
 obtain ⟨u0, u2, u3, A1, c1, ys1, e0, e1, e2, e3, hl1, hR1⟩ := hr j hj
 by_cases e : j = i
 ·subst e
  rw [he] at e1
  have e1' := Option.some.inj e1
  injection e1' with q1 q2 q3
  subst q1 q3
  have hR2 := Kd.R_mono (Kd.R_tight rfl hR') (ok' := fun k => (ok k ∧ k ≠ g) ∧ f k = j) (fun k hk => hR.1 k hk.symm)
  rw [← hlen] at hR2
  refine ⟨u0, u2, u3, A, c, ys', e0, ?_, e2, e3, by omega, hR2⟩
  rw [hlen]
  exact he
 ·exact ⟨u0, u2, u3, A1, c1, ys1, e0, e1, e2, e3, hl1, Kd.R_kept hR1 hk (fun k h1 h2 => e (h1.2.symm.trans h2.2))⟩
theorem S_TI {base g n c : Nat} {W : World} {ok : Nat → Prop} {xs : List S47} (h : Kd.S k47 47 W base ok (.slice (some ⟨g, 0, none⟩) n c) xs) (hd : ∀ t, t ∈ xs → t.f1.length ≤ 1048576) :
  n = xs.length ∧ ok g ∧ base ≤ g ∧ ∃ cells f, TI base g ok f n W cells := by
 obtain ⟨hn, hnc, hC⟩ := Kd.S_reads' h
 obtain ⟨cells, ht⟩ := Kd.S_typed h g (by simp [Value.ownBlock])
 have hok := (Kd.S_R h).1 g (by simp [Value.ownBlock])
 have hbase := Kd.S_base h g (by simp [Value.ownBlock])
 have hm : n ≤ 9223372036854775807 := by have := hC.2.1; omega
 refine ⟨hn, hok, hbase, cells, ?_⟩
 obtain ⟨f, hR⟩ := h
 refine ⟨f, ht, fun j hj => ?_⟩
 have hjl : j < xs.length := by omega
 obtain ⟨cs, hcl, hM, hcc, _⟩ := Kd.R_elem hR (xs[j], 0) (j : Int) (by omega) (by omega)
 rw [Int.toNat_natCast, List.getD_eq_getElem?_getD, Kd.zip_at (List.getElem?_eq_getElem hjl)] at hM
 rw [Int.toNat_natCast] at hcc
 obtain ⟨vn, ecs, hvn⟩ := k47_openM hM
 obtain ⟨A, c', ev⟩ := Kd.R_slice hvn
 subst ev
 have hc : ∀ i u, cs[i]? = some u → cells[j * 4 + i]? = some u := fun i u hu => (cell_blk ht _).symm.trans (hcc i u hu)
 exact ⟨_, _, _, A, c', xs[j].f1, hc 0 _ (by rw [ecs]; rfl), hc 1 _ (by rw [ecs]; rfl), hc 2 _ (by rw [ecs]; rfl), hc 3 _ (by rw [ecs]; rfl), hd _ (List.getElem_mem hjl), hvn⟩
set_option maxHeartbeats 8000000 in
set_option maxRecDepth 1000000 in
theorem mark_some {w0 w : World} {g n c : Nat} {ok : Nat → Prop} {f : Nat → Nat} (hT : ∃ cells, TI w0.heap.size g ok f n w cells) (hn : n ≤ 1048576) (hok : ok g) (hg : w0.heap.size ≤ g) (hB : Below w0.heap.size w0 w) :
  Calls Tryd.prog 16 #[.slice (some ⟨g, 0, none⟩) n c, .int .i64 1] w fun e w' => ∃ k' : Int, e = .returned (.int .i64 k') ∧ (0 ≤ k' ∧ k' ≤ 2000000000000000) ∧ Below w0.heap.size w0 w' ∧ Kept w w' ok := by
 have HT := Aside0.mk hT
 have HN := Aside0.mk (And.intro hn (And.intro hok hg))
 have HB := Aside0.mk hB
 clear hT hn hok hg hB
 go_enter Tryd.func16, Tryd.ntmps16
 go_wp2
 go_loopw [1, 5] (fun v1 v5 W => ∃ (j : Nat) (kk : Int), v5 = .int .i64 (j : Nat) ∧ v1 = .int .i64 kk ∧ Aside0 (j ≤ n) ∧ Aside0 (0 ≤ kk ∧ kk ≤ 1 + (j : Int) * 1048579) ∧ Aside0 (∃ cells, TI w0.heap.size g ok f n W cells) ∧ Aside0 (Below w0.heap.size w0 W) ∧ Aside0 (Kept w W ok)) (fun _ v5 _ => n - (intOf v5).toNat)
 case atStart => exact ⟨0, 1, rfl, rfl, ⟨Nat.zero_le _⟩, ⟨by decide, by decide⟩, HT, HB, ⟨Kept.refl _ _⟩⟩
 case round =>
  obtain ⟨j, kk, rfl, rfl, HJ, HK, HTI, HBw, HKW⟩ := hrel
  have hj := HJ.out
  have hn := HN.out.1
  by_cases hlt : j < n
  ·obtain ⟨cells, hTI⟩ := HTI.out
   obtain ⟨u0, u2, u3, A, c', ys, e0, e1, e2, e3, hl, hR⟩ := hTI.2 j hlt
   have hk0 := HK.out.1
   have hk1 := HK.out.2
   have c0 : wr.cell? ⟨g, j * 4, none⟩ = some u0 := by rw [cell_blk hTI.1]; exact e0
   have f0 : wr.frozen? ⟨g, j * 4, none⟩ = false := blk_frozen hTI.1 _
   have hT1 := hTI.set j 0 (by decide) (by decide) (.int .i64 kk)
   have hR1 := Kd.R_far hR (p := ⟨g, j * 4, none⟩) (fun k hk => hk.1.2) (.int .i64 kk)
   have hB1 := HBw.out.setCell (p := ⟨g, j * 4, none⟩) HN.out.2.2 (.int .i64 kk)
   have hK1 := HKW.out.setCell (p := ⟨g, j * 4, none⟩) (.inl HN.out.2.1) (.int .i64 kk)
   have hc1 : (cells.setIfInBounds (j * 4) (.int .i64 kk))[j * 4 + 1]? = some (.slice A ys.length c') := by
    rw [Array.getElem?_setIfInBounds, if_neg (by omega)]
    exact e1
   have hT1' : TI w0.heap.size g ok f n (wr.setCell ⟨g, j * 4, none⟩ (.int .i64 kk)) (cells.setIfInBounds (j * 4) (.int .i64 kk)) := hT1
   have c1 : (wr.setCell ⟨g, j * 4, none⟩ (.int .i64 kk)).cell? ⟨g, j * 4 + 1, none⟩ = some (.slice A ys.length c') := by rw [cell_blk hT1'.1]; exact hc1
   obtain ⟨ys', hm1, hm2, _⟩ := markI_eq ys (kk + 1) 1048577 ⟨by omega, by omega⟩ (by omega) (by omega)
   obtain ⟨k2, hk2⟩ : ∃ k2, kk + 1 + (ys.length : Int) = k2 := ⟨_, rfl⟩
   rw [hk2] at hm1
   have hk2a : 0 ≤ k2 := by omega
   have hk2b : k2 ≤ 2000000000000000 := by omega
   have HK2 := Aside0.mk (show k2 + 1 + 1 ≤ 1 + ((j + 1 : Nat) : Int) * 1048579 by omega)
   have HMI := Aside0.mk (laws_markIntS.calls 1048577 _ _ ys (kk + 1) k2 ys' w0 _ hB1 hR1 hm1)
   have HF := Aside0.mk (show ∀ (w2 : World) (okn : Nat → Prop), Kd.R (Kd.int .i64) 3 w2 w0.heap.size okn (.slice A ys.length c') ys' → Kept (wr.setCell ⟨g, j * 4, none⟩ (.int .i64 kk)) w2 (fun k => (ok k ∧ k ≠ g) ∧ f k = j) → TI w0.heap.size g ok f n w2 (cells.setIfInBounds (j * 4) (.int .i64 kk)) from fun w2 okn h1 h2 => hT1'.kept hm2 hc1 hR1 h1 hl h2)
   have HKX := Aside0.mk hK1
   have hkw : kk ≤ 2000000000000000 := by omega
   have qj : (j : Int) < (n : Int) := by omega
   have hj8 : (j : Int) < 1048577 := by omega
   have HLT := Aside0.mk hlt
   obtain ⟨m, hm⟩ : ∃ m, ys.length = m := ⟨_, rfl⟩
   rw [hm] at c1 HMI HF
   clear hT1 hT1' hR1 hB1 hK1 hTI e0 e1 e2 e3 hl hR hm1 hm2 hk2 hj hn hlt hc1 hk1 hm HTI
   go_wp2_with (first | (go_at_call 18; refine HMI.out.mono ?_; rintro e w2 ⟨rfl, hR2, hB2, hK2⟩; have hT2 := HF.out w2 _ hR2 hK2; obtain ⟨u0', u2', u3', A', c'', ys'', g0, g1, g2, g3, _, _⟩ := hT2.2 j HLT.out; have c2 : w2.cell? ⟨g, j * 4 + 2, none⟩ = some u2' := (cell_blk hT2.1 _).trans g2; have f2 : w2.frozen? ⟨g, j * 4 + 2, none⟩ = false := blk_frozen hT2.1 _; have hT3 := hT2.set j 2 (by decide) (by decide) (.int .i64 k2); obtain ⟨v0', v2', v3', B', d'', zs'', p0, p1, p2, p3, _, _⟩ := hT3.2 j HLT.out; have c3 : (w2.setCell ⟨g, j * 4 + 2, none⟩ (.int .i64 k2)).cell? ⟨g, j * 4 + 3, none⟩ = some v3' := (cell_blk hT3.1 _).trans p3; have f3 : (w2.setCell ⟨g, j * 4 + 2, none⟩ (.int .i64 k2)).frozen? ⟨g, j * 4 + 3, none⟩ = false := blk_frozen hT3.1 _; have HT3 := Aside0.mk hT3; have HB2 := Aside0.mk hB2; have HK2' := Aside0.mk (HKX.out.then_ hK2 (fun k hk => .inl hk.1.1)); clear hT2 g0 g1 g2 g3 hT3 p0 p1 p2 p3 hR2 hB2 hK2))
   go_roundw
   case measure =>
    have := HLT.out
    simp [intOf]
    omega
   case rel => exact ⟨j + 1, k2 + 1 + 1, by rw [Int.natCast_succ], rfl, ⟨HLT.out⟩, ⟨by omega, HK2.out⟩, ⟨_, HT3.out.set j 3 (by decide) (by decide) (.int .i64 (k2 + 1))⟩, ⟨(HB2.out.setCell (p := ⟨g, j * 4 + 2, none⟩) HN.out.2.2 _).setCell (p := ⟨g, j * 4 + 3, none⟩) HN.out.2.2 _⟩, ⟨(HK2'.out.setCell (p := ⟨g, j * 4 + 2, none⟩) (.inl HN.out.2.1) _).setCell (p := ⟨g, j * 4 + 3, none⟩) (.inl HN.out.2.1) _⟩⟩
  ·have hjn : j = n := by omega
   have HX := Aside0.mk (show 0 ≤ kk ∧ kk ≤ 2000000000000000 from ⟨HK.out.1, by have := HK.out.2; omega⟩)
   clear hj hn hlt HTI
   subst hjn
   go_wp2
   go_ret
   exact ⟨kk, rfl, HX.out, HBw.out, HKW.out⟩
set_option maxHeartbeats 8000000 in
set_option maxRecDepth 1000000 in
theorem mark_none {w : World} {A : Option Addr} {c : Nat} :
  Calls Tryd.prog 16 #[.slice A 0 c, .int .i64 1] w fun e w' => ∃ k' : Int, e = .returned (.int .i64 k') ∧ (0 ≤ k' ∧ k' ≤ 2000000000000000) ∧ w' = w := by
 go_enter Tryd.func16, Tryd.ntmps16
 go_wp2
 go_loopw [1, 5] (fun v1 v5 W => v1 = .int .i64 1 ∧ v5 = .int .i64 0 ∧ W = w) (fun _ _ _ => 0)
 case atStart => exact ⟨rfl, rfl, rfl⟩
 case round =>
  obtain ⟨rfl, rfl, rfl⟩ := hrel
  go_wp2
  go_ret
  exact ⟨1, rfl, ⟨by decide, by decide⟩, rfl⟩
theorem markTask_calls {w0 w : World} {A : Option Addr} {n c : Nat} {ok : Nat → Prop} {xs : List S47} (hB : Below w0.heap.size w0 w) (hS : Kd.S k47 47 w w0.heap.size ok (.slice A n c) xs) (hn : xs.length ≤ 1048576) (hd : ∀ t, t ∈ xs → t.f1.length ≤ 1048576) :
  Calls Tryd.prog 16 #[.slice A n c, .int .i64 1] w fun e w' => ∃ k' : Int, e = .returned (.int .i64 k') ∧ (0 ≤ k' ∧ k' ≤ 2000000000000000) ∧ Below w0.heap.size w0 w' ∧ Kept w w' ok := by
 obtain ⟨hln, _, _⟩ := Kd.S_reads' hS
 by_cases h0 : n = 0
 ·subst h0
  refine mark_none.mono (fun e w' h => ?_)
  obtain ⟨k', h1, h2, rfl⟩ := h
  exact ⟨k', h1, h2, hB, Kept.refl _ _⟩
 ·obtain ⟨g, cap, ev, _⟩ := Kd.S_form hS (by omega)
  injection ev with e1 e2 e3
  subst e1
  obtain ⟨h1, h2, h3, cells, f, h4⟩ := S_TI hS hd
  exact mark_some ⟨cells, h4⟩ (by omega) h2 h3 hB
theorem held_calls {K n c : Nat} {A : Option Addr} {l : List Int} {mm : Int} {W : World} (hn : l.length = n) (hc : n ≤ c) (hr : Kd.C (Kd.int .i64) W A l.length l) (h : laws_heldIntS.f K l 1 = some mm) :
  Calls Tryd.prog 19 #[.slice A n c, .int .i64 1] W fun e w' => e = .returned (.int .i64 mm) ∧ Drawn0 W w' := by
 subst hn
 exact laws_heldIntS.calls K A c l 1 mm W hr hc h
end Go.Proofs.YtkafmfabkbmpbaaDoor.G
