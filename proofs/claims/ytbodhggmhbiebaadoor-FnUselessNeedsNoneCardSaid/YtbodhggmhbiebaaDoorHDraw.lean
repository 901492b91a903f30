/-
 Several texts in one: CRow, HAny, HDraw.
-/
import Derived.Test.YtbodhggmhbiebaaDoorHR
import Derived.Test.YtbodhggmhbiebaaDoorG0
import Derived.Test.YtbodhggmhbiebaaDoorG12
import Derived.Test.YtbodhggmhbiebaaDoorG13
/-! Rows whose elements are told apart, one by one; what is left of such a row, as one that is only read, when one cell of one element turns. -/
namespace Go.Proofs.YtbodhggmhbiebaaDoor.G
open Go.RowKit Go.Proofs.YtbodhggmhbiebaaDoorW.PrintWords Go.Proofs.YtbodhggmhbiebaaDoorW.PrintLast Go.Proofs.YtbodhggmhbiebaaDoorW.PrintMore C
set_option linter.unusedVariables false
set_option linter.unusedSimpArgs false

/-- The elements of a row at block g, each with its own blocks. -/
def Each {α : Type} (d : Kd α) (base g : Nat) (W : World) (ok : Nat → Prop) (f : Nat → Nat) (xs : List α) : Prop :=
 ∀ j x, xs[j]? = some x → ∃ cs : List Value, cs.length = d.sz ∧ d.M W base (fun k => (ok k ∧ k ≠ g) ∧ f k = j) x cs ∧ ∀ i u, cs[i]? = some u → W.cell? ⟨g, j * d.sz + i, none⟩ = some u
theorem S_open {α : Type} {d : Kd α} {e base g n c : Nat} {W : World} {ok : Nat → Prop} {xs : List α} (h : Kd.S d e W base ok (.slice (some ⟨g, 0, none⟩) n c) xs) :
  n = xs.length ∧ n ≤ c ∧ n ≤ 9223372036854775807 ∧ ok g ∧ (∃ cells, W.heap[g]? = some (.cells cells e (0, 0))) ∧ ∃ f : Nat → Nat, Each d base g W ok f xs := by
 obtain ⟨hn, hnc, hC⟩ := Kd.S_reads' h
 have ht := Kd.S_typed h g (by simp [Value.ownBlock])
 have hok := (Kd.S_R h).1 g (by simp [Value.ownBlock])
 refine ⟨hn, hnc, by have := hC.2.1; omega, hok, ht, ?_⟩
 obtain ⟨f, hR⟩ := h
 refine ⟨f, fun j x hj => ?_⟩
 have hjl := (List.getElem?_eq_some_iff.1 hj).1
 obtain ⟨cs, hcl, hM, hcc, _⟩ := Kd.R_elem hR (x, 0) (j : Int) (by omega) (by omega)
 rw [Int.toNat_natCast, List.getD_eq_getElem?_getD, Kd.zip_at hj] at hM
 rw [Int.toNat_natCast] at hcc
 exact ⟨cs, hcl, hM, hcc⟩
theorem V_elems {α : Type} {d : Kd α} {e base g c : Nat} {W : World} {ok : Nat → Prop} {xs : List α} (hc : xs.length ≤ c) (hm : xs.length ≤ 9223372036854775807) (hg : ok g) (hlt : g < W.heap.size)
  (h : ∀ j x, xs[j]? = some x → ∃ cs : List Value, cs.length = d.sz ∧ Kd.FK d W ok x cs ∧ ∀ i u, cs[i]? = some u → W.cell? ⟨g, j * d.sz + i, none⟩ = some u) : Kd.V d e W base ok (.slice (some ⟨g, 0, none⟩) xs.length c) xs :=
 ⟨_, _, rfl, hc, fun W' hW => ⟨rfl, hm, fun _ => ⟨⟨g, 0, none⟩, rfl, fun j x hj => by
  obtain ⟨cs, h1, h2, h3⟩ := h j x hj
  refine ⟨cs, h1, h2 W' hW, fun i u hu => ?_⟩
  rw [Addr.add_lit, Nat.zero_add]
  exact (World.cell?_of_block (hW g hg hlt)).trans (h3 i u hu)⟩⟩⟩
theorem off_ne {s i j t q : Nat} (hij : j ≠ i) (hq : q < s) (ht : t < s) : j * s + q ≠ i * s + t := by
 intro h
 rcases Nat.lt_or_ge j i with hlt | hge
 ·have h1 : (j + 1) * s ≤ i * s := Nat.mul_le_mul_right _ hlt
  rw [Nat.succ_mul] at h1
  omega
 ·have h1 : (i + 1) * s ≤ j * s := Nat.mul_le_mul_right _ (by omega)
  rw [Nat.succ_mul] at h1
  omega
/-- One cell of one element turns: the others' blocks have stayed since W. -/
theorem V_turn {α : Type} {d : Kd α} {e base g c b0 : Nat} {W W1 : World} {ok : Nat → Prop} {f : Nat → Nat} {xs : List α} {i t : Nat} {u : Value} {x' : α}
  (hE : Each d base g W ok f xs) (hb0 : ∀ k, ok k → b0 ≤ k) (hg0 : b0 ≤ g) (hT : ∃ cells, W1.heap[g]? = some (.cells cells e (0, 0))) (hgs : W1.heap[g]? = W.heap[g]?)
  (hm : ∀ k, ok k → k ≠ g → f k ≠ i → k < W.heap.size → W1.heap[k]? = W.heap[k]?) (hc : xs.length ≤ c) (hlen : xs.length ≤ 9223372036854775807) (ht : t < d.sz)
  (hx : ∀ x cs, xs[i]? = some x → cs.length = d.sz → d.M W base (fun k => (ok k ∧ k ≠ g) ∧ f k = i) x cs → Kd.FK d (W1.setCell ⟨g, i * d.sz + t, none⟩ u) (fun k => b0 ≤ k) x' (cs.set t u)) :
  Kd.V d e (W1.setCell ⟨g, i * d.sz + t, none⟩ u) base (fun k => b0 ≤ k) (.slice (some ⟨g, 0, none⟩) (xs.set i x').length c) (xs.set i x') := by
 obtain ⟨cells, hT⟩ := hT
 have hT2 := blk_set hT (i * d.sz + t) u
 have hTW : W.heap[g]? = some (.cells cells e (0, 0)) := hgs.symm.trans hT
 refine V_elems (by rw [List.length_set]; exact hc) (by rw [List.length_set]; exact hlen) hg0 (Array.getElem?_eq_some_iff.1 hT2).1 (fun j x hj => ?_)
 by_cases hji : j = i
 ·subst hji
  rw [List.getElem?_set] at hj
  rw [if_pos rfl] at hj
  split at hj
  ·rename_i hlt
   injection hj with hj
   subst hj
   obtain ⟨cs, h1, h2, h3⟩ := hE j _ (List.getElem?_eq_getElem hlt)
   refine ⟨cs.set t u, by rw [List.length_set]; exact h1, hx _ cs (List.getElem?_eq_getElem hlt) h1 h2, fun q v hq => ?_⟩
   rw [cell_blk hT2, Array.getElem?_setIfInBounds]
   rw [List.getElem?_set] at hq
   by_cases hqt : t = q
   ·subst hqt
    rw [if_pos rfl, if_pos (by omega)] at hq
    injection hq with hq
    subst hq
    have hct := h3 t _ (List.getElem?_eq_getElem (by omega))
    rw [cell_blk hTW] at hct
    rw [if_pos rfl, if_pos (Array.getElem?_eq_some_iff.1 hct).1]
   ·rw [if_neg hqt] at hq
    rw [if_neg (by omega)]
    have := h3 q v hq
    rwa [cell_blk hTW] at this
  ·cases hj
 ·rw [List.getElem?_set, if_neg (fun e => hji e.symm)] at hj
  obtain ⟨cs, h1, h2, h3⟩ := hE j x hj
  refine ⟨cs, h1, ?_, fun q v hq => ?_⟩
  ·refine Kd.FK_mono (Kd.FK_step (Kd.FK_bound (Kd.FK_of_M h2)) (fun k hk hlt => ?_)) (fun k hk => hb0 k hk.1.1.1)
   rw [Below.heap_setCell _ _ _ k hk.1.1.2]
   exact hm k hk.1.1.1 hk.1.1.2 (fun e => hji (hk.1.2 ▸ e)) hlt
  ·have hql : q < d.sz := by have := (List.getElem?_eq_some_iff.1 hq).1; omega
   rw [cell_blk hT2, Array.getElem?_setIfInBounds, if_neg (fun e => off_ne hji hql ht e.symm)]
   have := h3 q v hq
   rwa [cell_blk hTW] at this
end Go.Proofs.YtbodhggmhbiebaaDoor.G
/-! anyGraph by hand: a graph that may be invalid, as a row that is only read. -/
namespace Go.Proofs.YtbodhggmhbiebaaDoor.G
open Go.RowKit Go.Proofs.YtbodhggmhbiebaaDoorW.PrintWords Go.Proofs.YtbodhggmhbiebaaDoorW.PrintLast Go.Proofs.YtbodhggmhbiebaaDoorW.PrintMore C
set_option linter.unusedVariables false
set_option linter.unusedSimpArgs false

def spec_anyGraph.f (k : Nat) (b : List Int) (p : Int) : Option (List S29 × Int) :=
 (spec_someGraph.f k b p 8).bind fun x1 => if x1.1.length = 0 then some x1 else
 (spec_reader_pick.f k b x1.2 (x1.1.length : Int)).bind fun x2 =>
 (spec_reader_pick.f k b x2.2 24).bind fun x3 =>
 if 0 ≤ x2.1 ∧ x2.1 < (x1.1.length : Int) then
  (if x3.1 = 0 then (spec_reader_one.f k b x3.2 [0, 21, 20]).bind fun x4 => some (x1.1.set x2.1.toNat { rd_T29 x1.1 x2.1 with f0 := x4.1 }, x4.2)
  else if x3.1 = 1 then
   (if (rd_T29 x1.1 x2.1).f1.length ≤ 1000 then (spec_reader_pick.f k b x3.2 (x1.1.length : Int)).bind fun x4 => (spec_reader_spoil.f k b x4.2 ((rd_T29 x1.1 x2.1).f1 ++ [x4.1]) 8).bind fun x5 => some (x1.1.set x2.1.toNat { rd_T29 x1.1 x2.1 with f1 := x5.1 }, x5.2) else none)
  else if x3.1 = 2 then (spec_reader_one.f k b x3.2 [-1, 3]).bind fun x4 => some (x1.1.set x2.1.toNat { rd_T29 x1.1 x2.1 with f2 := x4.1 }, x4.2)
  else if x3.1 = 3 then (spec_reader_one.f k b x3.2 [0, 5]).bind fun x4 => some (x1.1.set x2.1.toNat { rd_T29 x1.1 x2.1 with f3 := x4.1 }, x4.2)
  else if x3.1 = 4 then (if x1.1.length ≤ 1000 then (spec_someGraph.f k b x3.2 8).bind fun x4 => if x4.1.length ≤ 1000 then some (x1.1 ++ x4.1, x4.2) else none else none)
  else some (x1.1, x3.2))
 else none
section
variable {k g : Nat} {b : List Int} {p p1 p2 p3 p4 p5 kk c v4 : Int} {xs : List S29} {w0 w : World}
/-- What the generator answers with. -/
def AnyR (b : List Int) (g : Nat) (w0 w : World) (r1 : List S29) (r2 : Int) (e : Ending) (w' : World) : Prop :=
 ∃ v0_ : Value, e = .returned v0_ ∧ Kd.V k29 29 w' w.heap.size (fun k_ => (w.heap.size ≤ k_)) v0_ r1 ∧ IsS72 w0 w' g b r2 ∧ Below w0.heap.size w0 w' ∧ KeepBut w w' g none
theorem kb_trans {w w1 w2 : World} {g : Nat} (h : KeepBut w w1 g none) (k : KeepBut w1 w2 g none) : KeepBut w w2 g none := h.trans k (.inl rfl)
set_option maxHeartbeats 8000000 in
set_option maxRecDepth 1000000 in
theorem any_nil (hI : IsS72 w0 w g b p) (hB : Below w0.heap.size w0 w) (h1 : spec_someGraph.f k b p 8 = some (xs, p1)) (h0 : xs.length = 0) :
  Calls Tryd.prog 32 #[.pointer (some ⟨g, 0, none⟩)] w (AnyR b g w0 w xs p1) := by
 have HI := Aside0.mk hI
 have HB := Aside0.mk hB
 have H1 := Aside0.mk h1
 obtain rfl := List.eq_nil_of_length_eq_zero h0
 clear hI hB h1 h0
 go_enter Tryd.func32, Tryd.ntmps32
 go_wp2_with (first | (go_at_call 46; refine (spec_someGraph.calls k g b p 8 [] p1 w0 _ HI.out HB.out H1.out).mono ?_; rintro e w1 ⟨v0, rfl, hS, hI1, hB1, hK1⟩; obtain ⟨A, cA, eA⟩ := Kd.S_slice hS; subst eA; have HS := Aside0.mk hS; have HI1 := Aside0.mk hI1; have HB1 := Aside0.mk hB1; have HK1 := Aside0.mk hK1; clear hS hI1 hB1 hK1))
 go_ret
 exact ⟨_, rfl, Kd.S_V (Kd.S_mono (Kd.S_bound HS.out) (fun k_ hk => hk.2.1)), HI1.out, HB1.out, HK1.out⟩
/-- What is known ahead of the choice. -/
structure Pre3 (k : Nat) (b : List Int) (p p1 p2 p3 kk c : Int) (xs : List S29) : Prop where
 h1 : spec_someGraph.f k b p 8 = some (xs, p1)
 h2 : spec_reader_pick.f k b p1 (xs.length : Int) = some (kk, p2)
 h3 : spec_reader_pick.f k b p2 24 = some (c, p3)
 k0 : 0 ≤ kk
 k1 : kk < (xs.length : Int)
theorem els_ {d : Kd S29} {e base : Nat} {w1 w : World} {v : Value} (h : Kd.S d e w1 base (fun _ => True) v xs) (hp : 0 < xs.length) (hb : w.heap.size ≤ base) :
  ∃ g0 c0, v = .slice (some ⟨g0, 0, none⟩) xs.length c0 ∧ Kd.S d e w1 base (fun k_ => w.heap.size ≤ k_) (.slice (some ⟨g0, 0, none⟩) xs.length c0) xs := by
 obtain ⟨g0, c0, rfl, _⟩ := Kd.S_form h hp
 exact ⟨g0, c0, rfl, Kd.S_mono (Kd.S_bound h) (fun k_ hk => Nat.le_trans hb hk.2.1)⟩
set_option maxHeartbeats 8000000 in
set_option maxRecDepth 1000000 in
theorem any_rest (hI : IsS72 w0 w g b p) (hB : Below w0.heap.size w0 w) (hP : Pre3 k b p p1 p2 p3 kk c xs) (hc : c ≠ 0 ∧ c ≠ 1 ∧ c ≠ 2 ∧ c ≠ 3 ∧ c ≠ 4) :
  Calls Tryd.prog 32 #[.pointer (some ⟨g, 0, none⟩)] w (AnyR b g w0 w xs p3) := by
 have HI := Aside0.mk hI
 have HB := Aside0.mk hB
 have HP := Aside0.mk hP
 have hlt := IsS72.lt hI
 have HL := Aside0.mk (show 0 < xs.length by have := hP.k0; have := hP.k1; omega)
 have e0 : ((xs.length : Int) == 0) = false := beq_eq_false_iff_ne.2 (by have := HL.out; omega)
 have c0 : (c == 0) = false := beq_eq_false_iff_ne.2 hc.1
 have c1 : (c == 1) = false := beq_eq_false_iff_ne.2 hc.2.1
 have c2 : (c == 2) = false := beq_eq_false_iff_ne.2 hc.2.2.1
 have c3 : (c == 3) = false := beq_eq_false_iff_ne.2 hc.2.2.2.1
 have c4 : (c == 4) = false := beq_eq_false_iff_ne.2 hc.2.2.2.2
 have HLT := Aside0.mk hlt
 clear hI hB hP hc hlt
 go_enter Tryd.func32, Tryd.ntmps32
 go_wp2_with (first | (go_at_call 46; refine (spec_someGraph.calls k g b p 8 xs p1 w0 _ HI.out HB.out HP.out.h1).mono ?_; rintro e w1 ⟨v0, rfl, hS, hI1, hB1, hK1⟩; obtain ⟨g0, cA, eA, hS'⟩ := els_ hS HL.out (Nat.le_refl _); subst eA; have HS := Aside0.mk hS'; clear hS'; have HI1 := Aside0.mk hI1; have HB1 := Aside0.mk hB1; have HK1 := Aside0.mk hK1; clear hS hI1 hB1 hK1) | (go_at_call 47; refine (spec_reader_pick.calls k g b _ _ _ _ w0 _ HI1.out HB1.out HP.out.h2).mono ?_; rintro e w2 ⟨rfl, hI2, hB2, hK2⟩; have HI2 := Aside0.mk hI2; have HB2 := Aside0.mk hB2; have HK2 := Aside0.mk (kb_trans HK1.out hK2); have HS2 := Aside0.mk (Kd.S_keep HS.out hK2 (fun k_ hk e => Nat.lt_irrefl _ (Nat.lt_of_lt_of_le HLT.out (e ▸ hk)))); clear hI2 hB2 hK2 HI1 HB1 HK1 HS) | (go_at_call 47; refine (spec_reader_pick.calls k g b _ _ _ _ w0 _ HI2.out HB2.out HP.out.h3).mono ?_; rintro e w3 ⟨rfl, hI3, hB3, hK3⟩; have HI3 := Aside0.mk hI3; have HB3 := Aside0.mk hB3; have HK3 := Aside0.mk (kb_trans HK2.out hK3); have HS3 := Aside0.mk (Kd.S_keep HS2.out hK3 (fun k_ hk e => Nat.lt_irrefl _ (Nat.lt_of_lt_of_le HLT.out (e ▸ hk)))); clear hI3 hB3 hK3 HI2 HB2 HK2 HS2))
 go_ret
 exact ⟨_, rfl, Kd.S_V HS3.out, HI3.out, HB3.out, HK3.out⟩
theorem fk_ {w5 : World} {base g0 o b0 : Nat} {okx : Nat → Prop} {vn u : Value} {l : List Int} (hvn : (Kd.int .i64).R 3 w5 base okx vn l) (hok : ∀ k, okx k → b0 ≤ k ∧ k ≠ g0) (x' : S29) (hl : x'.f1 = l) :
  Kd.FK k29 (w5.setCell ⟨g0, o, none⟩ u) (fun k_ => b0 ≤ k_) x' [.int .i64 x'.f0, vn, .int .i64 x'.f2, .int .i64 x'.f3] := by
 subst hl
 exact Kd.FK_mono (Kd.FK_of_M (k29_mkM _ _ _ x' (Kd.R_far hvn (p := ⟨g0, o, none⟩) (fun k_ hk => (hok k_ hk).2) u))) (fun k_ hk => (hok k_ hk).1)
theorem rd_eq {xs : List S29} {i : Nat} {x : S29} (h : xs[i]? = some x) : rd_T29 xs (i : Int) = x := by
 unfold rd_T29
 rw [Int.toNat_natCast, List.getD_eq_getElem?_getD, h]
 rfl
theorem V_len {d : Kd S29} {e base m n c : Nat} {W : World} {ok : Nat → Prop} {A : Option Addr} {xs : List S29} (h : Kd.V d e W base ok (.slice A m c) xs) (hm : m = n) : Kd.V d e W base ok (.slice A n c) xs := hm ▸ h
set_option maxHeartbeats 8000000 in
set_option maxRecDepth 1000000 in
theorem any_time {i : Nat} (hI : IsS72 w0 w g b p) (hB : Below w0.heap.size w0 w) (hP : Pre3 k b p p1 p2 p3 (i : Int) 0 xs) (h4 : spec_reader_one.f k b p3 [0, 21, 20] = some (v4, p4)) :
  Calls Tryd.prog 32 #[.pointer (some ⟨g, 0, none⟩)] w (AnyR b g w0 w (xs.set i { rd_T29 xs (i : Int) with f0 := v4 }) p4) := by
 have HI := Aside0.mk hI
 have HB := Aside0.mk hB
 have HP := Aside0.mk hP
 have hlt := IsS72.lt hI
 have hil : i < xs.length := by have := hP.k1; omega
 have HL := Aside0.mk (show 0 < xs.length by omega)
 have HIL := Aside0.mk hil
 have e0 : ((xs.length : Int) == 0) = false := beq_eq_false_iff_ne.2 (by omega)
 have qi : (i : Int) < (xs.length : Int) := by omega
 have HLT := Aside0.mk hlt
 have H4 := Aside0.mk h4
 clear hI hB hP hlt h4 hil
 go_enter Tryd.func32, Tryd.ntmps32
 go_wp2_with (first | (go_at_call 46; refine (spec_someGraph.calls k g b p 8 xs p1 w0 _ HI.out HB.out HP.out.h1).mono ?_; rintro e w1 ⟨v0, rfl, hS, hI1, hB1, hK1⟩; obtain ⟨g0, cA, eA, hS'⟩ := els_ hS HL.out (Nat.le_refl _); subst eA; have HS := Aside0.mk hS'; clear hS'; have HI1 := Aside0.mk hI1; have HB1 := Aside0.mk hB1; have HK1 := Aside0.mk hK1; clear hS hI1 hB1 hK1) | (go_at_call 47; refine (spec_reader_pick.calls k g b _ _ _ _ w0 _ HI1.out HB1.out HP.out.h2).mono ?_; rintro e w2 ⟨rfl, hI2, hB2, hK2⟩; have HI2 := Aside0.mk hI2; have HB2 := Aside0.mk hB2; have HK2 := Aside0.mk (kb_trans HK1.out hK2); have HS2 := Aside0.mk (Kd.S_keep HS.out hK2 (fun k_ hk e => Nat.lt_irrefl _ (Nat.lt_of_lt_of_le HLT.out (e ▸ hk)))); clear hI2 hB2 hK2 HI1 HB1 HK1 HS) | (go_at_call 47; refine (spec_reader_pick.calls k g b _ _ _ _ w0 _ HI2.out HB2.out HP.out.h3).mono ?_; rintro e w3 ⟨rfl, hI3, hB3, hK3⟩; have HI3 := Aside0.mk hI3; have HB3 := Aside0.mk hB3; have HK3 := Aside0.mk (kb_trans HK2.out hK3); have HS3 := Aside0.mk (Kd.S_keep HS2.out hK3 (fun k_ hk e => Nat.lt_irrefl _ (Nat.lt_of_lt_of_le HLT.out (e ▸ hk)))); clear hI3 hB3 hK3 HI2 HB2 HK2 HS2) | ((with_reducible refine gate_dst (N := 22) rfl ?_); refine Kd.R_lit (Kd.int .i64) _ 3 ?hg (N := 22) ?hd (xs := ([0, 21, 20] : List Int)) (inner := [.int .i64 (0), .int .i64 (21), .int .i64 (20)]) (ok := fun _ => True) (okp := fun _ => True) ?hr ?hp (fun _ hk => hk) trivial (Below.refl _ _) (Nat.le_refl _) (by simp) ?_; (case hd => rfl); (case hg => rfl); (case hr => first | (go_simp; done) | (go_simp; rfl)); (case hp => exact (Reps.one (show Kd.M (Kd.int .i64) _ _ _ (0) [.int .i64 (0)] from rfl) (Reps.one (show Kd.M (Kd.int .i64) _ _ _ (21) [.int .i64 (21)] from rfl) (Reps.one (show Kd.M (Kd.int .i64) _ _ _ (20) [.int .i64 (20)] from rfl) (Reps.none _ _))))); intro vl w4 ho hb hg_ hnew_; obtain ⟨Al, cl, el⟩ := Kd.R_slice ho; subst el; have HO := Aside0.mk ho; have HI4 := Aside0.mk (IsS72.below HI3.out hb); have HB4 := Aside0.mk (below_step HB3.out hb); have HK4 := Aside0.mk (kb_trans HK3.out (KeepBut.of_below hb g none)); have HS4 := Aside0.mk (Kd.S_below HS3.out hb); clear ho hb hg_ hnew_ HI3 HB3 HK3 HS3) | (go_at_call 48; refine (spec_reader_one.calls k g b _ Al cl _ _ _ w0 _ HI4.out HB4.out (Kd.R_reads' HO.out).2.2 (Kd.R_reads' HO.out).2.1 (far_slice (IsS72.own_ne HI4.out HO.out (by decide))) H4.out).mono ?_; rintro e w5 ⟨rfl, hI5, hB5, hK5⟩; have HI5 := Aside0.mk hI5; have HB5 := Aside0.mk hB5; have HK5 := Aside0.mk (kb_trans HK4.out hK5); have hS5 := (Kd.S_keep HS4.out hK5 (fun k_ hk e => Nat.lt_irrefl _ (Nat.lt_of_lt_of_le HLT.out (e ▸ hk)))); obtain ⟨_, hnc, hmx, hgo, ⟨cells, hcells⟩, f, hE⟩ := S_open hS5; have HSX := Aside0.mk hS5; have HE := Aside0.mk hE; have HC := Aside0.mk hcells; have HNC := Aside0.mk (show xs.length ≤ cA ∧ xs.length ≤ 9223372036854775807 ∧ w.heap.size ≤ g0 from ⟨hnc, hmx, hgo⟩); have hfz : w5.frozen? ⟨g0, i * 4, none⟩ = false := blk_frozen hcells _; obtain ⟨ce, hce1, hce2, hce3⟩ := hE i _ (List.getElem?_eq_getElem HIL.out); obtain ⟨vn, ece, hvn⟩ := k29_openM hce2; have hcl : w5.cell? ⟨g0, i * 4, none⟩ = some (.int .i64 (xs[i]'HIL.out).f0) := hce3 0 _ (by rw [ece]; rfl); clear hI5 hB5 hK5 hS5 hnc hmx hgo hcells hE hce1 hce2 hce3 ece hvn HI4 HB4 HK4 HS4 HO))
 refine bodyPost_ret (results_tmp rfl _ _ _) rfl ?_
 exact ⟨_, rfl, V_len (V_turn (W := w5) (W1 := w5) (t := 0) HE.out (fun k_ hk => hk) HNC.out.2.2 ⟨cells, HC.out⟩ rfl (fun _ _ _ _ _ => rfl) HNC.out.1 HNC.out.2.1 (by decide) (fun x cs hx hcs hM => by
  obtain ⟨vn, rfl, hvn⟩ := k29_openM hM
  rw [rd_eq hx]
  exact fk_ hvn (fun k_ hk => hk.1) { x with f0 := v4 } rfl)) List.length_set, IsS72.far HI5.out (p := ⟨g0, _, none⟩) (fun e => Nat.lt_irrefl _ (Nat.lt_of_lt_of_le HLT.out (e ▸ HNC.out.2.2))) _, HB5.out.setCell (p := ⟨g0, _, none⟩) (Nat.le_trans HB.out.size HNC.out.2.2) _, keep_far HK5.out (p := ⟨g0, _, none⟩) HNC.out.2.2 _⟩
set_option maxHeartbeats 8000000 in
set_option maxRecDepth 1000000 in
theorem any_pool {i : Nat} (hI : IsS72 w0 w g b p) (hB : Below w0.heap.size w0 w) (hP : Pre3 k b p p1 p2 p3 (i : Int) 2 xs) (h4 : spec_reader_one.f k b p3 [-1, 3] = some (v4, p4)) :
  Calls Tryd.prog 32 #[.pointer (some ⟨g, 0, none⟩)] w (AnyR b g w0 w (xs.set i { rd_T29 xs (i : Int) with f2 := v4 }) p4) := by
 have HI := Aside0.mk hI
 have HB := Aside0.mk hB
 have HP := Aside0.mk hP
 have hlt := IsS72.lt hI
 have hil : i < xs.length := by have := hP.k1; omega
 have HL := Aside0.mk (show 0 < xs.length by omega)
 have HIL := Aside0.mk hil
 have e0 : ((xs.length : Int) == 0) = false := beq_eq_false_iff_ne.2 (by omega)
 have qi : (i : Int) < (xs.length : Int) := by omega
 have c0 : ((2 : Int) == 0) = false := by decide
 have c1 : ((2 : Int) == 1) = false := by decide
 have HLT := Aside0.mk hlt
 have H4 := Aside0.mk h4
 clear hI hB hP hlt h4 hil
 go_enter Tryd.func32, Tryd.ntmps32
 go_wp2_with (first | (go_at_call 46; refine (spec_someGraph.calls k g b p 8 xs p1 w0 _ HI.out HB.out HP.out.h1).mono ?_; rintro e w1 ⟨v0, rfl, hS, hI1, hB1, hK1⟩; obtain ⟨g0, cA, eA, hS'⟩ := els_ hS HL.out (Nat.le_refl _); subst eA; have HS := Aside0.mk hS'; clear hS'; have HI1 := Aside0.mk hI1; have HB1 := Aside0.mk hB1; have HK1 := Aside0.mk hK1; clear hS hI1 hB1 hK1) | (go_at_call 47; refine (spec_reader_pick.calls k g b _ _ _ _ w0 _ HI1.out HB1.out HP.out.h2).mono ?_; rintro e w2 ⟨rfl, hI2, hB2, hK2⟩; have HI2 := Aside0.mk hI2; have HB2 := Aside0.mk hB2; have HK2 := Aside0.mk (kb_trans HK1.out hK2); have HS2 := Aside0.mk (Kd.S_keep HS.out hK2 (fun k_ hk e => Nat.lt_irrefl _ (Nat.lt_of_lt_of_le HLT.out (e ▸ hk)))); clear hI2 hB2 hK2 HI1 HB1 HK1 HS) | (go_at_call 47; refine (spec_reader_pick.calls k g b _ _ _ _ w0 _ HI2.out HB2.out HP.out.h3).mono ?_; rintro e w3 ⟨rfl, hI3, hB3, hK3⟩; have HI3 := Aside0.mk hI3; have HB3 := Aside0.mk hB3; have HK3 := Aside0.mk (kb_trans HK2.out hK3); have HS3 := Aside0.mk (Kd.S_keep HS2.out hK3 (fun k_ hk e => Nat.lt_irrefl _ (Nat.lt_of_lt_of_le HLT.out (e ▸ hk)))); clear hI3 hB3 hK3 HI2 HB2 HK2 HS2) | ((with_reducible refine gate_dst (N := 50) rfl ?_); refine Kd.R_lit (Kd.int .i64) _ 3 ?hg (N := 50) ?hd (xs := ([-1, 3] : List Int)) (inner := [.int .i64 (-1), .int .i64 (3)]) (ok := fun _ => True) (okp := fun _ => True) ?hr ?hp (fun _ hk => hk) trivial (Below.refl _ _) (Nat.le_refl _) (by simp) ?_; (case hd => rfl); (case hg => rfl); (case hr => first | (go_simp; done) | (go_simp; rfl)); (case hp => exact (Reps.one (show Kd.M (Kd.int .i64) _ _ _ (-1) [.int .i64 (-1)] from rfl) (Reps.one (show Kd.M (Kd.int .i64) _ _ _ (3) [.int .i64 (3)] from rfl) (Reps.none _ _)))); intro vl w4 ho hb hg_ hnew_; obtain ⟨Al, cl, el⟩ := Kd.R_slice ho; subst el; have HO := Aside0.mk ho; have HI4 := Aside0.mk (IsS72.below HI3.out hb); have HB4 := Aside0.mk (below_step HB3.out hb); have HK4 := Aside0.mk (kb_trans HK3.out (KeepBut.of_below hb g none)); have HS4 := Aside0.mk (Kd.S_below HS3.out hb); clear ho hb hg_ hnew_ HI3 HB3 HK3 HS3) | (go_at_call 48; refine (spec_reader_one.calls k g b _ Al cl _ _ _ w0 _ HI4.out HB4.out (Kd.R_reads' HO.out).2.2 (Kd.R_reads' HO.out).2.1 (far_slice (IsS72.own_ne HI4.out HO.out (by decide))) H4.out).mono ?_; rintro e w5 ⟨rfl, hI5, hB5, hK5⟩; have HI5 := Aside0.mk hI5; have HB5 := Aside0.mk hB5; have HK5 := Aside0.mk (kb_trans HK4.out hK5); have hS5 := (Kd.S_keep HS4.out hK5 (fun k_ hk e => Nat.lt_irrefl _ (Nat.lt_of_lt_of_le HLT.out (e ▸ hk)))); obtain ⟨_, hnc, hmx, hgo, ⟨cells, hcells⟩, f, hE⟩ := S_open hS5; have HSX := Aside0.mk hS5; have HE := Aside0.mk hE; have HC := Aside0.mk hcells; have HNC := Aside0.mk (show xs.length ≤ cA ∧ xs.length ≤ 9223372036854775807 ∧ w.heap.size ≤ g0 from ⟨hnc, hmx, hgo⟩); have hfz : w5.frozen? ⟨g0, i * 4 + 2, none⟩ = false := blk_frozen hcells _; obtain ⟨ce, hce1, hce2, hce3⟩ := hE i _ (List.getElem?_eq_getElem HIL.out); obtain ⟨vn, ece, hvn⟩ := k29_openM hce2; have hcl : w5.cell? ⟨g0, i * 4 + 2, none⟩ = some (.int .i64 (xs[i]'HIL.out).f2) := hce3 2 _ (by rw [ece]; rfl); clear hI5 hB5 hK5 hS5 hnc hmx hgo hcells hE hce1 hce2 hce3 ece hvn HI4 HB4 HK4 HS4 HO))
 refine bodyPost_ret (results_tmp rfl _ _ _) rfl ?_
 exact ⟨_, rfl, V_len (V_turn (W := w5) (W1 := w5) (t := 2) HE.out (fun k_ hk => hk) HNC.out.2.2 ⟨cells, HC.out⟩ rfl (fun _ _ _ _ _ => rfl) HNC.out.1 HNC.out.2.1 (by decide) (fun x cs hx hcs hM => by
  obtain ⟨vn, rfl, hvn⟩ := k29_openM hM
  rw [rd_eq hx]
  exact fk_ hvn (fun k_ hk => hk.1) { x with f2 := v4 } rfl)) List.length_set, IsS72.far HI5.out (p := ⟨g0, _, none⟩) (fun e => Nat.lt_irrefl _ (Nat.lt_of_lt_of_le HLT.out (e ▸ HNC.out.2.2))) _, HB5.out.setCell (p := ⟨g0, _, none⟩) (Nat.le_trans HB.out.size HNC.out.2.2) _, keep_far HK5.out (p := ⟨g0, _, none⟩) HNC.out.2.2 _⟩
set_option maxHeartbeats 8000000 in
set_option maxRecDepth 1000000 in
theorem any_units {i : Nat} (hI : IsS72 w0 w g b p) (hB : Below w0.heap.size w0 w) (hP : Pre3 k b p p1 p2 p3 (i : Int) 3 xs) (h4 : spec_reader_one.f k b p3 [0, 5] = some (v4, p4)) :
  Calls Tryd.prog 32 #[.pointer (some ⟨g, 0, none⟩)] w (AnyR b g w0 w (xs.set i { rd_T29 xs (i : Int) with f3 := v4 }) p4) := by
 have HI := Aside0.mk hI
 have HB := Aside0.mk hB
 have HP := Aside0.mk hP
 have hlt := IsS72.lt hI
 have hil : i < xs.length := by have := hP.k1; omega
 have HL := Aside0.mk (show 0 < xs.length by omega)
 have HIL := Aside0.mk hil
 have e0 : ((xs.length : Int) == 0) = false := beq_eq_false_iff_ne.2 (by omega)
 have qi : (i : Int) < (xs.length : Int) := by omega
 have c0 : ((3 : Int) == 0) = false := by decide
 have c1 : ((3 : Int) == 1) = false := by decide
 have c2 : ((3 : Int) == 2) = false := by decide
 have HLT := Aside0.mk hlt
 have H4 := Aside0.mk h4
 clear hI hB hP hlt h4 hil
 go_enter Tryd.func32, Tryd.ntmps32
 go_wp2_with (first | (go_at_call 46; refine (spec_someGraph.calls k g b p 8 xs p1 w0 _ HI.out HB.out HP.out.h1).mono ?_; rintro e w1 ⟨v0, rfl, hS, hI1, hB1, hK1⟩; obtain ⟨g0, cA, eA, hS'⟩ := els_ hS HL.out (Nat.le_refl _); subst eA; have HS := Aside0.mk hS'; clear hS'; have HI1 := Aside0.mk hI1; have HB1 := Aside0.mk hB1; have HK1 := Aside0.mk hK1; clear hS hI1 hB1 hK1) | (go_at_call 47; refine (spec_reader_pick.calls k g b _ _ _ _ w0 _ HI1.out HB1.out HP.out.h2).mono ?_; rintro e w2 ⟨rfl, hI2, hB2, hK2⟩; have HI2 := Aside0.mk hI2; have HB2 := Aside0.mk hB2; have HK2 := Aside0.mk (kb_trans HK1.out hK2); have HS2 := Aside0.mk (Kd.S_keep HS.out hK2 (fun k_ hk e => Nat.lt_irrefl _ (Nat.lt_of_lt_of_le HLT.out (e ▸ hk)))); clear hI2 hB2 hK2 HI1 HB1 HK1 HS) | (go_at_call 47; refine (spec_reader_pick.calls k g b _ _ _ _ w0 _ HI2.out HB2.out HP.out.h3).mono ?_; rintro e w3 ⟨rfl, hI3, hB3, hK3⟩; have HI3 := Aside0.mk hI3; have HB3 := Aside0.mk hB3; have HK3 := Aside0.mk (kb_trans HK2.out hK3); have HS3 := Aside0.mk (Kd.S_keep HS2.out hK3 (fun k_ hk e => Nat.lt_irrefl _ (Nat.lt_of_lt_of_le HLT.out (e ▸ hk)))); clear hI3 hB3 hK3 HI2 HB2 HK2 HS2) | ((with_reducible refine gate_dst (N := 59) rfl ?_); refine Kd.R_lit (Kd.int .i64) _ 3 ?hg (N := 59) ?hd (xs := ([0, 5] : List Int)) (inner := [.int .i64 (0), .int .i64 (5)]) (ok := fun _ => True) (okp := fun _ => True) ?hr ?hp (fun _ hk => hk) trivial (Below.refl _ _) (Nat.le_refl _) (by simp) ?_; (case hd => rfl); (case hg => rfl); (case hr => first | (go_simp; done) | (go_simp; rfl)); (case hp => exact (Reps.one (show Kd.M (Kd.int .i64) _ _ _ (0) [.int .i64 (0)] from rfl) (Reps.one (show Kd.M (Kd.int .i64) _ _ _ (5) [.int .i64 (5)] from rfl) (Reps.none _ _)))); intro vl w4 ho hb hg_ hnew_; obtain ⟨Al, cl, el⟩ := Kd.R_slice ho; subst el; have HO := Aside0.mk ho; have HI4 := Aside0.mk (IsS72.below HI3.out hb); have HB4 := Aside0.mk (below_step HB3.out hb); have HK4 := Aside0.mk (kb_trans HK3.out (KeepBut.of_below hb g none)); have HS4 := Aside0.mk (Kd.S_below HS3.out hb); clear ho hb hg_ hnew_ HI3 HB3 HK3 HS3) | (go_at_call 48; refine (spec_reader_one.calls k g b _ Al cl _ _ _ w0 _ HI4.out HB4.out (Kd.R_reads' HO.out).2.2 (Kd.R_reads' HO.out).2.1 (far_slice (IsS72.own_ne HI4.out HO.out (by decide))) H4.out).mono ?_; rintro e w5 ⟨rfl, hI5, hB5, hK5⟩; have HI5 := Aside0.mk hI5; have HB5 := Aside0.mk hB5; have HK5 := Aside0.mk (kb_trans HK4.out hK5); have hS5 := (Kd.S_keep HS4.out hK5 (fun k_ hk e => Nat.lt_irrefl _ (Nat.lt_of_lt_of_le HLT.out (e ▸ hk)))); obtain ⟨_, hnc, hmx, hgo, ⟨cells, hcells⟩, f, hE⟩ := S_open hS5; have HSX := Aside0.mk hS5; have HE := Aside0.mk hE; have HC := Aside0.mk hcells; have HNC := Aside0.mk (show xs.length ≤ cA ∧ xs.length ≤ 9223372036854775807 ∧ w.heap.size ≤ g0 from ⟨hnc, hmx, hgo⟩); have hfz : w5.frozen? ⟨g0, i * 4 + 3, none⟩ = false := blk_frozen hcells _; obtain ⟨ce, hce1, hce2, hce3⟩ := hE i _ (List.getElem?_eq_getElem HIL.out); obtain ⟨vn, ece, hvn⟩ := k29_openM hce2; have hcl : w5.cell? ⟨g0, i * 4 + 3, none⟩ = some (.int .i64 (xs[i]'HIL.out).f3) := hce3 3 _ (by rw [ece]; rfl); clear hI5 hB5 hK5 hS5 hnc hmx hgo hcells hE hce1 hce2 hce3 ece hvn HI4 HB4 HK4 HS4 HO))
 refine bodyPost_ret (results_tmp rfl _ _ _) rfl ?_
 exact ⟨_, rfl, V_len (V_turn (W := w5) (W1 := w5) (t := 3) HE.out (fun k_ hk => hk) HNC.out.2.2 ⟨cells, HC.out⟩ rfl (fun _ _ _ _ _ => rfl) HNC.out.1 HNC.out.2.1 (by decide) (fun x cs hx hcs hM => by
  obtain ⟨vn, rfl, hvn⟩ := k29_openM hM
  rw [rd_eq hx]
  exact fk_ hvn (fun k_ hk => hk.1) { x with f3 := v4 } rfl)) List.length_set, IsS72.far HI5.out (p := ⟨g0, _, none⟩) (fun e => Nat.lt_irrefl _ (Nat.lt_of_lt_of_le HLT.out (e ▸ HNC.out.2.2))) _, HB5.out.setCell (p := ⟨g0, _, none⟩) (Nat.le_trans HB.out.size HNC.out.2.2) _, keep_far HK5.out (p := ⟨g0, _, none⟩) HNC.out.2.2 _⟩
-- CASES 4, 1
theorem rows_M {α : Type} {d : Kd α} {e base : Nat} {W : World} {ok : Nat → Prop} {v : Value} {xs : List α} (z : α) (h : d.R e W base ok v xs) : ∃ A c, v = .slice A xs.length c ∧ ReadsRow (d.M W base ok) d.sz W A xs.length xs := by
 obtain ⟨A, c, rfl⟩ := Kd.R_slice h
 have hr := Kd.R_reads' h
 refine ⟨A, c, rfl, rfl, hr.2.2.2.1, fun hn => ?_⟩
 obtain ⟨ad, e1, _⟩ := hr.2.2.2.2 hn
 subst e1
 refine ⟨ad, rfl, fun j p hj => ?_⟩
 have hjl := (List.getElem?_eq_some_iff.1 hj).1
 obtain ⟨c, h1, h2, h3⟩ := Kd.R_getA h z (j : Int) (by omega) (by omega)
 rw [Int.toNat_natCast, List.getD_eq_getElem?_getD, hj] at h2
 rw [Int.toNat_natCast] at h3
 exact ⟨c, h1, d.M_mono (fun k hk => hk.1) h2, h3⟩
set_option maxHeartbeats 8000000 in
set_option maxRecDepth 1000000 in
theorem any_more {ys : List S29} (hI : IsS72 w0 w g b p) (hB : Below w0.heap.size w0 w) (hP : Pre3 k b p p1 p2 p3 kk 4 xs) (h4 : spec_someGraph.f k b p3 8 = some (ys, p4)) (hl : xs.length ≤ 1000 ∧ ys.length ≤ 1000) :
  Calls Tryd.prog 32 #[.pointer (some ⟨g, 0, none⟩)] w (AnyR b g w0 w (xs ++ ys) p4) := by
 have HI := Aside0.mk hI
 have HB := Aside0.mk hB
 have HP := Aside0.mk hP
 have hlt := IsS72.lt hI
 have HL := Aside0.mk (show 0 < xs.length by have := hP.k0; have := hP.k1; omega)
 have e0 : ((xs.length : Int) == 0) = false := beq_eq_false_iff_ne.2 (by have := HL.out; omega)
 have c0 : ((4 : Int) == 0) = false := by decide
 have c1 : ((4 : Int) == 1) = false := by decide
 have c2 : ((4 : Int) == 2) = false := by decide
 have c3 : ((4 : Int) == 3) = false := by decide
 have HLT := Aside0.mk hlt
 have H4 := Aside0.mk h4
 have HLL := Aside0.mk hl
 clear hI hB hP hlt h4 hl
 go_enter Tryd.func32, Tryd.ntmps32
 go_wp2_with (first | (go_at_call 46; refine (spec_someGraph.calls k g b p 8 xs p1 w0 _ HI.out HB.out HP.out.h1).mono ?_; rintro e w1 ⟨v0, rfl, hS, hI1, hB1, hK1⟩; obtain ⟨g0, cA, eA, hS'⟩ := els_ hS HL.out (Nat.le_refl _); subst eA; have HS := Aside0.mk hS'; clear hS'; have HI1 := Aside0.mk hI1; have HB1 := Aside0.mk hB1; have HK1 := Aside0.mk hK1; clear hS hI1 hB1 hK1) | (go_at_call 47; refine (spec_reader_pick.calls k g b _ _ _ _ w0 _ HI1.out HB1.out HP.out.h2).mono ?_; rintro e w2 ⟨rfl, hI2, hB2, hK2⟩; have HI2 := Aside0.mk hI2; have HB2 := Aside0.mk hB2; have HK2 := Aside0.mk (kb_trans HK1.out hK2); have HS2 := Aside0.mk (Kd.S_keep HS.out hK2 (fun k_ hk e => Nat.lt_irrefl _ (Nat.lt_of_lt_of_le HLT.out (e ▸ hk)))); clear hI2 hB2 hK2 HI1 HB1 HK1 HS) | (go_at_call 47; refine (spec_reader_pick.calls k g b _ _ _ _ w0 _ HI2.out HB2.out HP.out.h3).mono ?_; rintro e w3 ⟨rfl, hI3, hB3, hK3⟩; have HI3 := Aside0.mk hI3; have HB3 := Aside0.mk hB3; have HK3 := Aside0.mk (kb_trans HK2.out hK3); have HS3 := Aside0.mk (Kd.S_keep HS2.out hK3 (fun k_ hk e => Nat.lt_irrefl _ (Nat.lt_of_lt_of_le HLT.out (e ▸ hk)))); clear hI3 hB3 hK3 HI2 HB2 HK2 HS2) | (go_at_call 46; refine (spec_someGraph.calls k g b p3 8 ys p4 w0 _ HI3.out HB3.out H4.out).mono ?_; rintro e w4 ⟨v4, rfl, hS4, hI4, hB4, hK4⟩; have hsz3 := HK3.out.1; obtain ⟨A4, c4', e4, hY⟩ := rows_M z29 (Kd.R_lower (Kd.R_mono (Kd.R_bound (Kd.S_R hS4)) (fun k_ hk => (hk.2.1 : w3.heap.size ≤ k_))) hsz3); subst e4; have HY := Aside0.mk hY; have hS3 := (Kd.S_keep HS3.out hK4 (fun k_ hk e => Nat.lt_irrefl _ (Nat.lt_of_lt_of_le HLT.out (e ▸ hk)))); have hg0 : g0 < w3.heap.size := (S_open HS3.out).2.2.2.2.1.elim (fun cells h => (Array.getElem?_eq_some_iff.1 h).1); have hgo : w.heap.size ≤ g0 := (S_open HS3.out).2.2.2.1; have HG0 := Aside0.mk (show g0 < w3.heap.size ∧ w.heap.size ≤ g0 ∧ w.heap.size ≤ w3.heap.size ∧ w.heap.size ≤ w4.heap.size from ⟨hg0, hgo, hsz3, Nat.le_trans hsz3 hK4.1⟩); have HS4 := Aside0.mk hS3; have HI4 := Aside0.mk hI4; have HB4 := Aside0.mk hB4; have HK4 := Aside0.mk (kb_trans HK3.out hK4); clear hS4 hI4 hB4 hK4 hY hS3 hg0 hgo hsz3 HI3 HB3 HK3 HS3) | ((with_reducible refine gate_builtin (b := .append) (xs := #[.tmp 65, .tmp 67]) rfl ?_); at_builtin; go_must (refine Kd.R_append_rows k29 (w0 := w4) w.heap.size rfl (.tmp 65) (.tmp 67) 23 29 (.agg #[(.int .i64 0), (.slice none 0 0), (.int .i64 0), (.int .i64 0)]) 48 rfl Tryd.underlying23 info29 rfl (by decide) (by omega) (.slice (some ⟨g0, 0, none⟩) xs.length cA) xs ys A4 ys.length c4' (fun k_ => w.heap.size ≤ k_) (fun k_ => w3.heap.size ≤ k_) rfl rfl (Kd.S_R HS4.out) HY.out (fun _ _ h => h) ?hokp ?hfresh (Below.refl _ _) ?hbase ?hl ?_; (case hokp => exact (fun k_ hk => ⟨Nat.le_trans HG0.out.2.2.1 hk, fun e => by have := HG0.out.1; simp [Value.ownBlock] at e; omega⟩)); (case hfresh => exact (fun k_ hk => Nat.le_trans HG0.out.2.2.2 hk)); (case hbase => exact HG0.out.2.2.2); (case hl => have := HLL.out; omega); intro v5 w5 ho hb hg hat; have HV := Aside0.mk (Kd.R_V (base' := w.heap.size) ho); have hne : some g ≠ (Value.slice (some ⟨g0, 0, none⟩) xs.length cA).ownBlock := (fun e => by have := HG0.out.2.1; have := HLT.out; simp [Value.ownBlock] at e; omega); have HI5 := Aside0.mk (IsS72.grown HI4.out hg hne); have hrow : ∀ k_, (Value.slice (some ⟨g0, 0, none⟩) xs.length cA).ownBlock = some k_ → w.heap.size ≤ k_ := (fun k_ e => by have := HG0.out.2.1; simp [Value.ownBlock] at e; omega); have HB5 := Aside0.mk (HB4.out.grown hg HB4.out.size (fun k_ e => Nat.le_trans HB.out.size (hrow k_ e))); have HK5 := Aside0.mk (HK4.out.trans (KeepBut.of_grown hg g) (.inr ⟨g0, rfl, HG0.out.2.1⟩)); clear ho hb hg hat hne hrow)))
 go_ret
 exact ⟨_, rfl, HV.out, HI5.out, HB5.out, HK5.out⟩
theorem fkq_ {w6 : World} {base g0 o b0 : Nat} {A6 : Option Addr} {c6 : Nat} {u : Value} {l : List Int} (hq : (Kd.int .i64).Q 3 w6 base (fun _ => True) (.slice A6 l.length c6) l) (hb : b0 ≤ base) (hg : g0 < base) (x' : S29) (hl : x'.f1 = l) :
  Kd.FK k29 (w6.setCell ⟨g0, o, none⟩ u) (fun k_ => b0 ≤ k_) x' [.int .i64 x'.f0, .slice A6 l.length c6, .int .i64 x'.f2, .int .i64 x'.f3] := by
 subst hl
 have hf := Kd.Q_F (Kd.Q_bound hq)
 have hl := (Kd.Q_reads' hq).2.1
 intro W' hW
 refine k29_mk W' x' hl (hf W' (fun k_ hk hlt => ?_))
 have hbk : base ≤ k_ := hk.2.1
 have h1 : (w6.setCell ⟨g0, o, none⟩ u).heap[k_]? = w6.heap[k_]? := Below.heap_setCell _ _ _ k_ (fun e => by have : k_ = g0 := e; omega)
 exact (hW k_ (Nat.le_trans hb hbk) (heap_lt h1 hlt)).trans h1
set_option maxHeartbeats 8000000 in
set_option maxRecDepth 1000000 in
theorem any_needs {i : Nat} {ys : List Int} (hI : IsS72 w0 w g b p) (hB : Below w0.heap.size w0 w) (hP : Pre3 k b p p1 p2 p3 (i : Int) 1 xs) (hil : i < xs.length) (h4 : spec_reader_pick.f k b p3 (xs.length : Int) = some (v4, p4)) (hl : (xs[i]'hil).f1.length ≤ 1000) (h5 : spec_reader_spoil.f k b p4 ((xs[i]'hil).f1 ++ [v4]) 8 = some (ys, p5)) :
  Calls Tryd.prog 32 #[.pointer (some ⟨g, 0, none⟩)] w (AnyR b g w0 w (xs.set i { xs[i]'hil with f1 := ys }) p5) := by
 have HI := Aside0.mk hI
 have HB := Aside0.mk hB
 have HP := Aside0.mk hP
 have hlt := IsS72.lt hI
 have HL := Aside0.mk (show 0 < xs.length by omega)
 have HIL := Aside0.mk hil
 have e0 : ((xs.length : Int) == 0) = false := beq_eq_false_iff_ne.2 (by omega)
 have qi : (i : Int) < (xs.length : Int) := by omega
 have c0 : ((1 : Int) == 0) = false := by decide
 have HLT := Aside0.mk hlt
 have HX := Aside0.mk (And.intro h4 (And.intro hl h5))
 clear hI hB hP hlt h4 hl h5
 go_enter Tryd.func32, Tryd.ntmps32
 go_wp2_with (first | (go_at_call 46; refine (spec_someGraph.calls k g b p 8 xs p1 w0 _ HI.out HB.out HP.out.h1).mono ?_; rintro e w1 ⟨v0, rfl, hS, hI1, hB1, hK1⟩; obtain ⟨g0, cA, eA, hS'⟩ := els_ hS HL.out (Nat.le_refl _); subst eA; have HS := Aside0.mk hS'; clear hS'; have HI1 := Aside0.mk hI1; have HB1 := Aside0.mk hB1; have HK1 := Aside0.mk hK1; clear hS hI1 hB1 hK1) | (go_at_call 47; refine (spec_reader_pick.calls k g b _ _ _ _ w0 _ HI1.out HB1.out HP.out.h2).mono ?_; rintro e w2 ⟨rfl, hI2, hB2, hK2⟩; have HI2 := Aside0.mk hI2; have HB2 := Aside0.mk hB2; have HK2 := Aside0.mk (kb_trans HK1.out hK2); have HS2 := Aside0.mk (Kd.S_keep HS.out hK2 (fun k_ hk e => Nat.lt_irrefl _ (Nat.lt_of_lt_of_le HLT.out (e ▸ hk)))); clear hI2 hB2 hK2 HI1 HB1 HK1 HS) | (go_at_call 47; refine (spec_reader_pick.calls k g b _ _ _ _ w0 _ HI2.out HB2.out HP.out.h3).mono ?_; rintro e w3 ⟨rfl, hI3, hB3, hK3⟩; have HI3 := Aside0.mk hI3; have HB3 := Aside0.mk hB3; have HK3 := Aside0.mk (kb_trans HK2.out hK3); have HS3 := Aside0.mk (Kd.S_keep HS2.out hK3 (fun k_ hk e => Nat.lt_irrefl _ (Nat.lt_of_lt_of_le HLT.out (e ▸ hk)))); clear hI3 hB3 hK3 HI2 HB2 HK2 HS2))
 obtain ⟨_, hnc, hmx, hgo, ⟨cells, hcells⟩, f, hE⟩ := S_open HS3.out
 have HE := Aside0.mk hE
 have HC := Aside0.mk hcells
 have HNC := Aside0.mk (show xs.length ≤ cA ∧ xs.length ≤ 9223372036854775807 ∧ w.heap.size ≤ g0 from ⟨hnc, hmx, hgo⟩)
 obtain ⟨ce, hce1, hce2, hce3⟩ := hE i _ (List.getElem?_eq_getElem HIL.out)
 obtain ⟨vn, ece, hvn⟩ := k29_openM hce2
 obtain ⟨An, cn, en⟩ := Kd.R_slice hvn
 subst en
 have hcl : w3.cell? ⟨g0, i * 4 + 1, none⟩ = some (.slice An (xs[i]'HIL.out).f1.length cn) := hce3 1 _ (by rw [ece]; rfl)
 have HCN := Aside0.mk (show cells[i * 4 + 1]? = some (.slice An (xs[i]'HIL.out).f1.length cn) from (cell_blk hcells _).symm.trans hcl)
 clear hnc hmx hgo hcells hE hce1 hce2 hce3 ece hcl
 refine start_ (n := 18) (S := (fun W => W.heap[g0]? = some (.cells cells 29 (0, 0)))) (ds := [17]) #[false, false, false, false, false, false, false, false, false, false, false, false, false, false, false, false, false, false] (by kernel_rfl) rfl rfl HC.out (fun hHeld => ?_)
 have HI3' := Aside0.mk (IsS72.drew HI3.out)
 have HB3' := Aside0.mk (below_drew1 HB3.out)
 have HK3' := Aside0.mk (keep_drew HK3.out)
 have hE := HE.out
 have HV := Aside0.mk (Kd.R_drew hvn)
 have hdr : ∀ k_ : Nat, w3.drew.heap[k_]? = w3.heap[k_]? := fun _ => rfl
 have HDR := Aside0.mk hdr
 clear hE hdr HI3 HB3 HK3
 generalize w3.drew = wa at hHeld HI3' HB3' HK3' HV HDR ⊢
 refine pureN 0 28 (bs 18 1) ?_
 refine pureN 1 29 (bs 18 3) ?_
 refine pureN 2 30 (bs 18 7) ?_
 refine pureN 3 31 (bs 18 15) ?_
 refine pureN 4 32 (bs 18 31) ?_
 refine pureN 5 33 (bs 18 63) ?_
 refine pureN 6 34 (bs 18 127) ?_
 refine takeN 7 35 (bs 18 255) hHeld rfl (.inl ⟨by rfl, fun w' s => by have s0 : w'.cell? ⟨g0, i * 4 + 1, none⟩ = some (.slice An (xs[i]'HIL.out).f1.length cn) := (cell_blk s _).trans HCN.out; go_simp; with_reducible rfl⟩) ?_
 refine pureN 8 36 (bs 18 511) ?_
 refine pureN 9 37 (bs 18 1023) ?_
 refine pureN 10 38 (bs 18 2047) ?_
 refine one_ (i := 11) (N := some 39) (bs 18 4095) rfl rfl (by kernel_rfl) (by decide) (fun K hK => ?_)
 refine call_ (N := some 39) 47 #[.pointer (some ⟨g, 0, none⟩), .int .i64 (xs.length : Nat)] (by rfl) rfl ?run ?_
 case run => go_simp
 refine (spec_reader_pick.calls k g b _ _ _ _ w0 _ HI3'.out HB3'.out HX.out.1).mono ?_
 rintro e w4 ⟨rfl, hI4, hB4, hK4⟩
 have hneg : g0 ≠ g := fun e => Nat.lt_irrefl _ (Nat.lt_of_lt_of_le HLT.out (e ▸ HNC.out.2.2))
 have hH4 : w4.heap[g0]? = some (.cells cells 29 (0, 0)) := hK4.blk hHeld hneg (by simp)
 refine ⟨_, rfl, hK.out _ _ hH4 (fun hH2 => ?_)⟩
 clear hK K hHeld; have hHeld := hH2; clear hH2 hH4
 have HV4 := Aside0.mk (Kd.R_keep HV.out hK4 (fun k_ hk e => Nat.lt_irrefl _ (Nat.lt_of_lt_of_le HLT.out (e ▸ hk.1.1))))
 have HI4 := Aside0.mk hI4
 have HB4 := Aside0.mk hB4
 have HK4 := Aside0.mk (kb_trans HK3'.out hK4)
 have HM4 := Aside0.mk (show ∀ k_, w.heap.size ≤ k_ → k_ < w3.heap.size → w4.heap[k_]? = w3.heap[k_]? from fun k_ h1 h2 => by
  have e1 := HDR.out k_
  have hlt : k_ < wa.heap.size := heap_lt e1 h2
  exact (hK4.2 k_ hlt (fun e => Nat.lt_irrefl _ (Nat.lt_of_lt_of_le HLT.out (e ▸ h1))) (by simp)).trans e1)
 clear hI4 hB4 hK4 HI3' HB3' HK3' HV HDR hneg
 refine normN ?_
 refine one_ (i := 12) (N := some 40) (bs 18 8191) rfl rfl (by kernel_rfl) (by decide) (fun K hK => ?_)
 refine value_ (w1 := w4.alloc (.cells #[.int .i64 v4] 3)) (v := .slice (some ⟨w4.heap.size, 0, none⟩) 1 1) (by rfl) rfl (by go_simp; try rfl) ?_
 refine hK.out _ _ (al_old hHeld) (fun hH2 => ?_)
 clear hK K
 refine normN ?_
 refine one_ (i := 13) (N := some 41) (bs 18 16383) rfl rfl (by kernel_rfl) (by decide) (fun K hK => ?_)
 have hne3 := Kd.R_ne HV4.out hHeld (by decide)
 refine Kd.R_append_step (Kd.int .i64) (w0 := w4) w.heap.size (by rfl) (.tmp 35) (.tmp 40) 25 3 (.int .i64 0) 8 rfl Tryd.underlying25 info3 rfl (by decide) (by decide) (.slice An (xs[i]'HIL.out).f1.length cn) (xs[i]'HIL.out).f1 v4 [.int .i64 v4] (fun k_ => ((w.heap.size ≤ k_ ∧ k_ ≠ g0) ∧ f k_ = i) ∨ w4.heap.size ≤ k_) (fun _ => False) rfl rfl rfl (fun _ h => h.elim) (fun k_ hk => .inr hk) (Kd.R_mono HV4.out (fun k_ hk => .inl hk)) (Below.refl _ _) HK4.out.1 (by have := HX.out.2.1; omega) ?_
 intro v1 w5 ho hb1 hg hat
 have hH5 : w5.heap[g0]? = some (.cells cells 29 (0, 0)) := (hg.block g0 (Array.getElem?_eq_some_iff.1 hHeld).1 hne3).trans hHeld
 refine hK.out _ _ hH5 (fun hH3 => ?_)
 clear hK K
 have hvb := HV4.out.1
 have hng : some g ≠ (Value.slice An (xs[i]'HIL.out).f1.length cn).ownBlock := fun e => Nat.lt_irrefl _ (Nat.lt_of_lt_of_le HLT.out (hvb g e.symm).1.1)
 have HI5 := Aside0.mk (IsS72.grown HI4.out hg hng)
 have HB5 := Aside0.mk (HB4.out.grown hg HB4.out.size (fun k_ e => Nat.le_trans HB.out.size (hvb k_ e).1.1))
 have HK5 : Aside0 (KeepBut w w5 g none) := ⟨by
  cases hv : (Value.slice An (xs[i]'HIL.out).f1.length cn).ownBlock with
  | none => rw [hv] at hg; exact HK4.out.trans (KeepBut.of_grown hg g) (.inl rfl)
  | some q => rw [hv] at hg; exact HK4.out.trans (KeepBut.of_grown hg g) (.inr ⟨q, rfl, (hvb q hv).1.1⟩)⟩
 have HM5 := Aside0.mk (show ∀ k_, w.heap.size ≤ k_ → k_ ≠ g0 → f k_ ≠ i → k_ < w3.heap.size → w5.heap[k_]? = w3.heap[k_]? from fun k_ h1 h2 h3 h4 => by
  have e1 := HM4.out k_ h1 h4
  exact (hg.block k_ (heap_lt e1 h4) (fun e => h3 (hvb k_ e.symm).2)).trans e1)
 obtain ⟨A5, c5, e5⟩ := Kd.R_slice ho
 rw [e5] at ho ⊢
 have HO5 := Aside0.mk ho
 clear ho hb1 hg hat hvb hng e5 hH2 hH5 hne3 hHeld HI4 HB4 HK4 HV4 HM4; have hHeld := hH3; clear hH3
 refine normN ?_
 refine one_ (i := 14) (N := some 42) (bs 18 32767) rfl rfl (by kernel_rfl) (by decide) (fun K hK => ?_)
 refine call_ (N := some 42) 49 #[.pointer (some ⟨g, 0, none⟩), .slice A5 ((xs[i]'HIL.out).f1 ++ [v4]).length c5, .int .i64 8] (by rfl) rfl ?run ?_
 case run => go_simp
 refine (spec_reader_spoil.calls k g b _ A5 c5 _ 8 _ _ w0 _ HI5.out HB5.out (Kd.R_reads' HO5.out).2.2 (Kd.R_reads' HO5.out).2.1 (far_slice (IsS72.own_ne HI5.out HO5.out (by decide))) HX.out.2.2).mono ?_
 rintro e w6 ⟨vq, rfl, hQ6, hI6, hB6, hK6⟩
 have hneg : g0 ≠ g := fun e => Nat.lt_irrefl _ (Nat.lt_of_lt_of_le HLT.out (e ▸ HNC.out.2.2))
 have hH6 : w6.heap[g0]? = some (.cells cells 29 (0, 0)) := hK6.blk hHeld hneg (by simp)
 obtain ⟨A6, c6, e6, hl6⟩ := Kd.Q_slice hQ6
 subst e6
 refine ⟨_, rfl, hK.out _ _ hH6 (fun hH2 => ?_)⟩
 clear hK K hH6
 have HI6 := Aside0.mk hI6
 have HB6 := Aside0.mk hB6
 have HK6 := Aside0.mk (kb_trans HK5.out hK6)
 have HQ6 := Aside0.mk hQ6
 have HM6 := Aside0.mk (show ∀ k_, w.heap.size ≤ k_ → k_ ≠ g0 → f k_ ≠ i → k_ < w3.heap.size → w6.heap[k_]? = w3.heap[k_]? from fun k_ h1 h2 h3 h4 => by
  have e1 := HM5.out k_ h1 h2 h3 h4
  exact (hK6.2 k_ (heap_lt e1 h4) (fun e => Nat.lt_irrefl _ (Nat.lt_of_lt_of_le HLT.out (e ▸ h1))) (by simp)).trans e1)
 have HS5 := Aside0.mk (show w.heap.size ≤ w5.heap.size ∧ g0 < w5.heap.size from ⟨HK5.out.1, (Array.getElem?_eq_some_iff.1 hHeld).1⟩)
 clear hQ6 hI6 hB6 hK6 hneg hHeld HI5 HB5 HK5 HM5 HO5 hl6; have hHeld := hH2; clear hH2
 refine normN ?_
 refine pureN 15 43 (bs 18 65535) ?_
 refine pureN 16 44 (bs 18 131071) ?_
 refine last_ (i := 17) (N := none) (bs 18 262143) rfl rfl (by kernel_rfl) (by decide) (fun K hK => ?_)
 have s0 : w6.cell? ⟨g0, i * 4 + 1, none⟩ = some (.slice An (xs[i]'HIL.out).f1.length cn) := (cell_blk hHeld _).trans HCN.out
 have s1 : w6.frozen? ⟨g0, i * 4 + 1, none⟩ = false := blk_frozen hHeld _
 refine skip_ (w1 := w6.setCell ⟨g0, i * 4 + 1, none⟩ (.slice A6 ys.length c6)) (by rfl) rfl (by go_simp; try rfl) ?_
 refine hK.out _ _ ?_
 refine done_ (by kernel_rfl) ?_
 clear s0 s1 hK K
 have h := V_turn (W := w3) (W1 := w6) (e := 29) (t := 1) (u := .slice A6 ys.length c6) (c := cA) (b0 := w.heap.size) (x' := { xs[i]'HIL.out with f1 := ys }) HE.out (fun k_ hk => hk) HNC.out.2.2 ⟨cells, hHeld⟩ (hHeld.trans HC.out.symm) (fun k_ h1 h2 h3 h4 => HM6.out k_ h1 h2 h3 h4) HNC.out.1 HNC.out.2.1 (by decide) (fun x cs hx hcs hM => by
  obtain ⟨vn, rfl, hvn⟩ := k29_openM hM
  rw [List.getElem?_eq_getElem HIL.out] at hx
  injection hx with hx
  subst hx
  exact fkq_ HQ6.out HS5.out.1 HS5.out.2 { xs[i]'HIL.out with f1 := ys } rfl)
 have hI7 := IsS72.far HI6.out (p := ⟨g0, i * 4 + 1, none⟩) (fun e => Nat.lt_irrefl _ (Nat.lt_of_lt_of_le HLT.out (e ▸ HNC.out.2.2))) (.slice A6 ys.length c6)
 have hB7 := HB6.out.setCell (p := ⟨g0, i * 4 + 1, none⟩) (Nat.le_trans HB.out.size HNC.out.2.2) (.slice A6 ys.length c6)
 have hK7 := keep_far HK6.out (p := ⟨g0, i * 4 + 1, none⟩) HNC.out.2.2 (.slice A6 ys.length c6)
 have H7 := Aside0.mk (And.intro (V_len h List.length_set) (And.intro hI7 (And.intro hB7 hK7)))
 clear h hI7 hB7 hK7 hHeld
 go_wp2
 go_ret
 exact ⟨_, rfl, H7.out.1, H7.out.2.1, H7.out.2.2.1, H7.out.2.2.2⟩
end
end Go.Proofs.YtbodhggmhbiebaaDoor.G
/-! The generators that hand out a graph, by hand: anyGraph's contract, the graph alone, a graph and a set of its tasks. -/
namespace Go.Proofs.YtbodhggmhbiebaaDoor.G
open Go.RowKit Go.Proofs.YtbodhggmhbiebaaDoorW.PrintWords Go.Proofs.YtbodhggmhbiebaaDoorW.PrintLast Go.Proofs.YtbodhggmhbiebaaDoorW.PrintMore C
set_option linter.unusedVariables false
set_option linter.unusedSimpArgs false

theorem spec_anyGraph.calls (k g : Nat) (b : List Int) (p : Int) (r1 : List S29) (r2 : Int) (w0 w : World) (hI : IsS72 w0 w g b p) (hB : Below w0.heap.size w0 w) (h : spec_anyGraph.f k b p = some (r1, r2)) :
  Calls Tryd.prog 32 #[.pointer (some ⟨g, 0, none⟩)] w (AnyR b g w0 w r1 r2) := by
 unfold spec_anyGraph.f at h
 obtain ⟨⟨xs, p1⟩, h1, h⟩ := Option.bind_eq_some_iff.1 h
 simp only at h
 by_cases h0 : xs.length = 0
 ·rw [if_pos h0] at h
  injection h with h
  injection h with ha hb
  subst ha hb
  exact any_nil hI hB h1 h0
 rw [if_neg h0] at h
 obtain ⟨⟨kk, p2⟩, h2, h⟩ := Option.bind_eq_some_iff.1 h
 obtain ⟨⟨c, p3⟩, h3, h⟩ := Option.bind_eq_some_iff.1 h
 simp only at h h2 h3
 by_cases hk : 0 ≤ kk ∧ kk < (xs.length : Int)
 ·rw [if_pos hk] at h
  have hP : Pre3 k b p p1 p2 p3 kk c xs := ⟨h1, h2, h3, hk.1, hk.2⟩
  obtain ⟨i, rfl⟩ := Int.eq_ofNat_of_zero_le hk.1
  rw [Int.toNat_natCast] at h
  have hil : i < xs.length := by omega
  by_cases q0 : c = 0
  ·subst q0
   rw [if_pos rfl] at h
   obtain ⟨⟨v4, p4⟩, h4, h⟩ := Option.bind_eq_some_iff.1 h
   injection h with h
   injection h with ha hb
   subst ha hb
   exact any_time hI hB hP h4
  rw [if_neg q0] at h
  by_cases q1 : c = 1
  ·subst q1
   rw [if_pos rfl] at h
   rw [rd_eq (List.getElem?_eq_getElem hil)] at h
   by_cases hl : (xs[i]'hil).f1.length ≤ 1000
   ·rw [if_pos hl] at h
    obtain ⟨⟨v4, p4⟩, h4, h⟩ := Option.bind_eq_some_iff.1 h
    obtain ⟨⟨ys, p5⟩, h5, h⟩ := Option.bind_eq_some_iff.1 h
    injection h with h
    injection h with ha hb
    subst ha hb
    exact any_needs hI hB hP hil h4 hl h5
   ·rw [if_neg hl] at h
    cases h
  rw [if_neg q1] at h
  by_cases q2 : c = 2
  ·subst q2
   rw [if_pos rfl] at h
   obtain ⟨⟨v4, p4⟩, h4, h⟩ := Option.bind_eq_some_iff.1 h
   injection h with h
   injection h with ha hb
   subst ha hb
   exact any_pool hI hB hP h4
  rw [if_neg q2] at h
  by_cases q3 : c = 3
  ·subst q3
   rw [if_pos rfl] at h
   obtain ⟨⟨v4, p4⟩, h4, h⟩ := Option.bind_eq_some_iff.1 h
   injection h with h
   injection h with ha hb
   subst ha hb
   exact any_units hI hB hP h4
  rw [if_neg q3] at h
  by_cases q4 : c = 4
  ·subst q4
   rw [if_pos rfl] at h
   by_cases hl : xs.length ≤ 1000
   ·rw [if_pos hl] at h
    obtain ⟨⟨ys, p4⟩, h4, h⟩ := Option.bind_eq_some_iff.1 h
    simp only at h
    by_cases hl2 : ys.length ≤ 1000
    ·rw [if_pos hl2] at h
     injection h with h
     injection h with ha hb
     subst ha hb
     exact any_more hI hB hP h4 ⟨hl, hl2⟩
    ·rw [if_neg hl2] at h
     cases h
   ·rw [if_neg hl] at h
    cases h
  rw [if_neg q4] at h
  injection h with h
  injection h with ha hb
  subst ha hb
  exact any_rest hI hB hP ⟨q0, q1, q2, q3, q4⟩
 ·rw [if_neg hk] at h
  cases h
/-- The bound on rounds in the generators: any number that is large enough. -/
def gfuel : Nat := 400
def spec_DrawStageOf.f (l0 : List Int) : Option (List S29) := (spec_newReader.f l0).bind fun x1 => (spec_anyGraph.f gfuel x1.1 x1.2).bind fun x2 => some x2.1
set_option maxHeartbeats 8000000 in
set_option maxRecDepth 1000000 in
theorem spec_DrawStageOf.calls (A0 : Option Addr) (c0 : Nat) (l0 : List Int) (r : List S29) (w : World) (hr0 : Kd.C (Kd.int .u8) w A0 l0.length l0) (hc0 : l0.length ≤ c0) (h : spec_DrawStageOf.f l0 = some r) :
  Calls Tryd.prog 9 #[.slice A0 l0.length c0] w fun e w' => ∃ v0_ : Value, e = .returned (v0_) ∧ Kd.V k29 29 w' w.heap.size (fun k_ => (w.heap.size ≤ k_)) v0_ r ∧ Below w.heap.size w w' := by
 unfold spec_DrawStageOf.f at h
 obtain ⟨⟨b, p⟩, h1, h⟩ := Option.bind_eq_some_iff.1 h
 obtain ⟨⟨xs, p2⟩, h2, h⟩ := Option.bind_eq_some_iff.1 h
 injection h with h
 subst h
 have HR0 := Aside0.mk hr0
 have HC0 := Aside0.mk hc0
 have HX := Aside0.mk (And.intro h1 h2)
 clear hr0 hc0 h1 h2
 go_enter Tryd.func9, Tryd.ntmps9
 go_wp2_with (first | (go_at_call 33; refine (spec_newReader.calls A0 c0 l0 b p w _ (Below.refl _ _) HR0.out HC0.out HX.out.1).mono ?_; rintro e w1 ⟨g, rfl, hI1, hB1, _⟩; have HI1 := Aside0.mk hI1; have HB1 := Aside0.mk hB1; clear hI1 hB1) | (go_at_call 32; refine (spec_anyGraph.calls gfuel g b p xs p2 w _ HI1.out HB1.out HX.out.2).mono ?_; rintro e w2 ⟨v2, rfl, hV2, hI2, hB2, hK2⟩; obtain ⟨A2, c2, e2⟩ := Kd.V_slice hV2; subst e2; have HG := Aside0.mk (show g < w1.heap.size ∧ w.heap.size ≤ w1.heap.size from ⟨IsS72.lt HI1.out, HB1.out.size⟩); have HV2 := Aside0.mk hV2; have HI2 := Aside0.mk hI2; have HB2 := Aside0.mk hB2; clear hV2 hI2 hB2 hK2 HI1 HB1))
 go_ret
 exact ⟨_, rfl, Kd.V_mono HV2.out (fun k_ hk => Nat.le_trans HG.out.2 hk), HB2.out⟩
def spec_DrawStagesOf.f (l0 : List Int) : Option (List S29) := (spec_newReader.f l0).bind fun x1 => (spec_anyGraph.f gfuel x1.1 x1.2).bind fun x2 => some x2.1
set_option maxHeartbeats 8000000 in
set_option maxRecDepth 1000000 in
theorem spec_DrawStagesOf.calls (A0 : Option Addr) (c0 : Nat) (l0 : List Int) (r : List S29) (w : World) (hr0 : Kd.C (Kd.int .u8) w A0 l0.length l0) (hc0 : l0.length ≤ c0) (h : spec_DrawStagesOf.f l0 = some r) :
  Calls Tryd.prog 14 #[.slice A0 l0.length c0] w fun e w' => ∃ v0_ : Value, e = .returned (v0_) ∧ Kd.V k29 29 w' w.heap.size (fun k_ => (w.heap.size ≤ k_)) v0_ r ∧ Below w.heap.size w w' := by
 unfold spec_DrawStagesOf.f at h
 obtain ⟨⟨b, p⟩, h1, h⟩ := Option.bind_eq_some_iff.1 h
 obtain ⟨⟨xs, p2⟩, h2, h⟩ := Option.bind_eq_some_iff.1 h
 injection h with h
 subst h
 have HR0 := Aside0.mk hr0
 have HC0 := Aside0.mk hc0
 have HX := Aside0.mk (And.intro h1 h2)
 clear hr0 hc0 h1 h2
 go_enter Tryd.func14, Tryd.ntmps14
 go_wp2_with (first | (go_at_call 33; refine (spec_newReader.calls A0 c0 l0 b p w _ (Below.refl _ _) HR0.out HC0.out HX.out.1).mono ?_; rintro e w1 ⟨g, rfl, hI1, hB1, _⟩; have HI1 := Aside0.mk hI1; have HB1 := Aside0.mk hB1; clear hI1 hB1) | (go_at_call 32; refine (spec_anyGraph.calls gfuel g b p xs p2 w _ HI1.out HB1.out HX.out.2).mono ?_; rintro e w2 ⟨v2, rfl, hV2, hI2, hB2, hK2⟩; obtain ⟨A2, c2, e2⟩ := Kd.V_slice hV2; subst e2; have HG := Aside0.mk (show g < w1.heap.size ∧ w.heap.size ≤ w1.heap.size from ⟨IsS72.lt HI1.out, HB1.out.size⟩); have HV2 := Aside0.mk hV2; have HI2 := Aside0.mk hI2; have HB2 := Aside0.mk hB2; clear hV2 hI2 hB2 hK2 HI1 HB1))
 go_ret
 exact ⟨_, rfl, Kd.V_mono HV2.out (fun k_ hk => Nat.le_trans HG.out.2 hk), HB2.out⟩
def spec_DrawUselessNeeds.f (l0 : List Int) : Option (List S29) := (spec_newReader.f l0).bind fun x1 => (spec_anyGraph.f gfuel x1.1 x1.2).bind fun x2 => some x2.1
set_option maxHeartbeats 8000000 in
set_option maxRecDepth 1000000 in
theorem spec_DrawUselessNeeds.calls (A0 : Option Addr) (c0 : Nat) (l0 : List Int) (r : List S29) (w : World) (hr0 : Kd.C (Kd.int .u8) w A0 l0.length l0) (hc0 : l0.length ≤ c0) (h : spec_DrawUselessNeeds.f l0 = some r) :
  Calls Tryd.prog 18 #[.slice A0 l0.length c0] w fun e w' => ∃ v0_ : Value, e = .returned (v0_) ∧ Kd.V k29 29 w' w.heap.size (fun k_ => (w.heap.size ≤ k_)) v0_ r ∧ Below w.heap.size w w' := by
 unfold spec_DrawUselessNeeds.f at h
 obtain ⟨⟨b, p⟩, h1, h⟩ := Option.bind_eq_some_iff.1 h
 obtain ⟨⟨xs, p2⟩, h2, h⟩ := Option.bind_eq_some_iff.1 h
 injection h with h
 subst h
 have HR0 := Aside0.mk hr0
 have HC0 := Aside0.mk hc0
 have HX := Aside0.mk (And.intro h1 h2)
 clear hr0 hc0 h1 h2
 go_enter Tryd.func18, Tryd.ntmps18
 go_wp2_with (first | (go_at_call 33; refine (spec_newReader.calls A0 c0 l0 b p w _ (Below.refl _ _) HR0.out HC0.out HX.out.1).mono ?_; rintro e w1 ⟨g, rfl, hI1, hB1, _⟩; have HI1 := Aside0.mk hI1; have HB1 := Aside0.mk hB1; clear hI1 hB1) | (go_at_call 32; refine (spec_anyGraph.calls gfuel g b p xs p2 w _ HI1.out HB1.out HX.out.2).mono ?_; rintro e w2 ⟨v2, rfl, hV2, hI2, hB2, hK2⟩; obtain ⟨A2, c2, e2⟩ := Kd.V_slice hV2; subst e2; have HG := Aside0.mk (show g < w1.heap.size ∧ w.heap.size ≤ w1.heap.size from ⟨IsS72.lt HI1.out, HB1.out.size⟩); have HV2 := Aside0.mk hV2; have HI2 := Aside0.mk hI2; have HB2 := Aside0.mk hB2; clear hV2 hI2 hB2 hK2 HI1 HB1))
 go_ret
 exact ⟨_, rfl, Kd.V_mono HV2.out (fun k_ hk => Nat.le_trans HG.out.2 hk), HB2.out⟩
end Go.Proofs.YtbodhggmhbiebaaDoor.G
