/-
 graphOf by hand. Written by hyb/mkgraph.py out of hyb/graph.head.
-/
import Derived.Test.YtkafmfabkbmpbaaDoorHR
import Derived.Deep.DeepCutAuto
import Derived.Deep.CutRange
import Derived.Test.YtkafmfabkbmpbaaDoorG0
import Derived.Test.YtkafmfabkbmpbaaDoorG10
namespace Go.Proofs.YtkafmfabkbmpbaaDoor.G
open Go.RowKit Go.Proofs.YtkafmfabkbmpbaaDoorW.PrintWords Go.Proofs.YtkafmfabkbmpbaaDoorW.PrintLast Go.Proofs.YtkafmfabkbmpbaaDoorW.PrintMore C
set_option linter.unusedVariables false
set_option linter.unusedSimpArgs false
attribute [local go_sem] Oper.semAt_some

theorem drawn_cell {w w' : World} (h : Drawn0 w w') (p : Addr) : w'.cell? p = w.cell? p := by
 obtain ⟨n, rfl⟩ := h
 rfl
theorem drawn_frozen {w w' : World} (h : Drawn0 w w') (p : Addr) : w'.frozen? p = w.frozen? p := by
 obtain ⟨n, rfl⟩ := h
 rfl
theorem drawn_heap {w w' : World} (h : Drawn0 w w') : w'.heap = w.heap := by
 obtain ⟨n, rfl⟩ := h
 rfl
theorem drawn_trans {w w' w'' : World} (h : Drawn0 w w') (h' : Drawn0 w' w'') : Drawn0 w w'' := by
 obtain ⟨n, rfl⟩ := h'
 exact h.step n
theorem Marks.lt {b : Nat} {w : World} : ∀ {ds : List Deferred}, Marks b w ds → ∀ d, d ∈ ds → ∀ D, d.target = .collected D → D < w.heap.size
 | [], _, d, hd, _, _ => by cases hd
 | x :: ds, ⟨D, h1, h2, h3, h4, h5⟩, d, hd, D', e => by
  rcases List.mem_cons.1 hd with rfl | hd
  ·rw [h1] at e
   cases e
   exact (Array.getElem?_eq_some_iff.1 h3).1
  ·exact h5.lt d hd D' e
theorem Marks.ownFrom {b B : Nat} {W W' : World} {ds : List Deferred} {row : Option Nat} (h : Marks b W ds) (hlt : ∀ d, d ∈ ds → ∀ D, d.target = .collected D → D < B) (hg : W.grownBy W' row) (hr : ∀ r, row = some r → B ≤ r ∧ ∃ o : Obj, W.heap[r]? = some o ∧ o.isCells = false) : Marks b W' ds :=
 h.move (fun k hk ⟨d, hd, e⟩ => (hg.block k (Array.getElem?_eq_some_iff.1 hk).1 (fun e2 => by
  have h1 := hlt d hd k e
  have h2 := (hr k e2.symm).1
  omega)).trans hk)
theorem Marks.below {b : Nat} {W W' : World} {ds : List Deferred} (h : Marks b W ds) (hb : Below W.heap.size W W') : Marks b W' ds :=
 h.move (fun k hk _ => (hb.block k (Array.getElem?_eq_some_iff.1 hk).1).trans hk)
theorem Marks.heap {b : Nat} {W W' : World} {ds : List Deferred} (h : Marks b W ds) (hb : W'.heap = W.heap) : Marks b W' ds :=
 h.move (fun k hk _ => by rw [hb]; exact hk)
theorem Marks.setCell {b : Nat} {W : World} {ds : List Deferred} (h : Marks b W ds) {p : Addr} {t : Nat} {c : Array Value} {f : Nat × Nat} (hp : W.heap[p.block]? = some (.cells c t f)) (v : Value) : Marks b (W.setCell p v) ds :=
 h.move (fun k hk _ => (Below.heap_setCell _ _ _ k (fun e => by rw [e, hp] at hk; cases hk)).trans hk)
theorem Marks.more {b D : Nat} {W : World} {ds : List Deferred} (h : Marks b W ds) (hD : b ≤ D) (hK : W.heap[D]? = some (.deferred (some []))) (hlt : ∀ d, d ∈ ds → ∀ D', d.target = .collected D' → D' < D) : Marks b W ({ target := .collected D, args := #[] } :: ds) :=
 ⟨D, rfl, hD, hK, fun d' D' hd e => Nat.ne_of_lt (hlt d' hd D' e), h⟩
/-- A graph, as graphOf leaves it: its rows are read alone. -/
def IsG (b : Nat) (w : World) (g n : Nat) (l0 : List S47) (nd od bl ab : List Nat) : Prop :=
 ∃ A0 c0 A1 c1 A2 c2 P3 P4, w.heap[g]? = some (.cells #[.slice A0 n c0, .slice A1 n c1, .slice A2 n c2, .slice (some ⟨P3, 0, none⟩) n n, .slice (some ⟨P4, 0, none⟩) n n] 80 (0, 0)) ∧ n ≤ c0 ∧ Kd.C k47 w A0 n l0 ∧ Kd.C (Kd.int .u16) w A1 n (castL nd) ∧ Kd.R (Kd.int .i64) 3 w b (fun _ => True) (.slice A2 n c2) (castL od) ∧
  Kd.C (Kd.int .u16) w (some ⟨P3, 0, none⟩) n (castL bl) ∧ Kd.C (Kd.int .u16) w (some ⟨P4, 0, none⟩) n (castL ab)
/-- It lies in blocks of its own, but for the tasks. -/
def IsGF (A0 : Option Addr) (w w' : World) (g n : Nat) (l0 : List S47) (nd od bl ab : List Nat) : Prop :=
 ∀ W', (∀ k, w.heap.size ≤ k → k < w'.heap.size → W'.heap[k]? = w'.heap[k]?) → Kd.C k47 W' A0 n l0 → IsG w.heap.size W' g n l0 nd od bl ab
/-- What a row of slots holds. -/
theorem lit_intro {t : Array Value} {C : (Nat → Value) → Array Value} (h : t = C (fun i => t.getD i undef)) : ∃ f, t = C f := ⟨_, h⟩
/-- A statement that only ends. -/
def Calm (K : Act → World → Prop) : Exit → Act → World → Prop
 | .normal, a, w => K a w
 | _, _, _ => False
theorem calm_wp {P : Program} {s : Code} {K : Act → World → Prop} {Q' : Exit → Act → World → Prop} {a : Act} {w : World} (h : s.wp P (Calm K) a w) : s.wp P (Exit.then K Q') a w :=
 wp_mono h (fun e a' w' hq => by cases e <;> first | exact hq | exact hq.elim)
theorem calm_out {K : Act → World → Prop} {a : Act} {w : World} (h : K a w) : Calm K .normal a w := h
theorem needs_fit {kf : Nat} {A0 : Option Addr} {c0 n : Nat} {l0 : List S47} {nd : List Nat} {w : World} (h1 : l0.length = n) (h2 : nd.length = n) (hr : Kd.C k47 w A0 n l0) (hc : n ≤ c0) (h : impl_needsOf.f kf l0 = some (castL nd, true)) :
  Calls Tryd.prog 51 #[.slice A0 n c0] w fun e w' => ∃ A c, e = .returned (.tuple #[.slice A n c, .bool true]) ∧ n ≤ c ∧ Kd.R (Kd.int .u16) 55 w' w.heap.size (fun _ => True) (.slice A n c) (castL nd) ∧ Below w.heap.size w w' := by
 subst h1
 refine (impl_needsOf.calls kf A0 c0 l0 (castL nd) true w hr hc h).mono ?_
 rintro e w' ⟨v, rfl, hR, hb⟩
 obtain ⟨A, c, e⟩ := Kd.R_slice hR
 rw [castL_length, h2] at e
 subst e
 exact ⟨A, c, rfl, (Kd.R_reads' hR).2.1, hR, hb⟩
theorem order_fit {kf : Nat} {A0 : Option Addr} {c0 n : Nat} {nd od : List Nat} {dn : Int} {w : World} (h1 : nd.length = n) (h2 : od.length = n) (hr : Kd.C (Kd.int .u16) w A0 (castL nd).length (castL nd)) (hc : n ≤ c0) (h : impl_order.f kf (castL nd) = some (castL od, dn)) :
  Calls Tryd.prog 52 #[.slice A0 n c0] w fun e w' => ∃ A c, e = .returned (.tuple #[.slice A n c, .int .u16 dn]) ∧ n ≤ c ∧ Kd.R (Kd.int .i64) 3 w' w.heap.size (fun _ => True) (.slice A n c) (castL od) ∧ Below w.heap.size w w' := by
 have e : (castL nd).length = n := by rw [castL_length, h1]
 subst e
 refine (impl_order.calls kf A0 c0 (castL nd) (castL od) dn w hr hc h).mono ?_
 rintro e w' ⟨v, rfl, hR, hb⟩
 obtain ⟨A, c, e⟩ := Kd.R_slice hR
 rw [castL_length, h2] at e
 subst e
 exact ⟨A, c, rfl, (Kd.R_reads' hR).2.1, hR, hb⟩
set_option maxHeartbeats 16000000 in
set_option maxRecDepth 1000000 in
theorem graphOf_fullF (kf : Nat) (A0 : Option Addr) (c0 : Nat) (l0 : List S47) (nd od : List Nat) (dn : Int) (w : World) (hr0 : Kd.C k47 w A0 l0.length l0) (hc0 : l0.length ≤ c0) (ht : Tab w) (h0 : 0 < w.heap.size)
  (hn8 : l0.length ≤ 8) (hN : impl_needsOf.f kf l0 = some (castL nd, true)) (hnd : Sets l0.length nd) (hO : impl_order.f kf (castL nd) = some (castL od, dn)) (hod : od.length = l0.length) (hodl : ∀ i, i ∈ od → i < l0.length) (hE : impl_everything.f (l0.length : Int) = some dn) :
  Calls Tryd.prog 43 #[.slice A0 l0.length c0] w fun e w' => ∃ g, e = .returned (.tuple #[.pointer (some ⟨g, 0, none⟩), .bool true]) ∧
   IsG w.heap.size w' g l0.length l0 nd od (gst nd l0.length od).1 (gst nd l0.length od).2 ∧ Below w.heap.size w w' ∧ IsGF A0 w w' g l0.length l0 nd od (gst nd l0.length od).1 (gst nd l0.length od).2 := by
 have HR0 := Aside0.mk hr0
 have HC0 := Aside0.mk hc0
 have HT := Aside0.mk ht
 have H0 := Aside0.mk h0
 have HN := Aside0.mk hN
 have HO := Aside0.mk hO
 have HE := Aside0.mk hE
 have HND := Aside0.mk hnd
 have HODL := Aside0.mk hodl
 obtain ⟨n, hn⟩ : ∃ n, l0.length = n := ⟨_, rfl⟩
 have hndl : nd.length = n := hnd.len.trans hn
 have HH := Aside0.mk (show l0.length = n ∧ nd.length = n ∧ od.length = n ∧ n ≤ 8 from ⟨hn, hndl, hod.trans hn, hn ▸ hn8⟩)
 clear hr0 hc0 ht h0 hN hO hE hnd hodl hod hn8 hndl
 rw [hn] at HR0 HC0 HE HND HODL ⊢
 clear hn
 refine enter_marks Tryd.func43 rfl ?_
 simp only [Tryd.ntmps43, List.size_toArray, List.length_cons, List.length_nil, Nat.reduceAdd, Nat.reduceSub, Array.replicate_succ, Array.replicate_zero, List.push_toArray, List.append_toArray, List.nil_append, List.cons_append]
 go_upto_region 7 with (first | (go_at_call 51; refine (needs_fit HH.out.1 HH.out.2.1 HR0.out HC0.out HN.out).mono ?_; rintro e w1 ⟨An, cn, rfl, hcn, hR1, hB1⟩; have HR1 := Aside0.mk hR1; have HB1 := Aside0.mk hB1; have HCN := Aside0.mk hcn; clear hR1 hB1 hcn) | (go_at_call 52; refine (order_fit HH.out.2.1 HH.out.2.2.1 (Kd.R_reads' HR1.out).2.2 HCN.out HO.out).mono ?_; rintro e w2 ⟨Ao, co, rfl, hco, hR2, hB2⟩; have HR2 := Aside0.mk hR2; have HB2 := Aside0.mk hB2; have HCO := Aside0.mk hco; clear hR2 hB2 hco) | (go_at_call 53; refine (impl_everything.calls _ _ _ HE.out).mono ?_; rintro e w3 ⟨rfl, hD⟩; have HD := Aside0.mk hD; clear hD))
 have b1 := HB1.out
 have b2 := HB2.out
 have b3 := HD.out.below
 have HBW := Aside0.mk ((b1.trans (b2.mono b1.size)).trans (b3.mono (Nat.le_trans b1.size b2.size)))
 have HCL := Aside0.mk (Kd.C_below HR0.out HBW.out)
 have HCN3 := Aside0.mk (Kd.C_below (Kd.C_below (by have := (Kd.R_reads' HR1.out).2.2; rw [castL_length, HH.out.2.1] at this; exact this) b2) b3 : Kd.C (Kd.int .u16) w3 An n (castL nd))
 have HRO := Aside0.mk (Kd.R_lower (Kd.R_below HR2.out b3) b1.size)
 have HRN := Aside0.mk (Kd.R_below (Kd.R_below HR1.out b2) b3)
 have HT3 := Aside0.mk (HT.out.below HBW.out H0.out)
 have H03 := Aside0.mk (Nat.lt_of_lt_of_le H0.out HBW.out.size)
 clear HR0 HT HN HO HE HR1 HB1 HR2 HB2 HD b1 b2 b3
 have p0 : 0 ≤ (n : Int) := by omega
 have hn8 := HH.out.2.2.2
 obtain ⟨Z, hZ⟩ : ∃ Z, madeCells (Value.int .u16 0).cells (n * 1) = Z := ⟨_, rfl⟩
 have hmk : ∀ W : World, (Instr.makeSlice 78 (.int .i64 (n : Int)) (.int .i64 (n : Int))).run Tryd.prog W = .ok (.slice (some ⟨W.heap.size, 0, none⟩) n n) (W.alloc (.cells Z 55 (0, 0))) := by
  intro W
  obtain ⟨i, hi, hi2⟩ := Option.map_eq_some_iff.1 info55
  injection hi2 with hz hi3
  injection hi3 with hs hb
  have := run_makeSlice (P := Tryd.prog) W 78 55 i (.int .u16 0) Tryd.underlying78 hi hz .i64 .i64 (n : Int) (n : Int) p0 (Int.le_refl _) (by rw [Int.toNat_natCast, hs]; omega) (by rw [hb]; omega) (by omega)
  rw [hs] at this
  rw [Int.toNat_natCast] at this
  rw [← hZ]
  exact this
 have HZ := Aside0.mk (hZ.symm.trans (cs_zero n))
 clear hZ hn8 p0
 go_cut [8] from 30 to 40 (fun v8 w' => ∃ Bx Bg Pb Pa, v8 = .pointer (some ⟨Bx, 0, none⟩) ∧ Aside0 (GSt w3.heap.size w' Bx Bg Pb Pa #[.slice A0 n c0, .slice An n cn, .slice Ao n co, .slice (some ⟨Pb, 0, none⟩) n n, .slice (some ⟨Pa, 0, none⟩) n n] (List.replicate n 0) (List.replicate n 0)) ∧ Aside0 (Below w3.heap.size w3 w'))
 case first =>
  refine calm_wp ?_
  refine start_ (n := 13) (S := fun w' => Below w3.heap.size w3 w') (ds := [12]) #[false, false, false, false, false, false, false, false, false, false, false, false, false] (by kernel_rfl) rfl rfl (below_drew1 (Below.refl w3.heap.size w3)) (fun hHeld => ?_)
  generalize w3.drew = wa at hHeld ⊢
  refine pureN 0 30 (bs 13 1) ?_
  refine pureN 1 31 (bs 13 3) ?_
  refine pureN 2 32 (bs 13 7) ?_
  refine pureN 3 33 (bs 13 15) ?_
  refine pureN 4 34 (bs 13 31) ?_
  refine pureN 6 36 (bs 13 95) ?_
  refine pureN 7 37 (bs 13 223) ?_
  refine three_ (i := 5) (j := 8) (k := 11) (Ni := some 35) (Nj := some 38) (Nk := some 8) (bs 13 255) (bs 13 479) (bs 13 2271) rfl rfl rfl rfl rfl rfl (by kernel_rfl) (by decide) (by decide) (by decide) (fun K hK => ?_) (fun K hK => ?_) (fun K hK => ?_)
  ·skip
   refine value_ (w1 := wa.alloc (.cells Z 55 (0, 0))) (v := .slice (some ⟨wa.heap.size, 0, none⟩) n n) (by rfl) rfl (by go_simp; try rfl) ?_
   refine hK.out _ _ (hHeld.alloc hHeld.size _) (fun hH2 => ?_)
   clear hK K
   refine normN ?_
   have h5 := al_new wa 55 Z
   have g5 := hHeld.size
   obtain ⟨Pb, e5⟩ : ∃ p, p = wa.heap.size := ⟨_, rfl⟩
   rw [← e5] at h5 g5  ⊢
   generalize wa.alloc (.cells Z 55 (0, 0)) = w_0 at hH2 h5  ⊢
   clear hHeld e5; have hHeld := hH2; clear hH2
   refine two_ (i := 8) (j := 11) (Ni := some 38) (Nj := some 8) (bs 13 511) (bs 13 2303) rfl rfl rfl rfl (by kernel_rfl) (by decide) (by decide) (fun K hK => ?_) (fun K hK => ?_)
   ·skip
    refine value_ (w1 := w_0.alloc (.cells Z 55 (0, 0))) (v := .slice (some ⟨w_0.heap.size, 0, none⟩) n n) (by rfl) rfl (by go_simp; try rfl) ?_
    refine hK.out _ _ (hHeld.alloc hHeld.size _) (fun hH2 => ?_)
    clear hK K
    refine normN ?_
    have h8 := al_new w_0 55 Z
    have l5_8 := (Array.getElem?_eq_some_iff.1 h5).1
    replace h5 := al_old (o := .cells Z 55 (0, 0)) h5
    have g8 := hHeld.size
    obtain ⟨Pa, e8⟩ : ∃ p, p = w_0.heap.size := ⟨_, rfl⟩
    rw [← e8] at h8 g8 l5_8 ⊢
    generalize w_0.alloc (.cells Z 55 (0, 0)) = w_1 at hH2 h8 h5 ⊢
    clear hHeld e8; have hHeld := hH2; clear hH2
    refine pureN 9 39 (bs 13 1023) ?_
    refine two_ (i := 10) (j := 11) (Ni := some 40) (Nj := some 8) (bs 13 2047) (bs 13 3071) rfl rfl rfl rfl (by kernel_rfl) (by decide) (by decide) (fun K hK => ?_) (fun K hK => ?_)
    ·skip
     refine value_ (w1 := w_1.alloc (.cells #[.slice A0 n c0, .slice An n cn, .slice Ao n co, .slice (some ⟨Pb, 0, none⟩) n n, .slice (some ⟨Pa, 0, none⟩) n n] 80 (0, 0))) (v := .pointer (some ⟨w_1.heap.size, 0, none⟩)) (by rfl) rfl (by go_simp; try rfl) ?_
     refine hK.out _ _ (hHeld.alloc hHeld.size _) (fun hH2 => ?_)
     clear hK K
     refine normN ?_
     have h10 := al_new w_1 80 #[.slice A0 n c0, .slice An n cn, .slice Ao n co, .slice (some ⟨Pb, 0, none⟩) n n, .slice (some ⟨Pa, 0, none⟩) n n]
     have l5_10 := (Array.getElem?_eq_some_iff.1 h5).1
     replace h5 := al_old (o := .cells #[.slice A0 n c0, .slice An n cn, .slice Ao n co, .slice (some ⟨Pb, 0, none⟩) n n, .slice (some ⟨Pa, 0, none⟩) n n] 80 (0, 0)) h5
     have l8_10 := (Array.getElem?_eq_some_iff.1 h8).1
     replace h8 := al_old (o := .cells #[.slice A0 n c0, .slice An n cn, .slice Ao n co, .slice (some ⟨Pb, 0, none⟩) n n, .slice (some ⟨Pa, 0, none⟩) n n] 80 (0, 0)) h8
     have g10 := hHeld.size
     obtain ⟨Bg, e10⟩ : ∃ p, p = w_1.heap.size := ⟨_, rfl⟩
     rw [← e10] at h10 g10 l5_10 l8_10 ⊢
     generalize w_1.alloc (.cells #[.slice A0 n c0, .slice An n cn, .slice Ao n co, .slice (some ⟨Pb, 0, none⟩) n n, .slice (some ⟨Pa, 0, none⟩) n n] 80 (0, 0)) = w_2 at hH2 h10 h5 h8 ⊢
     clear hHeld e10; have hHeld := hH2; clear hH2
     refine one_ (i := 11) (N := some 8) (bs 13 4095) rfl rfl (by kernel_rfl) (by decide) (fun K hK => ?_)
     refine value_ (w1 := w_2.alloc (.cells #[.pointer none] 58 (0, 0))) (v := .pointer (some ⟨w_2.heap.size, 0, none⟩)) (by rfl) rfl (by go_simp; try rfl) ?_
     refine hK.out _ _ (hHeld.alloc hHeld.size _) (fun hH2 => ?_)
     clear hK K
     refine normN ?_
     have h11 := al_new w_2 58 #[.pointer none]
     have l5_11 := (Array.getElem?_eq_some_iff.1 h5).1
     replace h5 := al_old (o := .cells #[.pointer none] 58 (0, 0)) h5
     have l8_11 := (Array.getElem?_eq_some_iff.1 h8).1
     replace h8 := al_old (o := .cells #[.pointer none] 58 (0, 0)) h8
     have l10_11 := (Array.getElem?_eq_some_iff.1 h10).1
     replace h10 := al_old (o := .cells #[.pointer none] 58 (0, 0)) h10
     have g11 := hHeld.size
     obtain ⟨Bx, e11⟩ : ∃ p, p = w_2.heap.size := ⟨_, rfl⟩
     rw [← e11] at h11 g11 l5_11 l8_11 l10_11 ⊢
     generalize w_2.alloc (.cells #[.pointer none] 58 (0, 0)) = w_3 at hH2 h11 h5 h8 h10 ⊢
     clear hHeld e11; have hHeld := hH2; clear hH2
     refine last_ (i := 12) (N := none) (bs 13 8191) rfl rfl (by kernel_rfl) (by decide) (fun K hK => ?_)
     have s0 : w_3.cell? ⟨Bx, 0, none⟩ = some (.pointer none) := by rw [cell_blk h11]; rfl
     have s1 : w_3.frozen? ⟨Bx, 0, none⟩ = false := blk_frozen h11 _
     refine skip_ (w1 := w_3.setCell ⟨Bx, 0, none⟩ (.pointer (some ⟨Bg, 0, none⟩))) (by rfl) rfl (by go_simp; try rfl) ?_
     refine hK.out _ _ ?_
     refine done_ (by kernel_rfl) ?_
     clear s0 s1 hK K
     rw [HZ.out] at h5 h8
     have hne : Pb ≠ Pa := by omega
     have hxg := blk_ne h10 h11 (by decide)
     have hxb := blk_ne h5 h11 (by decide)
     have hxa := blk_ne h8 h11 (by decide)
     have hg0 : GSt w3.heap.size (w_3.setCell ⟨Bx, 0, none⟩ (.pointer (some ⟨Bg, 0, none⟩))) Bx Bg Pb Pa #[.slice A0 n c0, .slice An n cn, .slice Ao n co, .slice (some ⟨Pb, 0, none⟩) n n, .slice (some ⟨Pa, 0, none⟩) n n] (List.replicate n 0) (List.replicate n 0) := ⟨(blk_set h11 0 _).trans rfl, (Below.heap_setCell _ _ _ Bg hxg).trans h10, (Below.heap_setCell _ _ _ Pb hxb).trans h5, (Below.heap_setCell _ _ _ Pa hxa).trans h8, hne, g11, g10, g5, g8⟩
     have hB0 := hHeld.setCell (p := ⟨Bx, 0, none⟩) g11 (.pointer (some ⟨Bg, 0, none⟩))
     have HG0 := Aside0.mk hg0
     have HB0 := Aside0.mk hB0
     clear hg0 hB0 hne hxg hxb hxa h5 h8 h10 h11 g5 g8 g10 g11 hHeld
     refine calm_out ?_
     go_wp2_with fail
     go_meet
     case rel => exact ⟨Bx, Bg, Pb, Pa, rfl, HG0, HB0⟩
    ·skip
     refine value_ (w1 := w_1.alloc (.cells #[.pointer none] 58 (0, 0))) (v := .pointer (some ⟨w_1.heap.size, 0, none⟩)) (by rfl) rfl (by go_simp; try rfl) ?_
     refine hK.out _ _ (hHeld.alloc hHeld.size _) (fun hH2 => ?_)
     clear hK K
     refine normN ?_
     have h11 := al_new w_1 58 #[.pointer none]
     have l5_11 := (Array.getElem?_eq_some_iff.1 h5).1
     replace h5 := al_old (o := .cells #[.pointer none] 58 (0, 0)) h5
     have l8_11 := (Array.getElem?_eq_some_iff.1 h8).1
     replace h8 := al_old (o := .cells #[.pointer none] 58 (0, 0)) h8
     have g11 := hHeld.size
     obtain ⟨Bx, e11⟩ : ∃ p, p = w_1.heap.size := ⟨_, rfl⟩
     rw [← e11] at h11 g11 l5_11 l8_11 ⊢
     generalize w_1.alloc (.cells #[.pointer none] 58 (0, 0)) = w_2 at hH2 h11 h5 h8 ⊢
     clear hHeld e11; have hHeld := hH2; clear hH2
     refine one_ (i := 10) (N := some 40) (bs 13 4095) rfl rfl (by kernel_rfl) (by decide) (fun K hK => ?_)
     refine value_ (w1 := w_2.alloc (.cells #[.slice A0 n c0, .slice An n cn, .slice Ao n co, .slice (some ⟨Pb, 0, none⟩) n n, .slice (some ⟨Pa, 0, none⟩) n n] 80 (0, 0))) (v := .pointer (some ⟨w_2.heap.size, 0, none⟩)) (by rfl) rfl (by go_simp; try rfl) ?_
     refine hK.out _ _ (hHeld.alloc hHeld.size _) (fun hH2 => ?_)
     clear hK K
     refine normN ?_
     have h10 := al_new w_2 80 #[.slice A0 n c0, .slice An n cn, .slice Ao n co, .slice (some ⟨Pb, 0, none⟩) n n, .slice (some ⟨Pa, 0, none⟩) n n]
     have l5_10 := (Array.getElem?_eq_some_iff.1 h5).1
     replace h5 := al_old (o := .cells #[.slice A0 n c0, .slice An n cn, .slice Ao n co, .slice (some ⟨Pb, 0, none⟩) n n, .slice (some ⟨Pa, 0, none⟩) n n] 80 (0, 0)) h5
     have l8_10 := (Array.getElem?_eq_some_iff.1 h8).1
     replace h8 := al_old (o := .cells #[.slice A0 n c0, .slice An n cn, .slice Ao n co, .slice (some ⟨Pb, 0, none⟩) n n, .slice (some ⟨Pa, 0, none⟩) n n] 80 (0, 0)) h8
     have l11_10 := (Array.getElem?_eq_some_iff.1 h11).1
     replace h11 := al_old (o := .cells #[.slice A0 n c0, .slice An n cn, .slice Ao n co, .slice (some ⟨Pb, 0, none⟩) n n, .slice (some ⟨Pa, 0, none⟩) n n] 80 (0, 0)) h11
     have g10 := hHeld.size
     obtain ⟨Bg, e10⟩ : ∃ p, p = w_2.heap.size := ⟨_, rfl⟩
     rw [← e10] at h10 g10 l5_10 l8_10 l11_10 ⊢
     generalize w_2.alloc (.cells #[.slice A0 n c0, .slice An n cn, .slice Ao n co, .slice (some ⟨Pb, 0, none⟩) n n, .slice (some ⟨Pa, 0, none⟩) n n] 80 (0, 0)) = w_3 at hH2 h10 h5 h8 h11 ⊢
     clear hHeld e10; have hHeld := hH2; clear hH2
     refine last_ (i := 12) (N := none) (bs 13 8191) rfl rfl (by kernel_rfl) (by decide) (fun K hK => ?_)
     have s0 : w_3.cell? ⟨Bx, 0, none⟩ = some (.pointer none) := by rw [cell_blk h11]; rfl
     have s1 : w_3.frozen? ⟨Bx, 0, none⟩ = false := blk_frozen h11 _
     refine skip_ (w1 := w_3.setCell ⟨Bx, 0, none⟩ (.pointer (some ⟨Bg, 0, none⟩))) (by rfl) rfl (by go_simp; try rfl) ?_
     refine hK.out _ _ ?_
     refine done_ (by kernel_rfl) ?_
     clear s0 s1 hK K
     rw [HZ.out] at h5 h8
     have hne : Pb ≠ Pa := by omega
     have hxg := blk_ne h10 h11 (by decide)
     have hxb := blk_ne h5 h11 (by decide)
     have hxa := blk_ne h8 h11 (by decide)
     have hg0 : GSt w3.heap.size (w_3.setCell ⟨Bx, 0, none⟩ (.pointer (some ⟨Bg, 0, none⟩))) Bx Bg Pb Pa #[.slice A0 n c0, .slice An n cn, .slice Ao n co, .slice (some ⟨Pb, 0, none⟩) n n, .slice (some ⟨Pa, 0, none⟩) n n] (List.replicate n 0) (List.replicate n 0) := ⟨(blk_set h11 0 _).trans rfl, (Below.heap_setCell _ _ _ Bg hxg).trans h10, (Below.heap_setCell _ _ _ Pb hxb).trans h5, (Below.heap_setCell _ _ _ Pa hxa).trans h8, hne, g11, g10, g5, g8⟩
     have hB0 := hHeld.setCell (p := ⟨Bx, 0, none⟩) g11 (.pointer (some ⟨Bg, 0, none⟩))
     have HG0 := Aside0.mk hg0
     have HB0 := Aside0.mk hB0
     clear hg0 hB0 hne hxg hxb hxa h5 h8 h10 h11 g5 g8 g10 g11 hHeld
     refine calm_out ?_
     go_wp2_with fail
     go_meet
     case rel => exact ⟨Bx, Bg, Pb, Pa, rfl, HG0, HB0⟩
   ·skip
    refine value_ (w1 := w_0.alloc (.cells #[.pointer none] 58 (0, 0))) (v := .pointer (some ⟨w_0.heap.size, 0, none⟩)) (by rfl) rfl (by go_simp; try rfl) ?_
    refine hK.out _ _ (hHeld.alloc hHeld.size _) (fun hH2 => ?_)
    clear hK K
    refine normN ?_
    have h11 := al_new w_0 58 #[.pointer none]
    have l5_11 := (Array.getElem?_eq_some_iff.1 h5).1
    replace h5 := al_old (o := .cells #[.pointer none] 58 (0, 0)) h5
    have g11 := hHeld.size
    obtain ⟨Bx, e11⟩ : ∃ p, p = w_0.heap.size := ⟨_, rfl⟩
    rw [← e11] at h11 g11 l5_11 ⊢
    generalize w_0.alloc (.cells #[.pointer none] 58 (0, 0)) = w_1 at hH2 h11 h5 ⊢
    clear hHeld e11; have hHeld := hH2; clear hH2
    refine one_ (i := 8) (N := some 38) (bs 13 2559) rfl rfl (by kernel_rfl) (by decide) (fun K hK => ?_)
    refine value_ (w1 := w_1.alloc (.cells Z 55 (0, 0))) (v := .slice (some ⟨w_1.heap.size, 0, none⟩) n n) (by rfl) rfl (by go_simp; try rfl) ?_
    refine hK.out _ _ (hHeld.alloc hHeld.size _) (fun hH2 => ?_)
    clear hK K
    refine normN ?_
    have h8 := al_new w_1 55 Z
    have l5_8 := (Array.getElem?_eq_some_iff.1 h5).1
    replace h5 := al_old (o := .cells Z 55 (0, 0)) h5
    have l11_8 := (Array.getElem?_eq_some_iff.1 h11).1
    replace h11 := al_old (o := .cells Z 55 (0, 0)) h11
    have g8 := hHeld.size
    obtain ⟨Pa, e8⟩ : ∃ p, p = w_1.heap.size := ⟨_, rfl⟩
    rw [← e8] at h8 g8 l5_8 l11_8 ⊢
    generalize w_1.alloc (.cells Z 55 (0, 0)) = w_2 at hH2 h8 h5 h11 ⊢
    clear hHeld e8; have hHeld := hH2; clear hH2
    refine pureN 9 39 (bs 13 3071) ?_
    refine one_ (i := 10) (N := some 40) (bs 13 4095) rfl rfl (by kernel_rfl) (by decide) (fun K hK => ?_)
    refine value_ (w1 := w_2.alloc (.cells #[.slice A0 n c0, .slice An n cn, .slice Ao n co, .slice (some ⟨Pb, 0, none⟩) n n, .slice (some ⟨Pa, 0, none⟩) n n] 80 (0, 0))) (v := .pointer (some ⟨w_2.heap.size, 0, none⟩)) (by rfl) rfl (by go_simp; try rfl) ?_
    refine hK.out _ _ (hHeld.alloc hHeld.size _) (fun hH2 => ?_)
    clear hK K
    refine normN ?_
    have h10 := al_new w_2 80 #[.slice A0 n c0, .slice An n cn, .slice Ao n co, .slice (some ⟨Pb, 0, none⟩) n n, .slice (some ⟨Pa, 0, none⟩) n n]
    have l5_10 := (Array.getElem?_eq_some_iff.1 h5).1
    replace h5 := al_old (o := .cells #[.slice A0 n c0, .slice An n cn, .slice Ao n co, .slice (some ⟨Pb, 0, none⟩) n n, .slice (some ⟨Pa, 0, none⟩) n n] 80 (0, 0)) h5
    have l8_10 := (Array.getElem?_eq_some_iff.1 h8).1
    replace h8 := al_old (o := .cells #[.slice A0 n c0, .slice An n cn, .slice Ao n co, .slice (some ⟨Pb, 0, none⟩) n n, .slice (some ⟨Pa, 0, none⟩) n n] 80 (0, 0)) h8
    have l11_10 := (Array.getElem?_eq_some_iff.1 h11).1
    replace h11 := al_old (o := .cells #[.slice A0 n c0, .slice An n cn, .slice Ao n co, .slice (some ⟨Pb, 0, none⟩) n n, .slice (some ⟨Pa, 0, none⟩) n n] 80 (0, 0)) h11
    have g10 := hHeld.size
    obtain ⟨Bg, e10⟩ : ∃ p, p = w_2.heap.size := ⟨_, rfl⟩
    rw [← e10] at h10 g10 l5_10 l8_10 l11_10 ⊢
    generalize w_2.alloc (.cells #[.slice A0 n c0, .slice An n cn, .slice Ao n co, .slice (some ⟨Pb, 0, none⟩) n n, .slice (some ⟨Pa, 0, none⟩) n n] 80 (0, 0)) = w_3 at hH2 h10 h5 h8 h11 ⊢
    clear hHeld e10; have hHeld := hH2; clear hH2
    refine last_ (i := 12) (N := none) (bs 13 8191) rfl rfl (by kernel_rfl) (by decide) (fun K hK => ?_)
    have s0 : w_3.cell? ⟨Bx, 0, none⟩ = some (.pointer none) := by rw [cell_blk h11]; rfl
    have s1 : w_3.frozen? ⟨Bx, 0, none⟩ = false := blk_frozen h11 _
    refine skip_ (w1 := w_3.setCell ⟨Bx, 0, none⟩ (.pointer (some ⟨Bg, 0, none⟩))) (by rfl) rfl (by go_simp; try rfl) ?_
    refine hK.out _ _ ?_
    refine done_ (by kernel_rfl) ?_
    clear s0 s1 hK K
    rw [HZ.out] at h5 h8
    have hne : Pb ≠ Pa := by omega
    have hxg := blk_ne h10 h11 (by decide)
    have hxb := blk_ne h5 h11 (by decide)
    have hxa := blk_ne h8 h11 (by decide)
    have hg0 : GSt w3.heap.size (w_3.setCell ⟨Bx, 0, none⟩ (.pointer (some ⟨Bg, 0, none⟩))) Bx Bg Pb Pa #[.slice A0 n c0, .slice An n cn, .slice Ao n co, .slice (some ⟨Pb, 0, none⟩) n n, .slice (some ⟨Pa, 0, none⟩) n n] (List.replicate n 0) (List.replicate n 0) := ⟨(blk_set h11 0 _).trans rfl, (Below.heap_setCell _ _ _ Bg hxg).trans h10, (Below.heap_setCell _ _ _ Pb hxb).trans h5, (Below.heap_setCell _ _ _ Pa hxa).trans h8, hne, g11, g10, g5, g8⟩
    have hB0 := hHeld.setCell (p := ⟨Bx, 0, none⟩) g11 (.pointer (some ⟨Bg, 0, none⟩))
    have HG0 := Aside0.mk hg0
    have HB0 := Aside0.mk hB0
    clear hg0 hB0 hne hxg hxb hxa h5 h8 h10 h11 g5 g8 g10 g11 hHeld
    refine calm_out ?_
    go_wp2_with fail
    go_meet
    case rel => exact ⟨Bx, Bg, Pb, Pa, rfl, HG0, HB0⟩
  ·skip
   refine value_ (w1 := wa.alloc (.cells Z 55 (0, 0))) (v := .slice (some ⟨wa.heap.size, 0, none⟩) n n) (by rfl) rfl (by go_simp; try rfl) ?_
   refine hK.out _ _ (hHeld.alloc hHeld.size _) (fun hH2 => ?_)
   clear hK K
   refine normN ?_
   have h8 := al_new wa 55 Z
   have g8 := hHeld.size
   obtain ⟨Pa, e8⟩ : ∃ p, p = wa.heap.size := ⟨_, rfl⟩
   rw [← e8] at h8 g8  ⊢
   generalize wa.alloc (.cells Z 55 (0, 0)) = w_0 at hH2 h8  ⊢
   clear hHeld e8; have hHeld := hH2; clear hH2
   refine two_ (i := 5) (j := 11) (Ni := some 35) (Nj := some 8) (bs 13 511) (bs 13 2527) rfl rfl rfl rfl (by kernel_rfl) (by decide) (by decide) (fun K hK => ?_) (fun K hK => ?_)
   ·skip
    refine value_ (w1 := w_0.alloc (.cells Z 55 (0, 0))) (v := .slice (some ⟨w_0.heap.size, 0, none⟩) n n) (by rfl) rfl (by go_simp; try rfl) ?_
    refine hK.out _ _ (hHeld.alloc hHeld.size _) (fun hH2 => ?_)
    clear hK K
    refine normN ?_
    have h5 := al_new w_0 55 Z
    have l8_5 := (Array.getElem?_eq_some_iff.1 h8).1
    replace h8 := al_old (o := .cells Z 55 (0, 0)) h8
    have g5 := hHeld.size
    obtain ⟨Pb, e5⟩ : ∃ p, p = w_0.heap.size := ⟨_, rfl⟩
    rw [← e5] at h5 g5 l8_5 ⊢
    generalize w_0.alloc (.cells Z 55 (0, 0)) = w_1 at hH2 h5 h8 ⊢
    clear hHeld e5; have hHeld := hH2; clear hH2
    refine pureN 9 39 (bs 13 1023) ?_
    refine two_ (i := 10) (j := 11) (Ni := some 40) (Nj := some 8) (bs 13 2047) (bs 13 3071) rfl rfl rfl rfl (by kernel_rfl) (by decide) (by decide) (fun K hK => ?_) (fun K hK => ?_)
    ·skip
     refine value_ (w1 := w_1.alloc (.cells #[.slice A0 n c0, .slice An n cn, .slice Ao n co, .slice (some ⟨Pb, 0, none⟩) n n, .slice (some ⟨Pa, 0, none⟩) n n] 80 (0, 0))) (v := .pointer (some ⟨w_1.heap.size, 0, none⟩)) (by rfl) rfl (by go_simp; try rfl) ?_
     refine hK.out _ _ (hHeld.alloc hHeld.size _) (fun hH2 => ?_)
     clear hK K
     refine normN ?_
     have h10 := al_new w_1 80 #[.slice A0 n c0, .slice An n cn, .slice Ao n co, .slice (some ⟨Pb, 0, none⟩) n n, .slice (some ⟨Pa, 0, none⟩) n n]
     have l5_10 := (Array.getElem?_eq_some_iff.1 h5).1
     replace h5 := al_old (o := .cells #[.slice A0 n c0, .slice An n cn, .slice Ao n co, .slice (some ⟨Pb, 0, none⟩) n n, .slice (some ⟨Pa, 0, none⟩) n n] 80 (0, 0)) h5
     have l8_10 := (Array.getElem?_eq_some_iff.1 h8).1
     replace h8 := al_old (o := .cells #[.slice A0 n c0, .slice An n cn, .slice Ao n co, .slice (some ⟨Pb, 0, none⟩) n n, .slice (some ⟨Pa, 0, none⟩) n n] 80 (0, 0)) h8
     have g10 := hHeld.size
     obtain ⟨Bg, e10⟩ : ∃ p, p = w_1.heap.size := ⟨_, rfl⟩
     rw [← e10] at h10 g10 l5_10 l8_10 ⊢
     generalize w_1.alloc (.cells #[.slice A0 n c0, .slice An n cn, .slice Ao n co, .slice (some ⟨Pb, 0, none⟩) n n, .slice (some ⟨Pa, 0, none⟩) n n] 80 (0, 0)) = w_2 at hH2 h10 h5 h8 ⊢
     clear hHeld e10; have hHeld := hH2; clear hH2
     refine one_ (i := 11) (N := some 8) (bs 13 4095) rfl rfl (by kernel_rfl) (by decide) (fun K hK => ?_)
     refine value_ (w1 := w_2.alloc (.cells #[.pointer none] 58 (0, 0))) (v := .pointer (some ⟨w_2.heap.size, 0, none⟩)) (by rfl) rfl (by go_simp; try rfl) ?_
     refine hK.out _ _ (hHeld.alloc hHeld.size _) (fun hH2 => ?_)
     clear hK K
     refine normN ?_
     have h11 := al_new w_2 58 #[.pointer none]
     have l5_11 := (Array.getElem?_eq_some_iff.1 h5).1
     replace h5 := al_old (o := .cells #[.pointer none] 58 (0, 0)) h5
     have l8_11 := (Array.getElem?_eq_some_iff.1 h8).1
     replace h8 := al_old (o := .cells #[.pointer none] 58 (0, 0)) h8
     have l10_11 := (Array.getElem?_eq_some_iff.1 h10).1
     replace h10 := al_old (o := .cells #[.pointer none] 58 (0, 0)) h10
     have g11 := hHeld.size
     obtain ⟨Bx, e11⟩ : ∃ p, p = w_2.heap.size := ⟨_, rfl⟩
     rw [← e11] at h11 g11 l5_11 l8_11 l10_11 ⊢
     generalize w_2.alloc (.cells #[.pointer none] 58 (0, 0)) = w_3 at hH2 h11 h5 h8 h10 ⊢
     clear hHeld e11; have hHeld := hH2; clear hH2
     refine last_ (i := 12) (N := none) (bs 13 8191) rfl rfl (by kernel_rfl) (by decide) (fun K hK => ?_)
     have s0 : w_3.cell? ⟨Bx, 0, none⟩ = some (.pointer none) := by rw [cell_blk h11]; rfl
     have s1 : w_3.frozen? ⟨Bx, 0, none⟩ = false := blk_frozen h11 _
     refine skip_ (w1 := w_3.setCell ⟨Bx, 0, none⟩ (.pointer (some ⟨Bg, 0, none⟩))) (by rfl) rfl (by go_simp; try rfl) ?_
     refine hK.out _ _ ?_
     refine done_ (by kernel_rfl) ?_
     clear s0 s1 hK K
     rw [HZ.out] at h5 h8
     have hne : Pb ≠ Pa := by omega
     have hxg := blk_ne h10 h11 (by decide)
     have hxb := blk_ne h5 h11 (by decide)
     have hxa := blk_ne h8 h11 (by decide)
     have hg0 : GSt w3.heap.size (w_3.setCell ⟨Bx, 0, none⟩ (.pointer (some ⟨Bg, 0, none⟩))) Bx Bg Pb Pa #[.slice A0 n c0, .slice An n cn, .slice Ao n co, .slice (some ⟨Pb, 0, none⟩) n n, .slice (some ⟨Pa, 0, none⟩) n n] (List.replicate n 0) (List.replicate n 0) := ⟨(blk_set h11 0 _).trans rfl, (Below.heap_setCell _ _ _ Bg hxg).trans h10, (Below.heap_setCell _ _ _ Pb hxb).trans h5, (Below.heap_setCell _ _ _ Pa hxa).trans h8, hne, g11, g10, g5, g8⟩
     have hB0 := hHeld.setCell (p := ⟨Bx, 0, none⟩) g11 (.pointer (some ⟨Bg, 0, none⟩))
     have HG0 := Aside0.mk hg0
     have HB0 := Aside0.mk hB0
     clear hg0 hB0 hne hxg hxb hxa h5 h8 h10 h11 g5 g8 g10 g11 hHeld
     refine calm_out ?_
     go_wp2_with fail
     go_meet
     case rel => exact ⟨Bx, Bg, Pb, Pa, rfl, HG0, HB0⟩
    ·skip
     refine value_ (w1 := w_1.alloc (.cells #[.pointer none] 58 (0, 0))) (v := .pointer (some ⟨w_1.heap.size, 0, none⟩)) (by rfl) rfl (by go_simp; try rfl) ?_
     refine hK.out _ _ (hHeld.alloc hHeld.size _) (fun hH2 => ?_)
     clear hK K
     refine normN ?_
     have h11 := al_new w_1 58 #[.pointer none]
     have l5_11 := (Array.getElem?_eq_some_iff.1 h5).1
     replace h5 := al_old (o := .cells #[.pointer none] 58 (0, 0)) h5
     have l8_11 := (Array.getElem?_eq_some_iff.1 h8).1
     replace h8 := al_old (o := .cells #[.pointer none] 58 (0, 0)) h8
     have g11 := hHeld.size
     obtain ⟨Bx, e11⟩ : ∃ p, p = w_1.heap.size := ⟨_, rfl⟩
     rw [← e11] at h11 g11 l5_11 l8_11 ⊢
     generalize w_1.alloc (.cells #[.pointer none] 58 (0, 0)) = w_2 at hH2 h11 h5 h8 ⊢
     clear hHeld e11; have hHeld := hH2; clear hH2
     refine one_ (i := 10) (N := some 40) (bs 13 4095) rfl rfl (by kernel_rfl) (by decide) (fun K hK => ?_)
     refine value_ (w1 := w_2.alloc (.cells #[.slice A0 n c0, .slice An n cn, .slice Ao n co, .slice (some ⟨Pb, 0, none⟩) n n, .slice (some ⟨Pa, 0, none⟩) n n] 80 (0, 0))) (v := .pointer (some ⟨w_2.heap.size, 0, none⟩)) (by rfl) rfl (by go_simp; try rfl) ?_
     refine hK.out _ _ (hHeld.alloc hHeld.size _) (fun hH2 => ?_)
     clear hK K
     refine normN ?_
     have h10 := al_new w_2 80 #[.slice A0 n c0, .slice An n cn, .slice Ao n co, .slice (some ⟨Pb, 0, none⟩) n n, .slice (some ⟨Pa, 0, none⟩) n n]
     have l5_10 := (Array.getElem?_eq_some_iff.1 h5).1
     replace h5 := al_old (o := .cells #[.slice A0 n c0, .slice An n cn, .slice Ao n co, .slice (some ⟨Pb, 0, none⟩) n n, .slice (some ⟨Pa, 0, none⟩) n n] 80 (0, 0)) h5
     have l8_10 := (Array.getElem?_eq_some_iff.1 h8).1
     replace h8 := al_old (o := .cells #[.slice A0 n c0, .slice An n cn, .slice Ao n co, .slice (some ⟨Pb, 0, none⟩) n n, .slice (some ⟨Pa, 0, none⟩) n n] 80 (0, 0)) h8
     have l11_10 := (Array.getElem?_eq_some_iff.1 h11).1
     replace h11 := al_old (o := .cells #[.slice A0 n c0, .slice An n cn, .slice Ao n co, .slice (some ⟨Pb, 0, none⟩) n n, .slice (some ⟨Pa, 0, none⟩) n n] 80 (0, 0)) h11
     have g10 := hHeld.size
     obtain ⟨Bg, e10⟩ : ∃ p, p = w_2.heap.size := ⟨_, rfl⟩
     rw [← e10] at h10 g10 l5_10 l8_10 l11_10 ⊢
     generalize w_2.alloc (.cells #[.slice A0 n c0, .slice An n cn, .slice Ao n co, .slice (some ⟨Pb, 0, none⟩) n n, .slice (some ⟨Pa, 0, none⟩) n n] 80 (0, 0)) = w_3 at hH2 h10 h5 h8 h11 ⊢
     clear hHeld e10; have hHeld := hH2; clear hH2
     refine last_ (i := 12) (N := none) (bs 13 8191) rfl rfl (by kernel_rfl) (by decide) (fun K hK => ?_)
     have s0 : w_3.cell? ⟨Bx, 0, none⟩ = some (.pointer none) := by rw [cell_blk h11]; rfl
     have s1 : w_3.frozen? ⟨Bx, 0, none⟩ = false := blk_frozen h11 _
     refine skip_ (w1 := w_3.setCell ⟨Bx, 0, none⟩ (.pointer (some ⟨Bg, 0, none⟩))) (by rfl) rfl (by go_simp; try rfl) ?_
     refine hK.out _ _ ?_
     refine done_ (by kernel_rfl) ?_
     clear s0 s1 hK K
     rw [HZ.out] at h5 h8
     have hne : Pb ≠ Pa := by omega
     have hxg := blk_ne h10 h11 (by decide)
     have hxb := blk_ne h5 h11 (by decide)
     have hxa := blk_ne h8 h11 (by decide)
     have hg0 : GSt w3.heap.size (w_3.setCell ⟨Bx, 0, none⟩ (.pointer (some ⟨Bg, 0, none⟩))) Bx Bg Pb Pa #[.slice A0 n c0, .slice An n cn, .slice Ao n co, .slice (some ⟨Pb, 0, none⟩) n n, .slice (some ⟨Pa, 0, none⟩) n n] (List.replicate n 0) (List.replicate n 0) := ⟨(blk_set h11 0 _).trans rfl, (Below.heap_setCell _ _ _ Bg hxg).trans h10, (Below.heap_setCell _ _ _ Pb hxb).trans h5, (Below.heap_setCell _ _ _ Pa hxa).trans h8, hne, g11, g10, g5, g8⟩
     have hB0 := hHeld.setCell (p := ⟨Bx, 0, none⟩) g11 (.pointer (some ⟨Bg, 0, none⟩))
     have HG0 := Aside0.mk hg0
     have HB0 := Aside0.mk hB0
     clear hg0 hB0 hne hxg hxb hxa h5 h8 h10 h11 g5 g8 g10 g11 hHeld
     refine calm_out ?_
     go_wp2_with fail
     go_meet
     case rel => exact ⟨Bx, Bg, Pb, Pa, rfl, HG0, HB0⟩
   ·skip
    refine value_ (w1 := w_0.alloc (.cells #[.pointer none] 58 (0, 0))) (v := .pointer (some ⟨w_0.heap.size, 0, none⟩)) (by rfl) rfl (by go_simp; try rfl) ?_
    refine hK.out _ _ (hHeld.alloc hHeld.size _) (fun hH2 => ?_)
    clear hK K
    refine normN ?_
    have h11 := al_new w_0 58 #[.pointer none]
    have l8_11 := (Array.getElem?_eq_some_iff.1 h8).1
    replace h8 := al_old (o := .cells #[.pointer none] 58 (0, 0)) h8
    have g11 := hHeld.size
    obtain ⟨Bx, e11⟩ : ∃ p, p = w_0.heap.size := ⟨_, rfl⟩
    rw [← e11] at h11 g11 l8_11 ⊢
    generalize w_0.alloc (.cells #[.pointer none] 58 (0, 0)) = w_1 at hH2 h11 h8 ⊢
    clear hHeld e11; have hHeld := hH2; clear hH2
    refine one_ (i := 5) (N := some 35) (bs 13 2559) rfl rfl (by kernel_rfl) (by decide) (fun K hK => ?_)
    refine value_ (w1 := w_1.alloc (.cells Z 55 (0, 0))) (v := .slice (some ⟨w_1.heap.size, 0, none⟩) n n) (by rfl) rfl (by go_simp; try rfl) ?_
    refine hK.out _ _ (hHeld.alloc hHeld.size _) (fun hH2 => ?_)
    clear hK K
    refine normN ?_
    have h5 := al_new w_1 55 Z
    have l8_5 := (Array.getElem?_eq_some_iff.1 h8).1
    replace h8 := al_old (o := .cells Z 55 (0, 0)) h8
    have l11_5 := (Array.getElem?_eq_some_iff.1 h11).1
    replace h11 := al_old (o := .cells Z 55 (0, 0)) h11
    have g5 := hHeld.size
    obtain ⟨Pb, e5⟩ : ∃ p, p = w_1.heap.size := ⟨_, rfl⟩
    rw [← e5] at h5 g5 l8_5 l11_5 ⊢
    generalize w_1.alloc (.cells Z 55 (0, 0)) = w_2 at hH2 h5 h8 h11 ⊢
    clear hHeld e5; have hHeld := hH2; clear hH2
    refine pureN 9 39 (bs 13 3071) ?_
    refine one_ (i := 10) (N := some 40) (bs 13 4095) rfl rfl (by kernel_rfl) (by decide) (fun K hK => ?_)
    refine value_ (w1 := w_2.alloc (.cells #[.slice A0 n c0, .slice An n cn, .slice Ao n co, .slice (some ⟨Pb, 0, none⟩) n n, .slice (some ⟨Pa, 0, none⟩) n n] 80 (0, 0))) (v := .pointer (some ⟨w_2.heap.size, 0, none⟩)) (by rfl) rfl (by go_simp; try rfl) ?_
    refine hK.out _ _ (hHeld.alloc hHeld.size _) (fun hH2 => ?_)
    clear hK K
    refine normN ?_
    have h10 := al_new w_2 80 #[.slice A0 n c0, .slice An n cn, .slice Ao n co, .slice (some ⟨Pb, 0, none⟩) n n, .slice (some ⟨Pa, 0, none⟩) n n]
    have l5_10 := (Array.getElem?_eq_some_iff.1 h5).1
    replace h5 := al_old (o := .cells #[.slice A0 n c0, .slice An n cn, .slice Ao n co, .slice (some ⟨Pb, 0, none⟩) n n, .slice (some ⟨Pa, 0, none⟩) n n] 80 (0, 0)) h5
    have l8_10 := (Array.getElem?_eq_some_iff.1 h8).1
    replace h8 := al_old (o := .cells #[.slice A0 n c0, .slice An n cn, .slice Ao n co, .slice (some ⟨Pb, 0, none⟩) n n, .slice (some ⟨Pa, 0, none⟩) n n] 80 (0, 0)) h8
    have l11_10 := (Array.getElem?_eq_some_iff.1 h11).1
    replace h11 := al_old (o := .cells #[.slice A0 n c0, .slice An n cn, .slice Ao n co, .slice (some ⟨Pb, 0, none⟩) n n, .slice (some ⟨Pa, 0, none⟩) n n] 80 (0, 0)) h11
    have g10 := hHeld.size
    obtain ⟨Bg, e10⟩ : ∃ p, p = w_2.heap.size := ⟨_, rfl⟩
    rw [← e10] at h10 g10 l5_10 l8_10 l11_10 ⊢
    generalize w_2.alloc (.cells #[.slice A0 n c0, .slice An n cn, .slice Ao n co, .slice (some ⟨Pb, 0, none⟩) n n, .slice (some ⟨Pa, 0, none⟩) n n] 80 (0, 0)) = w_3 at hH2 h10 h5 h8 h11 ⊢
    clear hHeld e10; have hHeld := hH2; clear hH2
    refine last_ (i := 12) (N := none) (bs 13 8191) rfl rfl (by kernel_rfl) (by decide) (fun K hK => ?_)
    have s0 : w_3.cell? ⟨Bx, 0, none⟩ = some (.pointer none) := by rw [cell_blk h11]; rfl
    have s1 : w_3.frozen? ⟨Bx, 0, none⟩ = false := blk_frozen h11 _
    refine skip_ (w1 := w_3.setCell ⟨Bx, 0, none⟩ (.pointer (some ⟨Bg, 0, none⟩))) (by rfl) rfl (by go_simp; try rfl) ?_
    refine hK.out _ _ ?_
    refine done_ (by kernel_rfl) ?_
    clear s0 s1 hK K
    rw [HZ.out] at h5 h8
    have hne : Pb ≠ Pa := by omega
    have hxg := blk_ne h10 h11 (by decide)
    have hxb := blk_ne h5 h11 (by decide)
    have hxa := blk_ne h8 h11 (by decide)
    have hg0 : GSt w3.heap.size (w_3.setCell ⟨Bx, 0, none⟩ (.pointer (some ⟨Bg, 0, none⟩))) Bx Bg Pb Pa #[.slice A0 n c0, .slice An n cn, .slice Ao n co, .slice (some ⟨Pb, 0, none⟩) n n, .slice (some ⟨Pa, 0, none⟩) n n] (List.replicate n 0) (List.replicate n 0) := ⟨(blk_set h11 0 _).trans rfl, (Below.heap_setCell _ _ _ Bg hxg).trans h10, (Below.heap_setCell _ _ _ Pb hxb).trans h5, (Below.heap_setCell _ _ _ Pa hxa).trans h8, hne, g11, g10, g5, g8⟩
    have hB0 := hHeld.setCell (p := ⟨Bx, 0, none⟩) g11 (.pointer (some ⟨Bg, 0, none⟩))
    have HG0 := Aside0.mk hg0
    have HB0 := Aside0.mk hB0
    clear hg0 hB0 hne hxg hxb hxa h5 h8 h10 h11 g5 g8 g10 g11 hHeld
    refine calm_out ?_
    go_wp2_with fail
    go_meet
    case rel => exact ⟨Bx, Bg, Pb, Pa, rfl, HG0, HB0⟩
  ·skip
   refine value_ (w1 := wa.alloc (.cells #[.pointer none] 58 (0, 0))) (v := .pointer (some ⟨wa.heap.size, 0, none⟩)) (by rfl) rfl (by go_simp; try rfl) ?_
   refine hK.out _ _ (hHeld.alloc hHeld.size _) (fun hH2 => ?_)
   clear hK K
   refine normN ?_
   have h11 := al_new wa 58 #[.pointer none]
   have g11 := hHeld.size
   obtain ⟨Bx, e11⟩ : ∃ p, p = wa.heap.size := ⟨_, rfl⟩
   rw [← e11] at h11 g11  ⊢
   generalize wa.alloc (.cells #[.pointer none] 58 (0, 0)) = w_0 at hH2 h11  ⊢
   clear hHeld e11; have hHeld := hH2; clear hH2
   refine two_ (i := 5) (j := 8) (Ni := some 35) (Nj := some 38) (bs 13 2303) (bs 13 2527) rfl rfl rfl rfl (by kernel_rfl) (by decide) (by decide) (fun K hK => ?_) (fun K hK => ?_)
   ·skip
    refine value_ (w1 := w_0.alloc (.cells Z 55 (0, 0))) (v := .slice (some ⟨w_0.heap.size, 0, none⟩) n n) (by rfl) rfl (by go_simp; try rfl) ?_
    refine hK.out _ _ (hHeld.alloc hHeld.size _) (fun hH2 => ?_)
    clear hK K
    refine normN ?_
    have h5 := al_new w_0 55 Z
    have l11_5 := (Array.getElem?_eq_some_iff.1 h11).1
    replace h11 := al_old (o := .cells Z 55 (0, 0)) h11
    have g5 := hHeld.size
    obtain ⟨Pb, e5⟩ : ∃ p, p = w_0.heap.size := ⟨_, rfl⟩
    rw [← e5] at h5 g5 l11_5 ⊢
    generalize w_0.alloc (.cells Z 55 (0, 0)) = w_1 at hH2 h5 h11 ⊢
    clear hHeld e5; have hHeld := hH2; clear hH2
    refine one_ (i := 8) (N := some 38) (bs 13 2559) rfl rfl (by kernel_rfl) (by decide) (fun K hK => ?_)
    refine value_ (w1 := w_1.alloc (.cells Z 55 (0, 0))) (v := .slice (some ⟨w_1.heap.size, 0, none⟩) n n) (by rfl) rfl (by go_simp; try rfl) ?_
    refine hK.out _ _ (hHeld.alloc hHeld.size _) (fun hH2 => ?_)
    clear hK K
    refine normN ?_
    have h8 := al_new w_1 55 Z
    have l5_8 := (Array.getElem?_eq_some_iff.1 h5).1
    replace h5 := al_old (o := .cells Z 55 (0, 0)) h5
    have l11_8 := (Array.getElem?_eq_some_iff.1 h11).1
    replace h11 := al_old (o := .cells Z 55 (0, 0)) h11
    have g8 := hHeld.size
    obtain ⟨Pa, e8⟩ : ∃ p, p = w_1.heap.size := ⟨_, rfl⟩
    rw [← e8] at h8 g8 l5_8 l11_8 ⊢
    generalize w_1.alloc (.cells Z 55 (0, 0)) = w_2 at hH2 h8 h5 h11 ⊢
    clear hHeld e8; have hHeld := hH2; clear hH2
    refine pureN 9 39 (bs 13 3071) ?_
    refine one_ (i := 10) (N := some 40) (bs 13 4095) rfl rfl (by kernel_rfl) (by decide) (fun K hK => ?_)
    refine value_ (w1 := w_2.alloc (.cells #[.slice A0 n c0, .slice An n cn, .slice Ao n co, .slice (some ⟨Pb, 0, none⟩) n n, .slice (some ⟨Pa, 0, none⟩) n n] 80 (0, 0))) (v := .pointer (some ⟨w_2.heap.size, 0, none⟩)) (by rfl) rfl (by go_simp; try rfl) ?_
    refine hK.out _ _ (hHeld.alloc hHeld.size _) (fun hH2 => ?_)
    clear hK K
    refine normN ?_
    have h10 := al_new w_2 80 #[.slice A0 n c0, .slice An n cn, .slice Ao n co, .slice (some ⟨Pb, 0, none⟩) n n, .slice (some ⟨Pa, 0, none⟩) n n]
    have l5_10 := (Array.getElem?_eq_some_iff.1 h5).1
    replace h5 := al_old (o := .cells #[.slice A0 n c0, .slice An n cn, .slice Ao n co, .slice (some ⟨Pb, 0, none⟩) n n, .slice (some ⟨Pa, 0, none⟩) n n] 80 (0, 0)) h5
    have l8_10 := (Array.getElem?_eq_some_iff.1 h8).1
    replace h8 := al_old (o := .cells #[.slice A0 n c0, .slice An n cn, .slice Ao n co, .slice (some ⟨Pb, 0, none⟩) n n, .slice (some ⟨Pa, 0, none⟩) n n] 80 (0, 0)) h8
    have l11_10 := (Array.getElem?_eq_some_iff.1 h11).1
    replace h11 := al_old (o := .cells #[.slice A0 n c0, .slice An n cn, .slice Ao n co, .slice (some ⟨Pb, 0, none⟩) n n, .slice (some ⟨Pa, 0, none⟩) n n] 80 (0, 0)) h11
    have g10 := hHeld.size
    obtain ⟨Bg, e10⟩ : ∃ p, p = w_2.heap.size := ⟨_, rfl⟩
    rw [← e10] at h10 g10 l5_10 l8_10 l11_10 ⊢
    generalize w_2.alloc (.cells #[.slice A0 n c0, .slice An n cn, .slice Ao n co, .slice (some ⟨Pb, 0, none⟩) n n, .slice (some ⟨Pa, 0, none⟩) n n] 80 (0, 0)) = w_3 at hH2 h10 h5 h8 h11 ⊢
    clear hHeld e10; have hHeld := hH2; clear hH2
    refine last_ (i := 12) (N := none) (bs 13 8191) rfl rfl (by kernel_rfl) (by decide) (fun K hK => ?_)
    have s0 : w_3.cell? ⟨Bx, 0, none⟩ = some (.pointer none) := by rw [cell_blk h11]; rfl
    have s1 : w_3.frozen? ⟨Bx, 0, none⟩ = false := blk_frozen h11 _
    refine skip_ (w1 := w_3.setCell ⟨Bx, 0, none⟩ (.pointer (some ⟨Bg, 0, none⟩))) (by rfl) rfl (by go_simp; try rfl) ?_
    refine hK.out _ _ ?_
    refine done_ (by kernel_rfl) ?_
    clear s0 s1 hK K
    rw [HZ.out] at h5 h8
    have hne : Pb ≠ Pa := by omega
    have hxg := blk_ne h10 h11 (by decide)
    have hxb := blk_ne h5 h11 (by decide)
    have hxa := blk_ne h8 h11 (by decide)
    have hg0 : GSt w3.heap.size (w_3.setCell ⟨Bx, 0, none⟩ (.pointer (some ⟨Bg, 0, none⟩))) Bx Bg Pb Pa #[.slice A0 n c0, .slice An n cn, .slice Ao n co, .slice (some ⟨Pb, 0, none⟩) n n, .slice (some ⟨Pa, 0, none⟩) n n] (List.replicate n 0) (List.replicate n 0) := ⟨(blk_set h11 0 _).trans rfl, (Below.heap_setCell _ _ _ Bg hxg).trans h10, (Below.heap_setCell _ _ _ Pb hxb).trans h5, (Below.heap_setCell _ _ _ Pa hxa).trans h8, hne, g11, g10, g5, g8⟩
    have hB0 := hHeld.setCell (p := ⟨Bx, 0, none⟩) g11 (.pointer (some ⟨Bg, 0, none⟩))
    have HG0 := Aside0.mk hg0
    have HB0 := Aside0.mk hB0
    clear hg0 hB0 hne hxg hxb hxa h5 h8 h10 h11 g5 g8 g10 g11 hHeld
    refine calm_out ?_
    go_wp2_with fail
    go_meet
    case rel => exact ⟨Bx, Bg, Pb, Pa, rfl, HG0, HB0⟩
   ·skip
    refine value_ (w1 := w_0.alloc (.cells Z 55 (0, 0))) (v := .slice (some ⟨w_0.heap.size, 0, none⟩) n n) (by rfl) rfl (by go_simp; try rfl) ?_
    refine hK.out _ _ (hHeld.alloc hHeld.size _) (fun hH2 => ?_)
    clear hK K
    refine normN ?_
    have h8 := al_new w_0 55 Z
    have l11_8 := (Array.getElem?_eq_some_iff.1 h11).1
    replace h11 := al_old (o := .cells Z 55 (0, 0)) h11
    have g8 := hHeld.size
    obtain ⟨Pa, e8⟩ : ∃ p, p = w_0.heap.size := ⟨_, rfl⟩
    rw [← e8] at h8 g8 l11_8 ⊢
    generalize w_0.alloc (.cells Z 55 (0, 0)) = w_1 at hH2 h8 h11 ⊢
    clear hHeld e8; have hHeld := hH2; clear hH2
    refine one_ (i := 5) (N := some 35) (bs 13 2559) rfl rfl (by kernel_rfl) (by decide) (fun K hK => ?_)
    refine value_ (w1 := w_1.alloc (.cells Z 55 (0, 0))) (v := .slice (some ⟨w_1.heap.size, 0, none⟩) n n) (by rfl) rfl (by go_simp; try rfl) ?_
    refine hK.out _ _ (hHeld.alloc hHeld.size _) (fun hH2 => ?_)
    clear hK K
    refine normN ?_
    have h5 := al_new w_1 55 Z
    have l8_5 := (Array.getElem?_eq_some_iff.1 h8).1
    replace h8 := al_old (o := .cells Z 55 (0, 0)) h8
    have l11_5 := (Array.getElem?_eq_some_iff.1 h11).1
    replace h11 := al_old (o := .cells Z 55 (0, 0)) h11
    have g5 := hHeld.size
    obtain ⟨Pb, e5⟩ : ∃ p, p = w_1.heap.size := ⟨_, rfl⟩
    rw [← e5] at h5 g5 l8_5 l11_5 ⊢
    generalize w_1.alloc (.cells Z 55 (0, 0)) = w_2 at hH2 h5 h8 h11 ⊢
    clear hHeld e5; have hHeld := hH2; clear hH2
    refine pureN 9 39 (bs 13 3071) ?_
    refine one_ (i := 10) (N := some 40) (bs 13 4095) rfl rfl (by kernel_rfl) (by decide) (fun K hK => ?_)
    refine value_ (w1 := w_2.alloc (.cells #[.slice A0 n c0, .slice An n cn, .slice Ao n co, .slice (some ⟨Pb, 0, none⟩) n n, .slice (some ⟨Pa, 0, none⟩) n n] 80 (0, 0))) (v := .pointer (some ⟨w_2.heap.size, 0, none⟩)) (by rfl) rfl (by go_simp; try rfl) ?_
    refine hK.out _ _ (hHeld.alloc hHeld.size _) (fun hH2 => ?_)
    clear hK K
    refine normN ?_
    have h10 := al_new w_2 80 #[.slice A0 n c0, .slice An n cn, .slice Ao n co, .slice (some ⟨Pb, 0, none⟩) n n, .slice (some ⟨Pa, 0, none⟩) n n]
    have l5_10 := (Array.getElem?_eq_some_iff.1 h5).1
    replace h5 := al_old (o := .cells #[.slice A0 n c0, .slice An n cn, .slice Ao n co, .slice (some ⟨Pb, 0, none⟩) n n, .slice (some ⟨Pa, 0, none⟩) n n] 80 (0, 0)) h5
    have l8_10 := (Array.getElem?_eq_some_iff.1 h8).1
    replace h8 := al_old (o := .cells #[.slice A0 n c0, .slice An n cn, .slice Ao n co, .slice (some ⟨Pb, 0, none⟩) n n, .slice (some ⟨Pa, 0, none⟩) n n] 80 (0, 0)) h8
    have l11_10 := (Array.getElem?_eq_some_iff.1 h11).1
    replace h11 := al_old (o := .cells #[.slice A0 n c0, .slice An n cn, .slice Ao n co, .slice (some ⟨Pb, 0, none⟩) n n, .slice (some ⟨Pa, 0, none⟩) n n] 80 (0, 0)) h11
    have g10 := hHeld.size
    obtain ⟨Bg, e10⟩ : ∃ p, p = w_2.heap.size := ⟨_, rfl⟩
    rw [← e10] at h10 g10 l5_10 l8_10 l11_10 ⊢
    generalize w_2.alloc (.cells #[.slice A0 n c0, .slice An n cn, .slice Ao n co, .slice (some ⟨Pb, 0, none⟩) n n, .slice (some ⟨Pa, 0, none⟩) n n] 80 (0, 0)) = w_3 at hH2 h10 h5 h8 h11 ⊢
    clear hHeld e10; have hHeld := hH2; clear hH2
    refine last_ (i := 12) (N := none) (bs 13 8191) rfl rfl (by kernel_rfl) (by decide) (fun K hK => ?_)
    have s0 : w_3.cell? ⟨Bx, 0, none⟩ = some (.pointer none) := by rw [cell_blk h11]; rfl
    have s1 : w_3.frozen? ⟨Bx, 0, none⟩ = false := blk_frozen h11 _
    refine skip_ (w1 := w_3.setCell ⟨Bx, 0, none⟩ (.pointer (some ⟨Bg, 0, none⟩))) (by rfl) rfl (by go_simp; try rfl) ?_
    refine hK.out _ _ ?_
    refine done_ (by kernel_rfl) ?_
    clear s0 s1 hK K
    rw [HZ.out] at h5 h8
    have hne : Pb ≠ Pa := by omega
    have hxg := blk_ne h10 h11 (by decide)
    have hxb := blk_ne h5 h11 (by decide)
    have hxa := blk_ne h8 h11 (by decide)
    have hg0 : GSt w3.heap.size (w_3.setCell ⟨Bx, 0, none⟩ (.pointer (some ⟨Bg, 0, none⟩))) Bx Bg Pb Pa #[.slice A0 n c0, .slice An n cn, .slice Ao n co, .slice (some ⟨Pb, 0, none⟩) n n, .slice (some ⟨Pa, 0, none⟩) n n] (List.replicate n 0) (List.replicate n 0) := ⟨(blk_set h11 0 _).trans rfl, (Below.heap_setCell _ _ _ Bg hxg).trans h10, (Below.heap_setCell _ _ _ Pb hxb).trans h5, (Below.heap_setCell _ _ _ Pa hxa).trans h8, hne, g11, g10, g5, g8⟩
    have hB0 := hHeld.setCell (p := ⟨Bx, 0, none⟩) g11 (.pointer (some ⟨Bg, 0, none⟩))
    have HG0 := Aside0.mk hg0
    have HB0 := Aside0.mk hB0
    clear hg0 hB0 hne hxg hxb hxa h5 h8 h10 h11 g5 g8 g10 g11 hHeld
    refine calm_out ?_
    go_wp2_with fail
    go_meet
    case rel => exact ⟨Bx, Bg, Pb, Pa, rfl, HG0, HB0⟩
 case rest =>
  obtain ⟨Bx, Bg, Pb, Pa, rfl, HG0, HB0⟩ := hcut
  clear hmk HZ H0
  go_wp2
  obtain ⟨I, hI⟩ : ∃ I : Act → World → Prop, I = (fun a W => ∃ (j : Nat), (∃ f : Nat → Value, a.tmps = #[f 0, f 1, f 2, f 3, .slice An n cn, f 5, f 6, f 7, .pointer (some ⟨Bx, 0, none⟩), f 9, f 10, f 11, f 12, f 13, f 14, f 15, f 16, f 17, f 18, f 19, f 20, f 21, f 22, f 23, f 24, f 25, f 26, f 27, f 28, f 29, f 30, f 31, f 32, f 33, f 34, f 35, f 36, f 37, f 38, f 39, f 40, .slice Ao n co, .int .i64 (n : Nat), .int .i64 (j : Nat), f 44, f 45, f 46, f 47, f 48, f 49, f 50, f 51, f 52, f 53, f 54, f 55, f 56, f 57, f 58, f 59, f 60, f 61, f 62, f 63, f 64, f 65, f 66, f 67, f 68, f 69, f 70, f 71, f 72, f 73, f 74, f 75, f 76, f 77, f 78, f 79, f 80, f 81, f 82, f 83, f 84, f 85, f 86, f 87, f 88, f 89, f 90, f 91, f 92, f 93, f 94, f 95, f 96]) ∧ Aside0 (j ≤ n) ∧ Aside0 (GSt w3.heap.size W Bx Bg Pb Pa #[.slice A0 n c0, .slice An n cn, .slice Ao n co, .slice (some ⟨Pb, 0, none⟩) n n, .slice (some ⟨Pa, 0, none⟩) n n] (gst nd n (od.take j)).1 (gst nd n (od.take j)).2) ∧ Aside0 (Below w3.heap.size w3 W) ∧ Aside0 (Marks w3.heap.size W a.defers)) := ⟨_, rfl⟩
  refine wp_loop I (fun a _ => n - (intOf (a.tmps.getD 43 undef)).toNat) ?start ?round
  case start =>
   rw [hI]
   exact ⟨0, lit_intro rfl, ⟨Nat.zero_le _⟩, ⟨HG0.out⟩, HB0, ⟨trivial⟩⟩
  case round =>
   rintro ⟨t, ds⟩ W h
   have HI := Aside0.mk hI
   rw [hI] at h
   clear hI
   obtain ⟨j, ⟨f, ht⟩, HJ, HG, HB, HM⟩ := h
   simp only at ht HM
   subst ht
   have HCO1 := Kd.C_below (Kd.R_reads' HRO.out).2.2 HB.out
   rw [castL_length, HH.out.2.2.1] at HCO1
   by_cases hlt : j < n
   ·obtain ⟨i, hi⟩ : ∃ i, od.getD j 0 = i := ⟨_, rfl⟩
    obtain ⟨ad1, e1, cj⟩ := Kd.at_int HCO1 (j : Int) (by omega) (by omega)
    rw [Int.toNat_natCast, rd_castL, hi] at cj
    subst e1
    have hin : i < n := HODL.out i (by rw [← hi, List.getD_eq_getElem?_getD, List.getElem?_eq_getElem (by have := HH.out.2.2.1; omega)]; exact List.getElem_mem _)
    obtain ⟨ad2, e2, ci⟩ := Kd.at_int (Kd.C_below HCN3.out (HB.out.alloc HB.out.size (.cells #[.int .i64 (i : Nat)] 3 (0, 0)))) (i : Int) (by omega) (by omega)
    rw [Int.toNat_natCast, rd_castL] at ci
    subst e2
    obtain ⟨mi, hmi⟩ : ∃ m, nd.getD i 0 = m := ⟨_, rfl⟩
    rw [hmi] at ci
    have hmi8 := HND.out.get i
    rw [hmi] at hmi8
    have hm16 : mi < 65536 := Nat.lt_of_lt_of_le (pow8 HH.out.2.2.2 hmi8) (by decide)
    have HMI := Aside0.mk (show mi < 65536 ∧ mi < 2 ^ n ∧ nd.getD i 0 = mi ∧ od.getD j 0 = i from ⟨hm16, hmi8, hmi, hi⟩)
    obtain ⟨bl0, hbl0⟩ : ∃ b, (gst nd n (od.take j)).1 = b := ⟨_, rfl⟩
    obtain ⟨ab0, hab0⟩ : ∃ b, (gst nd n (od.take j)).2 = b := ⟨_, rfl⟩
    have HS := Aside0.mk (gst_ok HH.out.2.2.2 HND.out (od.take j) (fun x hx => HODL.out x (List.mem_of_mem_take hx)))
    rw [hbl0, hab0] at HS HG
    have HBA := Aside0.mk (show gst nd n (od.take j) = (bl0, ab0) by rw [← hbl0, ← hab0])
    have qj : (j : Int) < (n : Int) := by omega
    have qi : (i : Int) < (n : Int) := by omega
    have cx : W.cell? ⟨Bx, 0, none⟩ = some (.pointer (some ⟨Bg, 0, none⟩)) := (cell_blk HG.out.x 0).trans rfl
    clear hbl0 hab0 hm16 hmi8 hmi hi HCO1 hlt
    have HLT := Aside0.mk (show j < n ∧ i < n by omega)
    clear hin
    go_wp2_with (first | (go_at_call 31; refine (all_calls mi _).mono ?_; rintro e w' ⟨rfl, rfl⟩))
    have hB4 := HB.out.size
    have hci := al_old (o := .cells #[.int .u16 (mi : Nat)] 55) (al_new W 3 #[.int .i64 (i : Nat)])
    have hbs := (Boxed.new (W.alloc (.cells #[.int .i64 (i : Nat)] 3)) 55 (.int .u16 (mi : Nat))).cell
    rw [World.size_alloc] at hbs
    have HG5 := Aside0.mk ((HG.out.below (below_alloc (Below.refl _ _) (.cells #[.int .i64 (i : Nat)] 3 (0, 0)))).below (below_alloc (Below.refl _ _) (.cells #[.int .u16 (mi : Nat)] 55 (0, 0))))
    have HM5 := Aside0.mk ((HM.out.below (below_alloc (Below.refl _ _) (.cells #[.int .i64 (i : Nat)] 3 (0, 0)))).below (below_alloc (Below.refl _ _) (.cells #[.int .u16 (mi : Nat)] 55 (0, 0))))
    have HB5 := Aside0.mk ((HB.out.alloc hB4 (.cells #[.int .i64 (i : Nat)] 3 (0, 0))).alloc (by simp; omega) (.cells #[.int .u16 (mi : Nat)] 55 (0, 0)))
    obtain ⟨Bi, hBi⟩ : ∃ B, W.heap.size = B := ⟨_, rfl⟩
    rw [hBi] at hci hbs hB4 ⊢
    generalize (W.alloc (.cells #[.int .i64 (i : Nat)] 3 (0, 0))).alloc (.cells #[.int .u16 (mi : Nat)] 55 (0, 0)) = w5 at hci hbs HG5 HM5 HB5 ⊢
    clear HB HG HM cj ci cx hBi
    have hB5 := HB5.out.size
    have HLT5 := Aside0.mk HM5.out.lt
    refine wp_range HMI.out.1 rfl hbs (HT3.out.below HB5.out H03.out) H03.out hB5 rfl
     (fun pre W' => GSt w3.heap.size W' Bx Bg Pb Pa #[.slice A0 n c0, .slice (some ad2) n cn, .slice (some ad1) n co, .slice (some ⟨Pb, 0, none⟩) n n, .slice (some ⟨Pa, 0, none⟩) n n] (pre.foldl (fun b k => C.orB b i k) bl0) ab0 ∧ Sets n (pre.foldl (fun b k => C.orB b i k) bl0) ∧ W'.heap[Bi]? = some (.cells #[.int .i64 (i : Nat)] 3 (0, 0)) ∧ Below w3.heap.size w3 W' ∧ Marks w3.heap.size W' ds)
     (fun s W1 W2 row hs hg hr => ⟨hs.1.ownFrom hg hr, hs.2.1, blk_ownFrom hs.2.2.1 hg hr, below_ownFrom hs.2.2.2.1 (Nat.le_refl _) hB5 hg hr, hs.2.2.2.2.ownFrom HLT5.out hg hr⟩)
     ⟨HG5.out, HS.out.1, hci, HB5.out, HM5.out⟩ ?a1 ?assign ?body ?done
    case assign =>
     intro l x W K hK
     gi_wp2
     exact hK
    case body =>
     rintro l pre k W hk hpl ⟨g1, g2, g3, g4, g5⟩
     have hkn := elems_lt HH.out.2.2.2 HMI.out.2.1 hk
     obtain ⟨bl, hbl⟩ : ∃ b, pre.foldl (fun b k => C.orB b i k) bl0 = b := ⟨_, rfl⟩
     rw [hbl] at g1 g2
     have hn8 := HH.out.2.2.2
     have hin := HLT.out.2
     obtain ⟨bi, hbi⟩ : ∃ x, bl.getD i 0 = x := ⟨_, rfl⟩
     obtain ⟨bk, hbk⟩ : ∃ x, bl.getD k 0 = x := ⟨_, rfl⟩
     have hbi8 := pow8 hn8 (g2.get i)
     have hbk8 := pow8 hn8 (g2.get k)
     rw [hbi] at hbi8
     rw [hbk] at hbk8
     have hk8 := pow8 hn8 (pow_lt hkn)
     obtain ⟨wk, hwk⟩ : ∃ x, bk ||| 2 ^ k = x := ⟨_, rfl⟩
     have hwk16 : wk < 65536 := by rw [← hwk]; exact Nat.or_lt_two_pow (n := 16) (Nat.lt_trans hbk8 (by decide)) (Nat.lt_trans hk8 (by decide))
     obtain ⟨v, hv⟩ : ∃ x, bi ||| wk = x := ⟨_, rfl⟩
     have hor : Go.bits .or .u16 (bi : Int) (wk : Int) = (v : Int) := by rw [or16 (Nat.lt_trans hbi8 (by decide)) hwk16, hv]
     have HW := Aside0.mk (show impl_set_with.f (bk : Int) (k : Int) = some (wk : Int) by rw [with_eq (Nat.lt_trans hbk8 (by decide)) (by omega), hwk])
     have cx : W.cell? ⟨Bx, 0, none⟩ = some (.pointer (some ⟨Bg, 0, none⟩)) := (cell_blk g1.x 0).trans rfl
     have cg : W.cell? ⟨Bg, 3, none⟩ = some (.slice (some ⟨Pb, 0, none⟩) n n) := (cell_blk g1.g 3).trans rfl
     have ci : W.cell? ⟨Bi, 0, none⟩ = some (.int .i64 (i : Nat)) := (cell_blk g3 0).trans rfl
     have cbi : W.cell? ⟨Pb, i, none⟩ = some (.int .u16 (bi : Nat)) := by rw [cell_blk g1.bb, cs_get (by rw [g2.len]; exact hin), hbi]
     have cbk : W.cell? ⟨Pb, k, none⟩ = some (.int .u16 (bk : Nat)) := by rw [cell_blk g1.bb, cs_get (by rw [g2.len]; exact hkn), hbk]
     have fzb : W.frozen? ⟨Pb, i, none⟩ = false := blk_frozen g1.bb _
     have qk : (k : Int) < (n : Int) := by omega
     have HF := Aside0.mk (show (pre ++ [k]).foldl (fun b k => C.orB b i k) bl0 = bl.set i v by
      rw [List.foldl_append, hbl]
      show C.orB bl i k = _
      unfold C.orB
      rw [hbi, hbk, hwk, hv])
     have HS2 := Aside0.mk (show Sets n (bl.set i v) by
      have := g2.orB i hkn
      unfold C.orB at this
      rwa [hbi, hbk, hwk, hv] at this)
     have G1 := Aside0.mk g1
     have G3 := Aside0.mk g3
     have G4 := Aside0.mk g4
     have G5 := Aside0.mk g5
     clear g1 g2 g3 g4 g5 hbl hbi hbk hbi8 hbk8 hk8 hwk hwk16 hv hk hpl hkn hn8 hin
     refine wpIn_block (startIn_ (S := Drawn0 W) (ds := [18]) #[false, false, false, false, false, false, false, false, false, false, false, false, false, false, false, false, false, false, false] (by kernel_rfl) (by rintro ⟨a, w, h⟩; exact h) (by kernel_rfl) rfl rfl (Drawn0.step (Drawn0.refl W) 1) (fun hHeld => ?_))
     refine takeN 0 53 (bs 19 1) hHeld rfl (.inl ⟨by rfl, fun w' s => by have s0 := (drawn_cell s _).trans cx; go_simp; with_reducible rfl⟩) ?_
     refine pureN 1 54 (bs 19 3) ?_
     refine pureN 2 55 (bs 19 7) ?_
     refine takeN 3 56 (bs 19 15) hHeld rfl (.inl ⟨by rfl, fun w' s => by have s0 := (drawn_cell s _).trans cg; go_simp; with_reducible rfl⟩) ?_
     refine takeN 4 57 (bs 19 31) hHeld rfl (.inl ⟨by rfl, fun w' s => by have s0 := (drawn_cell s _).trans ci; go_simp; with_reducible rfl⟩) ?_
     refine pureN 5 58 (bs 19 63) ?_
     refine takeN 6 59 (bs 19 127) hHeld rfl (.inl ⟨by rfl, fun w' s => by have s0 := (drawn_cell s _).trans cbi; go_simp; with_reducible rfl⟩) ?_
     refine takeN 7 60 (bs 19 255) hHeld rfl (.inl ⟨by rfl, fun w' s => by have s0 := (drawn_cell s _).trans cx; go_simp; with_reducible rfl⟩) ?_
     refine pureN 8 61 (bs 19 511) ?_
     refine pureN 9 62 (bs 19 1023) ?_
     refine takeN 10 63 (bs 19 2047) hHeld rfl (.inl ⟨by rfl, fun w' s => by have s0 := (drawn_cell s _).trans cg; go_simp; with_reducible rfl⟩) ?_
     refine pureN 11 64 (bs 19 4095) ?_
     refine pureN 12 65 (bs 19 8191) ?_
     refine takeN 13 66 (bs 19 16383) hHeld rfl (.inl ⟨by rfl, fun w' s => by have s0 := (drawn_cell s _).trans cbk; go_simp; with_reducible rfl⟩) ?_
     refine pureN 14 67 (bs 19 32767) ?_
     refine one_ (i := 15) (N := some 68) (bs 19 65535) rfl rfl (by kernel_rfl) (by decide) (fun K hK => ?_)
     refine goes_ (f := 32) Tryd.func32 rfl rfl #[.int .u16 (bk : Nat), .int .i64 (k : Nat)] (by rfl) rfl rfl (by first | rfl | (go_simp; try rfl)) ?_
     refine (impl_set_with.calls _ _ _ _ HW.out).mono ?_
     rintro e w7 ⟨rfl, hd⟩
     refine ⟨_, rfl, hK.out _ _ (drawn_trans hHeld hd) (fun hH2 => ?_)⟩
     clear hK K hd
     refine normN ?_
     have hHeld := hH2
     refine pureN 16 69 (bs 19 131071) ?_
     refine pureN 17 70 (bs 19 262143) ?_
     refine last_ (i := 18) (N := none) (bs 19 524287) rfl rfl (by kernel_rfl) (by decide) (fun K hK => ?_)
     have s0 := (drawn_cell hH2 _).trans cbi
     have s1 : w7.frozen? ⟨Pb, i, none⟩ = false := (drawn_frozen hH2 _).trans fzb
     refine skip_ (w1 := w7.setCell ⟨Pb, i, none⟩ (.int .u16 (v : Nat))) (by rfl) rfl (by go_simp; try rfl) ?_
     refine hK.out _ _ ?_
     refine done_ (by kernel_rfl) ?_
     clear s0 s1 hK K
     have hh := drawn_heap hHeld
     have G1' := G1.out.below hHeld.below
     have G3' : w7.heap[Bi]? = some (.cells #[.int .i64 (i : Nat)] 3 (0, 0)) := by rw [hh]; exact G3.out
     have hB7 := hHeld.below.mono G4.out.size
     exact ⟨keepsFrom_set (keepsFrom_below hHeld.below) _ _, hB7.setCell (p := ⟨Pb, i, none⟩) G1.out.lo.2.2.1 _, by rw [HF.out]; exact G1'.setB i v, by rw [HF.out]; exact HS2.out, (Below.heap_setCell _ _ _ Bi (blk_ne G3' G1'.bb (by decide))).trans G3', (G4.out.trans hB7).setCell (p := ⟨Pb, i, none⟩) G1.out.lo.2.2.1 _, (G5.out.heap hh).setCell (p := ⟨Pb, i, none⟩) G1'.bb _⟩
    case done =>
     rintro D W hD ⟨g1, g2, g3, g4, g5⟩ hK
     obtain ⟨bl1, hbl1⟩ : ∃ b, (elems mi).foldl (fun b k => C.orB b i k) bl0 = b := ⟨_, rfl⟩
     have HBL := Aside0.mk (show stepB nd bl0 i = bl1 by unfold stepB; rw [HMI.out.2.2.1]; exact hbl1)
     rw [hbl1] at g1 g2
     obtain ⟨bi, hbi⟩ : ∃ x, bl1.getD i 0 = x := ⟨_, rfl⟩
     have hbi8 := g2.get i
     rw [hbi] at hbi8
     have HBI := Aside0.mk (show bi < 65536 ∧ bi < 2 ^ n ∧ bl1.getD i 0 = bi from ⟨Nat.lt_trans (pow8 HH.out.2.2.2 hbi8) (by decide), hbi8, hbi⟩)
     have cx : W.cell? ⟨Bx, 0, none⟩ = some (.pointer (some ⟨Bg, 0, none⟩)) := (cell_blk g1.x 0).trans rfl
     have cg : W.cell? ⟨Bg, 3, none⟩ = some (.slice (some ⟨Pb, 0, none⟩) n n) := (cell_blk g1.g 3).trans rfl
     have ci : W.cell? ⟨Bi, 0, none⟩ = some (.int .i64 (i : Nat)) := (cell_blk g3 0).trans rfl
     have cbi : W.cell? ⟨Pb, i, none⟩ = some (.int .u16 (bi : Nat)) := by rw [cell_blk g1.bb, cs_get (by rw [g2.len]; exact HLT.out.2), hbi]
     have hDb : w3.heap.size ≤ D := Nat.le_trans hB5 hD
     have hM1 := g5.more hDb hK (fun d hd D' e => Nat.lt_of_lt_of_le (HLT5.out d hd D' e) hD)
     have G1 := Aside0.mk g1
     have G2 := Aside0.mk g2
     have G3 := Aside0.mk g3
     have G4 := Aside0.mk g4
     have G5 := Aside0.mk hM1
     clear g1 g2 g3 g4 g5 hbl1 hbi hbi8 hK hD hDb hM1 hci hbs HG5 HM5 HB5 HLT5 hB4 hB5
     go_upto_region 14 with fail
     refine calm_wp ?_
     refine start_ (n := 8) (S := Drawn0 W) (ds := [7]) #[false, false, false, false, false, false, false, false] (by kernel_rfl) rfl rfl (Drawn0.step (Drawn0.refl W) 1) (fun hHeld => ?_)
     obtain ⟨W8, e8⟩ : ∃ x, W.drew = x := ⟨_, rfl⟩
     rw [e8] at hHeld ⊢
     clear e8
     refine takeN 0 71 (bs 8 1) hHeld rfl (.inl ⟨by rfl, fun w' s => by have s0 := (drawn_cell s _).trans cx; go_simp; with_reducible rfl⟩) ?_
     refine pureN 1 72 (bs 8 3) ?_
     refine pureN 2 73 (bs 8 7) ?_
     refine takeN 3 74 (bs 8 15) hHeld rfl (.inl ⟨by rfl, fun w' s => by have s0 := (drawn_cell s _).trans cg; go_simp; with_reducible rfl⟩) ?_
     refine takeN 4 75 (bs 8 31) hHeld rfl (.inl ⟨by rfl, fun w' s => by have s0 := (drawn_cell s _).trans ci; go_simp; with_reducible rfl⟩) ?_
     refine pureN 5 76 (bs 8 63) ?_
     refine takeN 6 77 (bs 8 127) hHeld rfl (.inl ⟨by rfl, fun w' s => by have s0 := (drawn_cell s _).trans cbi; go_simp; with_reducible rfl⟩) ?_
     refine last_ (i := 7) (N := some 78) (bs 8 255) rfl rfl (by kernel_rfl) (by decide) (fun K hK => ?_)
     refine goes_ (f := 31) Tryd.func31 rfl rfl #[.int .u16 (bi : Nat)] (by rfl) rfl rfl (by first | rfl | (go_simp; try rfl)) ?_
     refine (all_calls _ _).mono ?_
     rintro e w7 ⟨rfl, rfl⟩
     refine ⟨_, rfl, hK.out _ _ ?_⟩
     clear hK K
     refine normN ?_
     refine done_ (by kernel_rfl) ?_
     refine calm_out ?_
     go_wp2_with fail
     have b8 := hHeld.below
     have h8 := drawn_heap hHeld
     have hB8 := hHeld.below.mono G4.out.size
     have hB4 : w3.heap.size ≤ W8.heap.size := by rw [h8]; exact G4.out.size
     have hci : (W8.alloc (.cells #[.int .u16 (bi : Nat)] 55 (0, 0))).heap[Bi]? = some (.cells #[.int .i64 (i : Nat)] 3 (0, 0)) := al_old (by rw [h8]; exact G3.out)
     have hbs := (Boxed.new W8 55 (.int .u16 (bi : Nat))).cell
     have HG5 := Aside0.mk ((G1.out.below b8).below (below_alloc (Below.refl _ _) (.cells #[.int .u16 (bi : Nat)] 55 (0, 0))))
     have HM5 := Aside0.mk ((G5.out.below b8).below (below_alloc (Below.refl _ _) (.cells #[.int .u16 (bi : Nat)] 55 (0, 0))))
     have HB5 := Aside0.mk ((G4.out.trans hB8).alloc hB4 (.cells #[.int .u16 (bi : Nat)] 55 (0, 0)))
     obtain ⟨B9, hB9⟩ : ∃ B, W8.heap.size = B := ⟨_, rfl⟩
     rw [hB9] at hbs ⊢
     generalize W8.alloc (.cells #[.int .u16 (bi : Nat)] 55 (0, 0)) = w9 at hci hbs HG5 HM5 HB5 ⊢
     clear b8 h8 hB8 hB4 hB9 hHeld cx cg ci cbi
     have hB5 := HB5.out.size
     have HLT5 := Aside0.mk HM5.out.lt
     refine wp_range HBI.out.1 rfl hbs (HT3.out.below HB5.out H03.out) H03.out hB5 rfl
      (fun pre W' => GSt w3.heap.size W' Bx Bg Pb Pa #[.slice A0 n c0, .slice (some ad2) n cn, .slice (some ad1) n co, .slice (some ⟨Pb, 0, none⟩) n n, .slice (some ⟨Pa, 0, none⟩) n n] bl1 (pre.foldl (fun a k => C.orA a i k) ab0) ∧ Sets n (pre.foldl (fun a k => C.orA a i k) ab0) ∧ W'.heap[Bi]? = some (.cells #[.int .i64 (i : Nat)] 3 (0, 0)) ∧ Below w3.heap.size w3 W' ∧ Marks w3.heap.size W' ({ target := .collected D, args := #[] } :: ds))
      (fun s W1 W2 row hs hg hr => ⟨hs.1.ownFrom hg hr, hs.2.1, blk_ownFrom hs.2.2.1 hg hr, below_ownFrom hs.2.2.2.1 (Nat.le_refl _) hB5 hg hr, hs.2.2.2.2.ownFrom HLT5.out hg hr⟩)
      ⟨HG5.out, HS.out.2, hci, HB5.out, HM5.out⟩ ?a2 ?assign ?body ?done
     case assign =>
      intro l x W K hK
      gi_wp2
      exact hK
     case body =>
      clear G1 G2 G3 G4 G5
      rintro l pre k W hk hpl ⟨g1, g2, g3, g4, g5⟩
      have hkn := elems_lt HH.out.2.2.2 HBI.out.2.1 hk
      obtain ⟨ab, hab⟩ : ∃ b, pre.foldl (fun a k => C.orA a i k) ab0 = b := ⟨_, rfl⟩
      rw [hab] at g1 g2
      have hn8 := HH.out.2.2.2
      have hin := HLT.out.2
      obtain ⟨ak, hak⟩ : ∃ x, ab.getD k 0 = x := ⟨_, rfl⟩
      have hak8 := pow8 hn8 (g2.get k)
      rw [hak] at hak8
      obtain ⟨v, hv⟩ : ∃ x, ak ||| 2 ^ i = x := ⟨_, rfl⟩
      have HW := Aside0.mk (show impl_set_with.f (ak : Int) (i : Int) = some (v : Int) by rw [with_eq (Nat.lt_trans hak8 (by decide)) (by omega), hv])
      have cx : W.cell? ⟨Bx, 0, none⟩ = some (.pointer (some ⟨Bg, 0, none⟩)) := (cell_blk g1.x 0).trans rfl
      have cg : W.cell? ⟨Bg, 4, none⟩ = some (.slice (some ⟨Pa, 0, none⟩) n n) := (cell_blk g1.g 4).trans rfl
      have ci : W.cell? ⟨Bi, 0, none⟩ = some (.int .i64 (i : Nat)) := (cell_blk g3 0).trans rfl
      have cak : W.cell? ⟨Pa, k, none⟩ = some (.int .u16 (ak : Nat)) := by rw [cell_blk g1.aa, cs_get (by rw [g2.len]; exact hkn), hak]
      have fza : W.frozen? ⟨Pa, k, none⟩ = false := blk_frozen g1.aa _
      have qk : (k : Int) < (n : Int) := by omega
      have HF := Aside0.mk (show (pre ++ [k]).foldl (fun a k => C.orA a i k) ab0 = ab.set k v by
       rw [List.foldl_append, hab]
       show C.orA ab i k = _
       unfold C.orA
       rw [hak, hv])
      have HS2 := Aside0.mk (show Sets n (ab.set k v) by
       have := g2.orA hin k
       unfold C.orA at this
       rwa [hak, hv] at this)
      have G1 := Aside0.mk g1
      have G3 := Aside0.mk g3
      have G4 := Aside0.mk g4
      have G5 := Aside0.mk g5
      clear g1 g2 g3 g4 g5 hab hak hak8 hv hk hpl hkn hn8 hin
      refine wpIn_block (startIn_ (S := Drawn0 W) (ds := [15]) #[false, false, false, false, false, false, false, false, false, false, false, false, false, false, false, false] (by kernel_rfl) (by rintro ⟨a, w, h⟩; exact h) (by kernel_rfl) rfl rfl (Drawn0.step (Drawn0.refl W) 1) (fun hHeld => ?_))
      refine takeN 0 80 (bs 16 1) hHeld rfl (.inl ⟨by rfl, fun w' s => by have s0 := (drawn_cell s _).trans cx; go_simp; with_reducible rfl⟩) ?_
      refine pureN 1 81 (bs 16 3) ?_
      refine pureN 2 82 (bs 16 7) ?_
      refine takeN 3 83 (bs 16 15) hHeld rfl (.inl ⟨by rfl, fun w' s => by have s0 := (drawn_cell s _).trans cg; go_simp; with_reducible rfl⟩) ?_
      refine pureN 4 84 (bs 16 31) ?_
      refine takeN 5 85 (bs 16 63) hHeld rfl (.inl ⟨by rfl, fun w' s => by have s0 := (drawn_cell s _).trans cx; go_simp; with_reducible rfl⟩) ?_
      refine pureN 6 86 (bs 16 127) ?_
      refine pureN 7 87 (bs 16 255) ?_
      refine takeN 8 88 (bs 16 511) hHeld rfl (.inl ⟨by rfl, fun w' s => by have s0 := (drawn_cell s _).trans cg; go_simp; with_reducible rfl⟩) ?_
      refine pureN 9 89 (bs 16 1023) ?_
      refine pureN 10 90 (bs 16 2047) ?_
      refine takeN 11 91 (bs 16 4095) hHeld rfl (.inl ⟨by rfl, fun w' s => by have s0 := (drawn_cell s _).trans cak; go_simp; with_reducible rfl⟩) ?_
      refine takeN 12 92 (bs 16 8191) hHeld rfl (.inl ⟨by rfl, fun w' s => by have s0 := (drawn_cell s _).trans ci; go_simp; with_reducible rfl⟩) ?_
      refine one_ (i := 13) (N := some 93) (bs 16 16383) rfl rfl (by kernel_rfl) (by decide) (fun K hK => ?_)
      refine goes_ (f := 32) Tryd.func32 rfl rfl #[.int .u16 (ak : Nat), .int .i64 (i : Nat)] (by rfl) rfl rfl (by first | rfl | (go_simp; try rfl)) ?_
      refine (impl_set_with.calls _ _ _ _ HW.out).mono ?_
      rintro e w7 ⟨rfl, hd⟩
      refine ⟨_, rfl, hK.out _ _ (drawn_trans hHeld hd) (fun hH2 => ?_)⟩
      clear hK K hd
      refine normN ?_
      have hHeld := hH2
      refine pureN 14 94 (bs 16 32767) ?_
      refine last_ (i := 15) (N := none) (bs 16 65535) rfl rfl (by kernel_rfl) (by decide) (fun K hK => ?_)
      have s0 := (drawn_cell hH2 _).trans cak
      have s1 : w7.frozen? ⟨Pa, k, none⟩ = false := (drawn_frozen hH2 _).trans fza
      refine skip_ (w1 := w7.setCell ⟨Pa, k, none⟩ (.int .u16 (v : Nat))) (by rfl) rfl (by go_simp; try rfl) ?_
      refine hK.out _ _ ?_
      refine done_ (by kernel_rfl) ?_
      clear s0 s1 hK K
      have hh := drawn_heap hHeld
      have G1' := G1.out.below hHeld.below
      have G3' : w7.heap[Bi]? = some (.cells #[.int .i64 (i : Nat)] 3 (0, 0)) := by rw [hh]; exact G3.out
      have hB7 := hHeld.below.mono G4.out.size
      exact ⟨keepsFrom_set (keepsFrom_below hHeld.below) _ _, hB7.setCell (p := ⟨Pa, k, none⟩) G1.out.lo.2.2.2 _, by rw [HF.out]; exact G1'.setA k v, by rw [HF.out]; exact HS2.out, (Below.heap_setCell _ _ _ Bi (blk_ne G3' G1'.aa (by decide))).trans G3', (G4.out.trans hB7).setCell (p := ⟨Pa, k, none⟩) G1.out.lo.2.2.2 _, (G5.out.heap hh).setCell (p := ⟨Pa, k, none⟩) G1'.aa _⟩
     case done =>
      rintro D2 W hD2 ⟨g1, g2, g3, g4, g5⟩ hK2
      have hM2 := g5.more (Nat.le_trans hB5 hD2) hK2 (fun d hd D' e => Nat.lt_of_lt_of_le (HLT5.out d hd D' e) hD2)
      have HG9 := Aside0.mk (show GSt w3.heap.size W Bx Bg Pb Pa #[.slice A0 n c0, .slice (some ad2) n cn, .slice (some ad1) n co, .slice (some ⟨Pb, 0, none⟩) n n, .slice (some ⟨Pa, 0, none⟩) n n] (gst nd n (od.take (j + 1))).1 (gst nd n (od.take (j + 1))).2 by
       rw [take_snoc (by have := HH.out.2.2.1; have := HLT.out.1; omega), HMI.out.2.2.2, gst_snoc, HBA.out]
       simp only
       rw [HBL.out]
       unfold stepA
       rw [HBI.out.2.2]
       exact g1)
      have HB9 := Aside0.mk g4
      have HM9 := Aside0.mk hM2
      clear g1 g2 g3 g4 g5 hM2 hK2 hD2 hB5 HG5 HM5 HB5 HLT5 hci hbs G1 G2 G3 G4 G5
      have hj8 : (j : Int) < 9 := by have := HH.out.2.2.2; have := HLT.out.1; omega
      go_wp2_with fail
      have HJ1 := Aside0.mk (show j + 1 ≤ n from HLT.out.1)
      rw [HI.out]
      refine ⟨⟨j + 1, lit_intro rfl, HJ1, HG9, HB9, HM9⟩, ?_⟩
      show n - ((j : Int) + 1).toNat < n - (j : Int).toNat
      have := HLT.out.1
      omega
   ·have hjn : j = n := by have := HJ.out; omega
    subst hjn
    have cx : W.cell? ⟨Bx, 0, none⟩ = some (.pointer (some ⟨Bg, 0, none⟩)) := (cell_blk HG.out.x 0).trans rfl
    have HODT := Aside0.mk (show od.take j = od from List.take_of_length_le (by have := HH.out.2.2.1; omega))
    clear hlt HCO1 HI
    go_wp2_with fail
    refine leave_ HM.out (fun w' hw => ?_)
    have hB' := hw.below HB.out
    have hG := HG.out.left hw
    rw [HODT.out] at hG
    obtain ⟨hs1, hs2⟩ := gst_ok HH.out.2.2.2 HND.out od HODL.out
    have r1 := raw_C hG.bb (by rw [hs1.len]; exact HH.out.2.2.2)
    have r2 := raw_C hG.aa (by rw [hs2.len]; exact HH.out.2.2.2)
    rw [hs1.len] at r1
    rw [hs2.len] at r2
    have hRO := Kd.R_below HRO.out hB'
    have hRN := Kd.R_below HRN.out hB'
    refine ⟨_, results_tmp2 rfl _ _ _, Bg, rfl, ⟨A0, c0, An, cn, Ao, co, Pb, Pa, hG.g, HC0.out, Kd.C_below HCL.out hB', Kd.C_below HCN3.out hB', hRO, r1, r2⟩, HBW.out.trans (hB'.mono HBW.out.size), fun W' hk hC => ?_⟩
    have hsz3 := HBW.out.size
    have hlo := hG.lo
    have s1 := raw_C ((hk Pb (by omega) (Array.getElem?_eq_some_iff.1 hG.bb).1).trans hG.bb) (by rw [hs1.len]; exact HH.out.2.2.2)
    have s2 := raw_C ((hk Pa (by omega) (Array.getElem?_eq_some_iff.1 hG.aa).1).trans hG.aa) (by rw [hs2.len]; exact HH.out.2.2.2)
    rw [hs1.len] at s1
    rw [hs2.len] at s2
    have hN := (Kd.R_reads' (Kd.R_move (Kd.R_bound hRN) (fun k hk' => hk k hk'.2.1 hk'.2.2.1))).2.2
    rw [castL_length, HH.out.2.1] at hN
    exact ⟨A0, c0, An, cn, Ao, co, Pb, Pa, (hk Bg (by omega) (Array.getElem?_eq_some_iff.1 hG.g).1).trans hG.g, HC0.out, hC, hN, Kd.R_mono (Kd.R_move (Kd.R_bound hRO) (fun k hk' => hk k hk'.2.1 hk'.2.2.1)) (fun _ _ => trivial), s1, s2⟩
theorem graphOf_full (kf : Nat) (A0 : Option Addr) (c0 : Nat) (l0 : List S47) (nd od : List Nat) (dn : Int) (w : World) (hr0 : Kd.C k47 w A0 l0.length l0) (hc0 : l0.length ≤ c0) (ht : Tab w) (h0 : 0 < w.heap.size)
  (hn8 : l0.length ≤ 8) (hN : impl_needsOf.f kf l0 = some (castL nd, true)) (hnd : Sets l0.length nd) (hO : impl_order.f kf (castL nd) = some (castL od, dn)) (hod : od.length = l0.length) (hodl : ∀ i, i ∈ od → i < l0.length) (hE : impl_everything.f (l0.length : Int) = some dn) :
  Calls Tryd.prog 43 #[.slice A0 l0.length c0] w fun e w' => ∃ g, e = .returned (.tuple #[.pointer (some ⟨g, 0, none⟩), .bool true]) ∧
   IsG w.heap.size w' g l0.length l0 nd od (gst nd l0.length od).1 (gst nd l0.length od).2 ∧ Below w.heap.size w w' :=
 (graphOf_fullF kf A0 c0 l0 nd od dn w hr0 hc0 ht h0 hn8 hN hnd hO hod hodl hE).mono (fun e w' ⟨g, e1, h1, h2, _⟩ => ⟨g, e1, h1, h2⟩)
theorem Left.refl (b : Nat) (w : World) : Left b w w := ⟨rfl, fun _ => .inl rfl, rfl, rfl, rfl⟩
set_option maxHeartbeats 4000000 in
set_option maxRecDepth 1000000 in
theorem graphOf_unfit (kf : Nat) (A0 : Option Addr) (c0 : Nat) (l0 : List S47) (N : List Int) (w : World) (hr0 : Kd.C k47 w A0 l0.length l0) (hc0 : l0.length ≤ c0) (hN : impl_needsOf.f kf l0 = some (N, false)) :
  Calls Tryd.prog 43 #[.slice A0 l0.length c0] w fun e w' => e = .returned (.tuple #[.pointer none, .bool false]) ∧ Below w.heap.size w w' := by
 have HR0 := Aside0.mk hr0
 have HC0 := Aside0.mk hc0
 have HN := Aside0.mk hN
 clear hr0 hc0 hN
 refine enter_marks Tryd.func43 rfl ?_
 simp only [Tryd.ntmps43, List.size_toArray, List.length_cons, List.length_nil, Nat.reduceAdd, Nat.reduceSub, Array.replicate_succ, Array.replicate_zero, List.push_toArray, List.append_toArray, List.nil_append, List.cons_append]
 go_wp2_with (first | (go_at_call 51; refine (impl_needsOf.calls kf A0 c0 l0 N false w HR0.out HC0.out HN.out).mono ?_; rintro e w1 ⟨v, rfl, hR1, hB1⟩; have HB1 := Aside0.mk hB1; clear hR1 hB1))
 refine leave_ (b := w1.heap.size) trivial (fun w' hw => ?_)
 exact ⟨_, results_tmp2 rfl _ _ _, rfl, HB1.out.trans ((hw.below (Below.refl w1.heap.size w1)).mono HB1.out.size)⟩
set_option maxHeartbeats 4000000 in
set_option maxRecDepth 1000000 in
theorem graphOf_ring (kf : Nat) (A0 : Option Addr) (c0 : Nat) (l0 : List S47) (nd od : List Nat) (dn ev : Int) (w : World) (hr0 : Kd.C k47 w A0 l0.length l0) (hc0 : l0.length ≤ c0) (hndl : nd.length = l0.length) (hN : impl_needsOf.f kf l0 = some (castL nd, true))
  (hO : impl_order.f kf (castL nd) = some (castL od, dn)) (hE : impl_everything.f (l0.length : Int) = some ev) (hne : dn ≠ ev) :
  Calls Tryd.prog 43 #[.slice A0 l0.length c0] w fun e w' => e = .returned (.tuple #[.pointer none, .bool false]) ∧ Below w.heap.size w w' := by
 have HR0 := Aside0.mk hr0
 have HC0 := Aside0.mk hc0
 have HN := Aside0.mk hN
 have HO := Aside0.mk hO
 have HE := Aside0.mk hE
 have hq : (dn == ev) = false := beq_eq_false_iff_ne.2 hne
 obtain ⟨n, hn⟩ : ∃ n, l0.length = n := ⟨_, rfl⟩
 have HH := Aside0.mk (show l0.length = n ∧ nd.length = n from ⟨hn, hndl.trans hn⟩)
 clear hr0 hc0 hN hO hE hndl hne
 rw [hn] at HR0 HC0 HE ⊢
 clear hn
 refine enter_marks Tryd.func43 rfl ?_
 simp only [Tryd.ntmps43, List.size_toArray, List.length_cons, List.length_nil, Nat.reduceAdd, Nat.reduceSub, Array.replicate_succ, Array.replicate_zero, List.push_toArray, List.append_toArray, List.nil_append, List.cons_append]
 go_wp2_with (first | (go_at_call 51; refine (needs_fit HH.out.1 HH.out.2 HR0.out HC0.out HN.out).mono ?_; rintro e w1 ⟨An, cn, rfl, hcn, hR1, hB1⟩; have HR1 := Aside0.mk hR1; have HB1 := Aside0.mk hB1; have HCN := Aside0.mk hcn; clear hR1 hB1 hcn) | (go_at_call 52; have e0 : n = (castL nd).length := (by rw [castL_length, HH.out.2]); refine (show Calls Tryd.prog 52 #[.slice An n cn] w1 _ from e0 ▸ impl_order.calls kf An cn (castL nd) (castL od) dn w1 (Kd.R_reads' HR1.out).2.2 (by rw [← e0]; exact HCN.out) HO.out).mono ?_; rintro e w2 ⟨v, rfl, hR2, hB2⟩; have HB2 := Aside0.mk hB2; clear hR2 hB2 e0) | (go_at_call 53; refine (impl_everything.calls _ _ _ HE.out).mono ?_; rintro e w3 ⟨rfl, hD⟩; have HD := Aside0.mk hD; clear hD))
 refine leave_ (b := w3.heap.size) trivial (fun w' hw => ?_)
 have b1 := HB1.out
 have b2 := HB2.out
 have b3 := HD.out.below
 exact ⟨_, results_tmp2 rfl _ _ _, rfl, ((b1.trans (b2.mono b1.size)).trans (b3.mono (Nat.le_trans b1.size b2.size))).trans ((hw.below (Below.refl w3.heap.size w3)).mono (Nat.le_trans b1.size (Nat.le_trans b2.size b3.size)))⟩
end Go.Proofs.YtkafmfabkbmpbaaDoor.G
