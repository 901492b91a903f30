/-
 doneIn, ValidDone, ProgressOf by hand.
-/
import Derived.Test.YtgdoajmgheokbaaDoorHGOf
import Derived.Test.YtgdoajmgheokbaaDoorG0
import Derived.Test.YtgdoajmgheokbaaDoorG13
namespace Go.Proofs.YtgdoajmgheokbaaDoor.G
open Go.RowKit Go.Proofs.YtgdoajmgheokbaaDoorW.PrintWords Go.Proofs.YtgdoajmgheokbaaDoorW.PrintLast Go.Proofs.YtgdoajmgheokbaaDoorW.PrintMore C
set_option linter.unusedVariables false
set_option linter.unusedSimpArgs false
attribute [local go_sem] Oper.semAt_some

/-- All needs of the numbers of a set lie within it. -/
def clo (nd : List Nat) (s : Nat) : Bool := (elems s).all (fun i => andNot (nd.getD i 0) s == 0)
def dok (l0 : List S74) (l1 : List Int) : Bool := sok l0 l1 && clo (ndm l0) (maskGo 0 l1)
/-- The three results in their cells. -/
def Res (W : World) (b : Nat) (p : Option Addr) (v : Int) (o : Bool) : Prop := W.heap[b]? = some (.cells #[.pointer p] 46 (0, 0)) ∧ W.heap[b + 1]? = some (.cells #[.int .u16 v] 48 (0, 0)) ∧ W.heap[b + 2]? = some (.cells #[.bool o] 4 (0, 0))
theorem Res.setp {W : World} {b : Nat} {p : Option Addr} {v : Int} {o : Bool} (h : Res W b p v o) (p' : Option Addr) : Res (W.setCell ⟨b, 0, none⟩ (.pointer p')) b p' v o :=
 ⟨(blk_set h.1 0 _).trans rfl, (Below.heap_setCell _ _ _ _ (by show b + 1 ≠ b; omega)).trans h.2.1, (Below.heap_setCell _ _ _ _ (by show b + 2 ≠ b; omega)).trans h.2.2⟩
theorem Res.setv {W : World} {b : Nat} {p : Option Addr} {v : Int} {o : Bool} (h : Res W b p v o) (v' : Int) : Res (W.setCell ⟨b + 1, 0, none⟩ (.int .u16 v')) b p v' o :=
 ⟨(Below.heap_setCell _ _ _ _ (by show b ≠ b + 1; omega)).trans h.1, (blk_set h.2.1 0 _).trans rfl, (Below.heap_setCell _ _ _ _ (by show b + 2 ≠ b + 1; omega)).trans h.2.2⟩
theorem Res.seto {W : World} {b : Nat} {p : Option Addr} {v : Int} {o : Bool} (h : Res W b p v o) (o' : Bool) : Res (W.setCell ⟨b + 2, 0, none⟩ (.bool o')) b p v o' :=
 ⟨(Below.heap_setCell _ _ _ _ (by show b ≠ b + 2; omega)).trans h.1, (Below.heap_setCell _ _ _ _ (by show b + 1 ≠ b + 2; omega)).trans h.2.1, (blk_set h.2.2 0 _).trans rfl⟩
theorem Res.alloc {W : World} {b : Nat} {p : Option Addr} {v : Int} {o : Bool} (h : Res W b p v o) (x : Obj) : Res (W.alloc x) b p v o := ⟨al_old h.1, al_old h.2.1, al_old h.2.2⟩
theorem Res.below {W W' : World} {b : Nat} {p : Option Addr} {v : Int} {o : Bool} (h : Res W b p v o) (hb : Below W.heap.size W W') : Res W' b p v o :=
 ⟨(hb.block _ (Array.getElem?_eq_some_iff.1 h.1).1).trans h.1, (hb.block _ (Array.getElem?_eq_some_iff.1 h.2.1).1).trans h.2.1, (hb.block _ (Array.getElem?_eq_some_iff.1 h.2.2).1).trans h.2.2⟩
theorem Res.ownFrom {W W' : World} {B b : Nat} {p : Option Addr} {v : Int} {o : Bool} {row : Option Nat} (h : Res W b p v o) (hg : W.grownBy W' row) (hr : ∀ r, row = some r → B ≤ r ∧ ∃ o : Obj, W.heap[r]? = some o ∧ o.isCells = false) : Res W' b p v o :=
 ⟨blk_ownFrom h.1 hg hr, blk_ownFrom h.2.1 hg hr, blk_ownFrom h.2.2 hg hr⟩
theorem Res.left {W W' : World} {B b : Nat} {p : Option Addr} {v : Int} {o : Bool} (h : Res W b p v o) (hw : Left B W W') : Res W' b p v o := ⟨hw.blk h.1, hw.blk h.2.1, hw.blk h.2.2⟩
theorem Res.new (w : World) : Res (((w.alloc (.cells #[.pointer none] 46)).alloc (.cells #[.int .u16 0] 48)).alloc (.cells #[.bool false] 4)) w.heap.size none 0 false :=
 ⟨al_old (al_old (al_new _ _ _)), al_old (al_at (by simp)), al_at (by simp)⟩
theorem loadVar_g {w : World} {ad : Addr} {p : Option Addr} (h : w.cell? ad = some (.pointer p)) : (loadVar 46 ad).run Tryd.prog w = .ok (.pointer p) w := by simp [loadVar, h, go_sem]
theorem loadVar_s {w : World} {ad : Addr} {n : Int} (h : w.cell? ad = some (.int .u16 n)) : (loadVar 48 ad).run Tryd.prog w = .ok (.int .u16 n) w := by simp [loadVar, h, go_sem]
theorem loadVar_b {w : World} {ad : Addr} {n : Bool} (h : w.cell? ad = some (.bool n)) : (loadVar 4 ad).run Tryd.prog w = .ok (.bool n) w := by simp [loadVar, h, go_sem]
theorem Res.out {W : World} {b : Nat} {p : Option Addr} {v : Int} {o : Bool} (h : Res W b p v o) {tmps : Array Value} (h4 : tmps.getD 4 undef = .pointer (some ⟨b, 0, none⟩)) (h5 : tmps.getD 5 undef = .pointer (some ⟨b + 1, 0, none⟩)) (h6 : tmps.getD 6 undef = .pointer (some ⟨b + 2, 0, none⟩)) :
  (results Tryd.f37 tmps).run Tryd.prog W = .ok (.tuple #[.pointer p, .int .u16 v, .bool o]) W :=
 results_c3 rfl h4 h5 h6 (loadVar_g ((cell_blk h.1 0).trans rfl)) (loadVar_s ((cell_blk h.2.1 0).trans rfl)) (loadVar_b ((cell_blk h.2.2 0).trans rfl))
/-- What the three stores ask of the world. -/
def Rf (W : World) (b : Nat) (p p' : Option Addr) (v v' : Int) (o : Bool) : Prop :=
 (W.cell? ⟨b, 0, none⟩ = some (.pointer p) ∧ W.frozen? ⟨b, 0, none⟩ = false) ∧
 ((W.setCell ⟨b, 0, none⟩ (.pointer p')).cell? ⟨b + 1, 0, none⟩ = some (.int .u16 v) ∧ (W.setCell ⟨b, 0, none⟩ (.pointer p')).frozen? ⟨b + 1, 0, none⟩ = false) ∧
 (((W.setCell ⟨b, 0, none⟩ (.pointer p')).setCell ⟨b + 1, 0, none⟩ (.int .u16 v')).cell? ⟨b + 2, 0, none⟩ = some (.bool o) ∧ ((W.setCell ⟨b, 0, none⟩ (.pointer p')).setCell ⟨b + 1, 0, none⟩ (.int .u16 v')).frozen? ⟨b + 2, 0, none⟩ = false)
theorem Res.facts {W : World} {b : Nat} {p : Option Addr} {v : Int} {o : Bool} (h : Res W b p v o) (p' : Option Addr) (v' : Int) : Rf W b p p' v v' o :=
 ⟨⟨(cell_blk h.1 0).trans rfl, blk_frozen h.1 _⟩, ⟨(cell_blk (h.setp p').2.1 0).trans rfl, blk_frozen (h.setp p').2.1 _⟩, ⟨(cell_blk ((h.setp p').setv v').2.2 0).trans rfl, blk_frozen ((h.setp p').setv v').2.2 _⟩⟩
theorem Res.all {W : World} {b : Nat} {p : Option Addr} {v : Int} {o : Bool} (h : Res W b p v o) (p' : Option Addr) (v' : Int) (o' : Bool) : Res (((W.setCell ⟨b, 0, none⟩ (.pointer p')).setCell ⟨b + 1, 0, none⟩ (.int .u16 v')).setCell ⟨b + 2, 0, none⟩ (.bool o')) b p' v' o' := ((h.setp p').setv v').seto o'
theorem below_all {w W : World} {b : Nat} (h : Below b w W) (p' : Option Addr) (v' : Int) (o' : Bool) : Below b w (((W.setCell ⟨b, 0, none⟩ (.pointer p')).setCell ⟨b + 1, 0, none⟩ (.int .u16 v')).setCell ⟨b + 2, 0, none⟩ (.bool o')) :=
 ((h.setCell (p := ⟨b, 0, none⟩) (Nat.le_refl _) _).setCell (p := ⟨b + 1, 0, none⟩) (by show b ≤ b + 1; omega) _).setCell (p := ⟨b + 2, 0, none⟩) (by show b ≤ b + 2; omega) _
set_option maxHeartbeats 8000000 in
set_option maxRecDepth 1000000 in
theorem done_no1 {A0 A1 : Option Addr} {c0 c1 : Nat} {l0 : List S74} {l1 : List Int} {w : World} (hg : gok l0 = false) (hr0 : Kd.C k74 w A0 l0.length l0) (hc0 : l0.length ≤ c0) :
  Calls Tryd.prog 37 #[.slice A0 l0.length c0, .slice A1 l1.length c1] w fun e w' => e = .returned (.tuple #[.pointer none, .int .u16 0, .bool false]) ∧ Below w.heap.size w w' := by
 have hN := Res.new w
 have hb0 := below_alloc (below_alloc (below_alloc (Below.refl w.heap.size w) (.cells #[.pointer none] 46)) (.cells #[.int .u16 0] 48)) (.cells #[.bool false] 4)
 have HGO := Aside0.mk (graphOf_no hg (Kd.C_alloc (Kd.C_alloc (Kd.C_alloc hr0 (.cells #[.pointer none] 46)) (.cells #[.int .u16 0] 48)) (.cells #[.bool false] 4)) hc0)
 have HN := Aside0.mk hN
 have H0 := Aside0.mk hb0
 clear hN hb0 hr0 hc0 hg
 go_enter Tryd.func37, Tryd.ntmps37
 go_wp2_with (first | (go_at_call 41; refine HGO.out.mono ?_; rintro e w1 ⟨rfl, hB⟩; have hR := (HN.out.below hB).alloc (.cells #[.pointer none] 46); have hB1 := below_alloc (H0.out.trans (hB.mono (by simp; omega))) (.cells #[.pointer none] 46); have HR := Aside0.mk hR; have HB := Aside0.mk hB1; obtain ⟨⟨hc1, hf1⟩, ⟨hc2, hf2⟩, hc3, hf3⟩ := hR.facts none 0; clear hB hR hB1))
 refine bodyPost_ret ((HR.out.all none 0 false).out rfl rfl rfl) rfl ⟨rfl, ?_⟩
 exact below_all HB.out none 0 false
set_option maxHeartbeats 8000000 in
set_option maxRecDepth 1000000 in
theorem done_no2 {A0 A1 : Option Addr} {c0 c1 : Nat} {l0 : List S74} {l1 : List Int} {w : World} (hg : gok l0 = true) (ha : ascB l0.length (-1) l1 = false) (hr0 : Kd.C k74 w A0 l0.length l0) (hc0 : l0.length ≤ c0) (hr1 : Kd.C (Kd.int .i64) w A1 l1.length l1) (hc1 : l1.length ≤ c1) (ht : Tab w) :
  Calls Tryd.prog 37 #[.slice A0 l0.length c0, .slice A1 l1.length c1] w fun e w' => e = .returned (.tuple #[.pointer none, .int .u16 0, .bool false]) ∧ Below w.heap.size w w' := by
 have h8 := gok8 hg
 have hN := Res.new w
 have hb0 := below_alloc (below_alloc (below_alloc (Below.refl w.heap.size w) (.cells #[.pointer none] 46)) (.cells #[.int .u16 0] 48)) (.cells #[.bool false] 4)
 have HGO := Aside0.mk (graphOf_yes hg (Kd.C_alloc (Kd.C_alloc (Kd.C_alloc hr0 (.cells #[.pointer none] 46)) (.cells #[.int .u16 0] 48)) (.cells #[.bool false] 4)) hc0 (ht.below hb0 ht.pos))
 have HSO := Aside0.mk (show impl_setOf.f 200 l1 (l0.length : Int) = some (0, false) by rw [setOf_eq h8 _ _ (by decide), if_neg (by rw [ha]; decide)])
 have HR1 := Aside0.mk (Kd.C_alloc (Kd.C_alloc (Kd.C_alloc hr1 (.cells #[.pointer none] 46)) (.cells #[.int .u16 0] 48)) (.cells #[.bool false] 4))
 have HC1 := Aside0.mk hc1
 have HN := Aside0.mk hN
 have H0 := Aside0.mk hb0
 clear hN hb0 hr0 hc0 hg ha hr1 hc1 ht h8
 go_enter Tryd.func37, Tryd.ntmps37
 go_wp2_with (first | (go_at_call 41; refine HGO.out.mono ?_; rintro e w1 ⟨g, rfl, hG, hB⟩; have HG := Aside0.mk (hG.below (below_alloc (Below.refl _ w1) (.cells #[.pointer (some ⟨g, 0, none⟩)] 46))); have HR := Aside0.mk ((HN.out.below hB).alloc (.cells #[.pointer (some ⟨g, 0, none⟩)] 46)); have HB := Aside0.mk (below_alloc (H0.out.trans (hB.mono (by simp; omega))) (.cells #[.pointer (some ⟨g, 0, none⟩)] 46)); have HR1' := Aside0.mk (Kd.C_alloc (Kd.C_below HR1.out hB) (.cells #[.pointer (some ⟨g, 0, none⟩)] 46)); clear hB hG) | (go_at_call 43; refine (size_calls HG.out).mono ?_; rintro e w2 ⟨rfl, hw2⟩; rw [hw2]; clear hw2 w2) | (go_at_call 64; refine (impl_setOf.calls 200 A1 c1 l1 _ _ _ _ HR1'.out HC1.out HSO.out).mono ?_; rintro e w3 ⟨rfl, hD⟩; have hR := (HR.out.below hD.below).alloc (.cells #[.int .u16 0] 48); have HRR := Aside0.mk hR; have HBB := Aside0.mk (below_alloc (HB.out.trans (hD.below.mono HB.out.size)) (.cells #[.int .u16 0] 48)); obtain ⟨⟨hc1, hf1⟩, ⟨hc2, hf2⟩, hc3, hf3⟩ := hR.facts none 0; clear hD hR))
 refine bodyPost_ret ((HRR.out.all none 0 false).out rfl rfl rfl) rfl ⟨rfl, ?_⟩
 exact below_all HBB.out none 0 false
theorem clo_no {nd : List Nat} {s x : Nat} {p : List Nat} (hp : p ++ [x] <+: elems s) (hx : andNot (nd.getD x 0) s ≠ 0) : clo nd s = false := by
 obtain ⟨r, hr⟩ := hp
 rw [Bool.eq_false_iff]
 intro h
 unfold clo at h
 rw [List.all_eq_true] at h
 exact hx (by simpa using h x (by rw [← hr]; simp))
theorem clo_yes {nd : List Nat} {s : Nat} (h : ∀ j, j ∈ elems s → andNot (nd.getD j 0) s = 0) : clo nd s = true := by
 unfold clo
 rw [List.all_eq_true]
 intro x hx
 simpa using h x hx
theorem IsG.lower {b b' : Nat} {w : World} {g n : Nat} {l0 : List S74} {nd od bl ab : List Nat} (h : IsG b w g n l0 nd od bl ab) (hb : b' ≤ b) : IsG b' w g n l0 nd od bl ab := by
 obtain ⟨A0, c0, A1, c1, A2, c2, P3, P4, h1, h2, h3, h4, h5, h6, h7⟩ := h
 exact ⟨A0, c0, A1, c1, A2, c2, P3, P4, h1, h2, h3, h4, Kd.R_lower h5 hb, h6, h7⟩
set_option maxHeartbeats 8000000 in
set_option maxRecDepth 1000000 in
theorem done_loop {A0 A1 : Option Addr} {c0 c1 : Nat} {l0 : List S74} {l1 : List Int} {w : World} (hs : sok l0 l1 = true) (hr0 : Kd.C k74 w A0 l0.length l0) (hc0 : l0.length ≤ c0) (hr1 : Kd.C (Kd.int .i64) w A1 l1.length l1) (hc1 : l1.length ≤ c1) (ht : Tab w) :
  Calls Tryd.prog 37 #[.slice A0 l0.length c0, .slice A1 l1.length c1] w fun e w' => (clo (ndm l0) (maskGo 0 l1) = false ∧ e = .returned (.tuple #[.pointer none, .int .u16 0, .bool false]) ∧ Below w.heap.size w w') ∨ (clo (ndm l0) (maskGo 0 l1) = true ∧ ∃ g, e = .returned (.tuple #[.pointer (some ⟨g, 0, none⟩), .int .u16 (maskGo 0 l1 : Nat), .bool true]) ∧ IsG w.heap.size w' g l0.length l0 (ndm l0) (ord l0) (bel l0) (abv l0) ∧ Below w.heap.size w w') := by
 have hs' := hs
 unfold sok at hs'
 simp only [Bool.and_eq_true] at hs'
 obtain ⟨hg, ha⟩ := hs'
 have h8 := gok8 hg
 have hN := Res.new w
 have hb0 := below_alloc (below_alloc (below_alloc (Below.refl w.heap.size w) (.cells #[.pointer none] 46)) (.cells #[.int .u16 0] 48)) (.cells #[.bool false] 4)
 have HR0 := Aside0.mk hr0
 have HGO := Aside0.mk (graphOf_yesF hg (Kd.C_alloc (Kd.C_alloc (Kd.C_alloc hr0 (.cells #[.pointer none] 46)) (.cells #[.int .u16 0] 48)) (.cells #[.bool false] 4)) hc0 (ht.below hb0 ht.pos))
 have HSO := Aside0.mk (show impl_setOf.f 200 l1 (l0.length : Int) = some (((maskGo 0 l1 : Nat) : Int), true) by rw [setOf_eq h8 _ _ (by decide), if_pos ha])
 have HR1 := Aside0.mk (Kd.C_alloc (Kd.C_alloc (Kd.C_alloc hr1 (.cells #[.pointer none] 46)) (.cells #[.int .u16 0] 48)) (.cells #[.bool false] 4))
 have HC1 := Aside0.mk hc1
 have HN := Aside0.mk hN
 have H0 := Aside0.mk hb0
 have HT := Aside0.mk ht
 obtain ⟨m, hm⟩ : ∃ m, maskGo 0 l1 = m := ⟨_, rfl⟩
 rw [hm] at HSO ⊢
 have hml : m < 2 ^ l0.length := by rw [← hm]; exact maskGo_lt h8 ha
 have HM := Aside0.mk (show m < 65536 ∧ m < 2 ^ l0.length ∧ l0.length ≤ 8 ∧ Sets l0.length (ndm l0) from ⟨Nat.lt_trans (pow8 h8 hml) (by decide), hml, h8, ndm_sets (gok_fine hg)⟩)
 clear hN hb0 hr0 hc0 hg ha hr1 hc1 ht h8 hs hm hml
 refine enter_marks Tryd.func37 rfl ?_
 simp only [Tryd.ntmps37, List.size_toArray, List.length_cons, List.length_nil, Nat.reduceAdd, Nat.reduceSub, Array.replicate_succ, Array.replicate_zero, List.push_toArray, List.append_toArray, List.nil_append, List.cons_append]
 go_wp2_with (first | (go_at_call 41; refine HGO.out.mono ?_; rintro e w1 ⟨g, rfl, hG, hB, hF⟩; have HF := Aside0.mk hF; have HG := Aside0.mk (hG.below (below_alloc (Below.refl _ w1) (.cells #[.pointer (some ⟨g, 0, none⟩)] 46))); have HR := Aside0.mk ((HN.out.below hB).alloc (.cells #[.pointer (some ⟨g, 0, none⟩)] 46)); have hH0 := H0.out.trans (hB.mono (by simp; omega)); have HB := Aside0.mk (below_alloc hH0 (.cells #[.pointer (some ⟨g, 0, none⟩)] 46)); have HX := Aside0.mk (al_new w1 46 #[.pointer (some ⟨g, 0, none⟩)]); have HZ := Aside0.mk (show w.heap.size + 3 ≤ w1.heap.size by have := hB.size; simp at this; omega); have HR1' := Aside0.mk (Kd.C_alloc (Kd.C_below HR1.out hB) (.cells #[.pointer (some ⟨g, 0, none⟩)] 46)); clear hB hG hH0 hF) | (go_at_call 43; refine (size_calls HG.out).mono ?_; rintro e w2 ⟨rfl, hw2⟩; rw [hw2]; clear hw2 w2) | (go_at_call 64; refine (impl_setOf.calls 200 A1 c1 l1 _ _ _ _ HR1'.out HC1.out HSO.out).mono ?_; rintro e w3 ⟨rfl, hD⟩; have HRR := Aside0.mk ((HR.out.below hD.below).alloc (.cells #[.int .u16 (m : Nat)] 48)); have HBB := Aside0.mk (below_alloc (HB.out.trans (hD.below.mono HB.out.size)) (.cells #[.int .u16 (m : Nat)] 48)); have HGG := Aside0.mk ((HG.out.drawn hD).below (below_alloc (Below.refl _ w3) (.cells #[.int .u16 (m : Nat)] 48))); have HX3 := Aside0.mk (al_old (o := .cells #[.int .u16 (m : Nat)] 48 (0, 0)) ((hD.below.block w1.heap.size (by simp)).trans HX.out)); have HS3 := Aside0.mk (al_new w3 48 #[.int .u16 (m : Nat)]); have HZ3 := Aside0.mk (show w1.heap.size < w3.heap.size by have := hD.below.size; simp at this; omega); have HD3 := Aside0.mk hD.below; clear hD) | (go_at_call 44; refine (all_calls (m : Nat) _).mono ?_; rintro e w6 ⟨rfl, rfl⟩))
 have gR := HRR.out.alloc (.cells #[.int .u16 (m : Nat)] 48)
 have gX := al_old (o := .cells #[.int .u16 (m : Nat)] 48 (0, 0)) HX3.out
 have gS := al_old (o := .cells #[.int .u16 (m : Nat)] 48 (0, 0)) HS3.out
 have gB := below_alloc HBB.out (.cells #[.int .u16 (m : Nat)] 48)
 have gG := HGG.out.below (below_alloc (Below.refl _ (w3.alloc (.cells #[.int .u16 (m : Nat)] 48))) (.cells #[.int .u16 (m : Nat)] 48))
 have gbs := (Boxed.new (w3.alloc (.cells #[.int .u16 (m : Nat)] 48)) 48 (.int .u16 (m : Nat))).cell
 have gO : ∀ k, k < w1.heap.size → ((w3.alloc (.cells #[.int .u16 (m : Nat)] 48)).alloc (.cells #[.int .u16 (m : Nat)] 48)).heap[k]? = w1.heap[k]? := fun k hk => by
  have h1 : w1.heap[k]? = some w1.heap[k] := Array.getElem?_eq_getElem hk
  rw [h1]
  exact al_old (al_old ((HD3.out.block k (by simp; omega)).trans (al_old h1)))
 have gZ : w3.heap.size + 2 = ((w3.alloc (.cells #[.int .u16 (m : Nat)] 48)).alloc (.cells #[.int .u16 (m : Nat)] 48)).heap.size := by simp
 simp only [World.size_alloc] at gbs
 generalize (w3.alloc (.cells #[.int .u16 (m : Nat)] 48)).alloc (.cells #[.int .u16 (m : Nat)] 48) = w6 at gR gX gS gB gG gbs gO gZ ⊢
 have gsz := gB.size
 have HZZ := Aside0.mk (show w.heap.size + 3 ≤ w1.heap.size ∧ w1.heap.size < w3.heap.size ∧ w3.heap.size + 2 = w6.heap.size from ⟨HZ.out, HZ3.out, gZ⟩)
 have HRS := Aside0.mk gR
 have HX6 := Aside0.mk gX
 have HS6 := Aside0.mk gS
 have HB6 := Aside0.mk gB
 have HG6 := Aside0.mk gG
 have HO6 := Aside0.mk gO
 clear gR gX gS gB gG gO gZ HRR HBB HGG HX3 HS3 HZ3 HD3 HZ HX HB HG HR HGO HSO HR1 HR1' HC1
 refine wp_rangeX HM.out.1 rfl gbs (HT.out.below HB6.out HT.out.pos) HT.out.pos gsz rfl
  (fun pre W => Below w6.heap.size w6 W ∧ ∀ j, j ∈ pre → andNot ((ndm l0).getD j 0) m = 0)
  (fun c pre W => c = .ret ∧ Below w.heap.size w W ∧ Res W w.heap.size none 0 false ∧ ∃ p x, pre = p ++ [x] ∧ andNot ((ndm l0).getD x 0) m ≠ 0)
  (fun s W1 W2 row hs hg hr => ⟨below_ownFrom hs.1 (Nat.le_refl _) (Nat.le_refl _) hg hr, hs.2⟩)
  (fun c s W1 W2 row hs hg hr => ⟨hs.1, below_ownFrom hs.2.1 (Nat.le_refl _) gsz hg hr, hs.2.2.1.ownFrom hg hr, hs.2.2.2⟩)
  ⟨Below.refl _ _, fun j hj => by cases hj⟩ ?a1 ?assign ?body ?done ?stop
 case assign =>
  intro l x W K hK
  gi_wp2
  exact hK
 case body =>
  rintro l pre x W hx hpl ⟨hB, hpre⟩
  have hxn := elems_lt HM.out.2.2.1 HM.out.2.1 hx
  obtain ⟨Aa, ca, An, cn, Ao, co, Pb, Pa, hg, hca, hCt, hCn, hRo, hCb, hCa⟩ := HG6.out.below hB
  obtain ⟨ad, ead, ci⟩ := Kd.at_int hCn (x : Int) (by omega) (by omega)
  rw [Int.toNat_natCast, rd_castL] at ci
  subst ead
  obtain ⟨mi, hmi⟩ : ∃ m, (ndm l0).getD x 0 = m := ⟨_, rfl⟩
  rw [hmi] at ci
  have hm16 : mi < 65536 := Nat.lt_trans (pow8 HM.out.2.2.1 (hmi ▸ HM.out.2.2.2.get x)) (by decide)
  have hand := andNot16 hm16 HM.out.1
  obtain ⟨q, hq⟩ : ∃ q, andNot mi m = q := ⟨_, rfl⟩
  rw [hq] at hand
  have cx : W.cell? ⟨w1.heap.size, 0, none⟩ = some (.pointer (some ⟨g, 0, none⟩)) := (cell_blk ((hB.block _ (Array.getElem?_eq_some_iff.1 HX6.out).1).trans HX6.out) 0).trans rfl
  have cs0 : W.cell? ⟨w3.heap.size, 0, none⟩ = some (.int .u16 (m : Nat)) := (cell_blk ((hB.block _ (Array.getElem?_eq_some_iff.1 HS6.out).1).trans HS6.out) 0).trans rfl
  have cg : W.cell? ⟨g, 1, none⟩ = some (.slice (some ad) l0.length cn) := (cell_blk hg 1).trans rfl
  have qi : (x : Int) < (l0.length : Int) := by omega
  have HP := Aside0.mk hpre
  have HBW := Aside0.mk hB
  have hRW := HRS.out.below hB
  clear hg hca hCt hCn hRo hCb hCa hpre hB hx hpl hxn hm16
  by_cases hq0 : q = 0
  ·have HQ := Aside0.mk (show andNot ((ndm l0).getD x 0) m = 0 by rw [hmi, hq, hq0])
   subst hq0
   clear hq hmi
   refine wpIn_block (wpIn_seq (startIn_ (S := Drawn0 W) (ds := []) (bs 10 0) (by kernel_rfl) (by rintro ⟨a, w, h⟩; exact h) (by kernel_rfl) rfl (by kernel_rfl) (Drawn0.step (Drawn0.refl W) 1) (fun hHeld => ?_)))
   refine takeN 0 30 (bs 10 1) hHeld rfl (.inl ⟨by rfl, fun w' s => by have s0 := (drawn_cell s _).trans cx; go_simp; with_reducible rfl⟩) ?_
   refine pureN 1 31 (bs 10 3) ?_
   refine pureN 2 32 (bs 10 7) ?_
   refine takeN 3 33 (bs 10 15) hHeld rfl (.inl ⟨by rfl, fun w' s => by have s0 := (drawn_cell s _).trans cg; go_simp; with_reducible rfl⟩) ?_
   refine pureN 4 34 (bs 10 31) ?_
   refine pureN 5 35 (bs 10 63) ?_
   refine takeN 6 36 (bs 10 127) hHeld rfl (.inl ⟨by rfl, fun w' s => by have s0 := (drawn_cell s _).trans ci; go_simp; with_reducible rfl⟩) ?_
   refine takeN 7 37 (bs 10 255) hHeld rfl (.inl ⟨by rfl, fun w' s => by have s0 := (drawn_cell s _).trans cs0; go_simp; with_reducible rfl⟩) ?_
   refine pureF 8 38 (bs 10 511) (v := .int .u16 0) rfl (.inl ⟨by rfl, fun w' => by go_simp <;> rw [hand]⟩) ?_
   refine pureN 9 39 (bs 10 1023) ?_
   refine done_ (by kernel_rfl) ?_
   gi_wp2
   exact ⟨keepsFrom_below hHeld.below, hHeld.below.mono (Nat.le_trans HB6.out.size HBW.out.size), HBW.out.trans (hHeld.below.mono HBW.out.size), fun j hj => by
    rcases List.mem_append.1 hj with hj | hj
    ·exact HP.out j hj
    ·rw [List.mem_singleton.1 hj]; exact HQ.out⟩
  ·have HQ := Aside0.mk (show andNot ((ndm l0).getD x 0) m ≠ 0 by rw [hmi, hq]; exact hq0)
   have hb : ((q : Int) != 0) = true := bne_iff_ne.2 (by omega)
   clear hq hmi
   refine wpIn_block (wpIn_seq (startIn_ (S := Drawn0 W) (ds := []) (bs 10 0) (by kernel_rfl) (by rintro ⟨a, w, h⟩; exact h) (by kernel_rfl) rfl (by kernel_rfl) (Drawn0.step (Drawn0.refl W) 1) (fun hHeld => ?_)))
   refine takeN 0 30 (bs 10 1) hHeld rfl (.inl ⟨by rfl, fun w' s => by have s0 := (drawn_cell s _).trans cx; go_simp; with_reducible rfl⟩) ?_
   refine pureN 1 31 (bs 10 3) ?_
   refine pureN 2 32 (bs 10 7) ?_
   refine takeN 3 33 (bs 10 15) hHeld rfl (.inl ⟨by rfl, fun w' s => by have s0 := (drawn_cell s _).trans cg; go_simp; with_reducible rfl⟩) ?_
   refine pureN 4 34 (bs 10 31) ?_
   refine pureN 5 35 (bs 10 63) ?_
   refine takeN 6 36 (bs 10 127) hHeld rfl (.inl ⟨by rfl, fun w' s => by have s0 := (drawn_cell s _).trans ci; go_simp; with_reducible rfl⟩) ?_
   refine takeN 7 37 (bs 10 255) hHeld rfl (.inl ⟨by rfl, fun w' s => by have s0 := (drawn_cell s _).trans cs0; go_simp; with_reducible rfl⟩) ?_
   refine pureF 8 38 (bs 10 511) (v := .int .u16 (q : Nat)) rfl (.inl ⟨by rfl, fun w' => by go_simp <;> rw [hand]⟩) ?_
   refine pureF 9 39 (bs 10 1023) (v := .bool true) rfl (.inl ⟨by rfl, fun w' => by go_simp <;> rw [hb]⟩) ?_
   refine done_ (by kernel_rfl) ?_
   have hRD := hRW.below (hHeld.below.mono (Nat.le_refl _))
   generalize W.drew = Wd at hHeld hRD ⊢
   obtain ⟨⟨hc1, hf1⟩, ⟨hc2, hf2⟩, hc3, hf3⟩ := hRD.facts none 0
   have HRD := Aside0.mk hRD
   clear hRD hRW
   gi_wp2
   exact ⟨keepsFrom_set (keepsFrom_set (keepsFrom_set (keepsFrom_below hHeld.below) _ _) _ _) _ _, rfl, below_all ((HB6.out.trans (HBW.out.mono HB6.out.size)).trans (hHeld.below.mono (Nat.le_trans HB6.out.size HBW.out.size))) none 0 false, HRD.out.all none 0 false, pre, x, rfl, HQ.out⟩
 case done =>
  rintro D W hD ⟨hB, hpre⟩ hK
  have hX := (hB.block _ (Array.getElem?_eq_some_iff.1 HX6.out).1).trans HX6.out
  have hS := (hB.block _ (Array.getElem?_eq_some_iff.1 HS6.out).1).trans HS6.out
  have HK := Aside0.mk hK
  have HI := Aside0.mk (And.intro hB hpre)
  have HDD := Aside0.mk (show w6.heap.size ≤ D from hD)
  have cx : W.drew.cell? ⟨w1.heap.size, 0, none⟩ = some (.pointer (some ⟨g, 0, none⟩)) := (cell_blk hX 0).trans rfl
  have HXS := Aside0.mk (And.intro hX hS)
  have hR := (HRS.out.below hB).below (below_drew1 (Below.refl W.heap.size W))
  have hBd := below_drew1 (Below.refl W.heap.size W)
  have hKd : W.drew.heap[D]? = some (.deferred (some [])) := hK
  have HR := Aside0.mk (And.intro hR (And.intro hBd hKd))
  clear hB hpre hK hD hX hS cx hR hBd hKd
  go_upto_region 11 with fail
  refine calm_wp ?_
  refine start_ (n := 5) (S := fun W' => W'.heap[w1.heap.size]? = some (.cells #[.pointer (some ⟨g, 0, none⟩)] 46 (0, 0)) ∧ W'.heap[w3.heap.size]? = some (.cells #[.int .u16 (m : Nat)] 48 (0, 0))) (ds := []) (bs 5 0) (by kernel_rfl) rfl (by kernel_rfl) HXS.out (fun hHeld => ?_)
  refine takeN 0 40 (bs 5 1) hHeld rfl (.inl ⟨by rfl, fun w' s => by have s0 : w'.cell? ⟨w1.heap.size, 0, none⟩ = some (.pointer (some ⟨g, 0, none⟩)) := (cell_blk s.1 0).trans rfl; go_simp; with_reducible rfl⟩) ?_
  refine takeN 1 41 (bs 5 3) hHeld rfl (.inl ⟨by rfl, fun w' s => by have s0 : w'.cell? ⟨w3.heap.size, 0, none⟩ = some (.int .u16 (m : Nat)) := (cell_blk s.2 0).trans rfl; go_simp; with_reducible rfl⟩) ?_
  generalize W.drew = Wd at hHeld HR ⊢
  have hHeld1 := hHeld
  obtain ⟨⟨hc1, hf1⟩, ⟨hc2, hf2⟩, hc3, hf3⟩ := HR.out.1.facts (some ⟨g, 0, none⟩) (m : Nat)
  have z := HZZ.out
  have n1 : w1.heap.size ≠ w.heap.size := by omega
  have n2 : w1.heap.size ≠ w.heap.size + 1 := by omega
  have n3 : w1.heap.size ≠ w.heap.size + 2 := by omega
  have m1 : w3.heap.size ≠ w.heap.size := by omega
  have m2 : w3.heap.size ≠ w.heap.size + 1 := by omega
  have m3 : w3.heap.size ≠ w.heap.size + 2 := by omega
  refine one_ (i := 2) (N := none) (bs 5 7) rfl rfl (by kernel_rfl) (by decide) (fun K hK => ?_)
  refine skip_ (w1 := Wd.setCell ⟨w.heap.size, 0, none⟩ (.pointer (some ⟨g, 0, none⟩))) (by rfl) rfl (by go_simp; try rfl) ?_
  refine hK.out _ _ ⟨(Below.heap_setCell _ _ _ _ n1).trans hHeld.1, (Below.heap_setCell _ _ _ _ m1).trans hHeld.2⟩ (fun hH2 => ?_)
  clear hK K; have hHeld := hH2; clear hH2
  refine one_ (i := 3) (N := none) (bs 5 15) rfl rfl (by kernel_rfl) (by decide) (fun K hK => ?_)
  refine skip_ (w1 := (Wd.setCell ⟨w.heap.size, 0, none⟩ (.pointer (some ⟨g, 0, none⟩))).setCell ⟨w.heap.size + 1, 0, none⟩ (.int .u16 (m : Nat))) (by rfl) rfl (by go_simp; try rfl) ?_
  refine hK.out _ _ ⟨(Below.heap_setCell _ _ _ _ n2).trans hHeld.1, (Below.heap_setCell _ _ _ _ m2).trans hHeld.2⟩ (fun hH2 => ?_)
  clear hK K; have hHeld := hH2; clear hH2
  refine one_ (i := 4) (N := none) (bs 5 31) rfl rfl (by kernel_rfl) (by decide) (fun K hK => ?_)
  refine skip_ (w1 := ((Wd.setCell ⟨w.heap.size, 0, none⟩ (.pointer (some ⟨g, 0, none⟩))).setCell ⟨w.heap.size + 1, 0, none⟩ (.int .u16 (m : Nat))).setCell ⟨w.heap.size + 2, 0, none⟩ (.bool true)) (by rfl) rfl (by go_simp; try rfl) ?_
  refine hK.out _ _ ⟨(Below.heap_setCell _ _ _ _ n3).trans hHeld.1, (Below.heap_setCell _ _ _ _ m3).trans hHeld.2⟩ (fun hH2 => ?_)
  refine done_ (by kernel_rfl) ?_
  refine calm_out ?_
  clear hK K hc1 hc2 hc3 hf1 hf2 hf3 n1 n2 n3 m1 m2 m3 hH2 hHeld hHeld1 z
  have HBf := Aside0.mk (below_all ((HB6.out.trans (HI.out.1.mono HB6.out.size)).trans (HR.out.2.1.mono (Nat.le_trans HB6.out.size HI.out.1.size))) (some ⟨g, 0, none⟩) (m : Nat) true)
  have HRf := Aside0.mk (HR.out.1.all (some ⟨g, 0, none⟩) (m : Nat) true)
  have HOf := Aside0.mk (show ∀ k, w.heap.size + 3 ≤ k → k < w1.heap.size → (((Wd.setCell ⟨w.heap.size, 0, none⟩ (.pointer (some ⟨g, 0, none⟩))).setCell ⟨w.heap.size + 1, 0, none⟩ (.int .u16 (m : Nat))).setCell ⟨w.heap.size + 2, 0, none⟩ (.bool true)).heap[k]? = w1.heap[k]? from fun k h1 h2 => by
   have z := HZZ.out
   have z1 := HI.out.1.size
   exact (Below.heap_setCell _ _ _ _ (by show k ≠ w.heap.size + 2; omega)).trans ((Below.heap_setCell _ _ _ _ (by show k ≠ w.heap.size + 1; omega)).trans ((Below.heap_setCell _ _ _ _ (by show k ≠ w.heap.size; omega)).trans ((HR.out.2.1.block k (by omega)).trans ((HI.out.1.block k (by omega)).trans (HO6.out k h2))))))
  have HKf := Aside0.mk (show (((Wd.setCell ⟨w.heap.size, 0, none⟩ (.pointer (some ⟨g, 0, none⟩))).setCell ⟨w.heap.size + 1, 0, none⟩ (.int .u16 (m : Nat))).setCell ⟨w.heap.size + 2, 0, none⟩ (.bool true)).heap[D]? = some (.deferred (some [])) by
   have z := HZZ.out
   have z1 := HDD.out
   exact (Below.heap_setCell _ _ _ _ (by show D ≠ w.heap.size + 2; omega)).trans ((Below.heap_setCell _ _ _ _ (by show D ≠ w.heap.size + 1; omega)).trans ((Below.heap_setCell _ _ _ _ (by show D ≠ w.heap.size; omega)).trans HR.out.2.2)))
  generalize ((Wd.setCell ⟨w.heap.size, 0, none⟩ (.pointer (some ⟨g, 0, none⟩))).setCell ⟨w.heap.size + 1, 0, none⟩ (.int .u16 (m : Nat))).setCell ⟨w.heap.size + 2, 0, none⟩ (.bool true) = Wf at HBf HRf HOf HKf ⊢
  go_wp2
  refine leave_ (Marks.one HDD.out HKf.out) (fun w' hw => ?_)
  have z := HZZ.out
  have hw' : Left w.heap.size Wf w' := ⟨hw.1, fun k => (hw.2.1 k).imp id (fun h => ⟨by omega, h.2⟩), hw.2.2⟩
  have hBe := hw'.below HBf.out
  exact ⟨_, (HRf.out.left hw').out rfl rfl rfl, .inr ⟨clo_yes HI.out.2, g, rfl, (HF.out w' (fun k h1 h2 => by
   have h1' : w.heap.size + 3 ≤ k := by simpa using h1
   refine Eq.trans ?_ (HOf.out k h1' h2)
   rcases hw.2.1 k with e | ⟨h, _⟩
   ·exact e
   ·omega) (Kd.C_below HR0.out hBe)).lower (by simp; omega), hBe⟩⟩
 case stop =>
  rintro D c pre W hD hpp ⟨rfl, hB, hR, p, x, rfl, hx⟩ hK
  have HK := Aside0.mk hK
  have HI := Aside0.mk (And.intro hB (And.intro hR (clo_no hpp hx)))
  have hDD := Nat.le_trans gsz hD
  clear hB hR hx hK hpp
  go_wp2
  refine leave_ (Marks.one hDD HK.out) (fun w' hw => ?_)
  exact ⟨_, (HI.out.2.1.left hw).out rfl rfl rfl, .inl ⟨HI.out.2.2, rfl, hw.below HI.out.1⟩⟩
/-- doneIn answers no. -/
theorem done_no {A0 A1 : Option Addr} {c0 c1 : Nat} {l0 : List S74} {l1 : List Int} {w : World} (h : dok l0 l1 = false) (hr0 : Kd.C k74 w A0 l0.length l0) (hc0 : l0.length ≤ c0) (hr1 : Kd.C (Kd.int .i64) w A1 l1.length l1) (hc1 : l1.length ≤ c1) (ht : Tab w) :
  Calls Tryd.prog 37 #[.slice A0 l0.length c0, .slice A1 l1.length c1] w fun e w' => e = .returned (.tuple #[.pointer none, .int .u16 0, .bool false]) ∧ Below w.heap.size w w' := by
 by_cases hs : sok l0 l1 = true
 ·refine (done_loop hs hr0 hc0 hr1 hc1 ht).mono (fun e w' hh => ?_)
  rcases hh with ⟨_, h2⟩ | ⟨h1, _⟩
  ·exact h2
  ·unfold dok at h
   rw [hs, h1] at h
   cases h
 ·rcases sok_cases (Bool.eq_false_iff.2 hs) with hg | ⟨hg, ha⟩
  ·exact done_no1 hg hr0 hc0
  ·exact done_no2 hg ha hr0 hc0 hr1 hc1 ht
/-- doneIn answers the graph and the set. -/
theorem done_yes {A0 A1 : Option Addr} {c0 c1 : Nat} {l0 : List S74} {l1 : List Int} {w : World} (h : dok l0 l1 = true) (hr0 : Kd.C k74 w A0 l0.length l0) (hc0 : l0.length ≤ c0) (hr1 : Kd.C (Kd.int .i64) w A1 l1.length l1) (hc1 : l1.length ≤ c1) (ht : Tab w) :
  Calls Tryd.prog 37 #[.slice A0 l0.length c0, .slice A1 l1.length c1] w fun e w' => ∃ g, e = .returned (.tuple #[.pointer (some ⟨g, 0, none⟩), .int .u16 (maskGo 0 l1 : Nat), .bool true]) ∧ IsG w.heap.size w' g l0.length l0 (ndm l0) (ord l0) (bel l0) (abv l0) ∧ Below w.heap.size w w' := by
 unfold dok at h
 simp only [Bool.and_eq_true] at h
 refine (done_loop h.1 hr0 hc0 hr1 hc1 ht).mono (fun e w' hh => ?_)
 rcases hh with ⟨h1, _⟩ | ⟨_, h2⟩
 ·rw [h.2] at h1
  cases h1
 ·exact h2
def impl_ValidDone.f (l0 : List S74) (l1 : List Int) : Option (Bool) := some (dok l0 l1)
set_option maxHeartbeats 8000000 in
set_option maxRecDepth 1000000 in
theorem impl_ValidDone.calls (A0 : Option Addr) (c0 : Nat) (l0 : List S74) (A1 : Option Addr) (c1 : Nat) (l1 : List Int) (r : Bool) (w : World) (hr0 : Kd.C k74 w A0 l0.length l0) (hc0 : l0.length ≤ c0) (hr1 : Kd.C (Kd.int .i64) w A1 l1.length l1) (hc1 : l1.length ≤ c1) (h : impl_ValidDone.f l0 l1 = some r) (hT_ : Tab w) :
  Calls Tryd.prog 14 #[.slice A0 l0.length c0, .slice A1 l1.length c1] w fun e w' => e = .returned (.bool r) ∧ Below w.heap.size w w' := by
 injection h with h
 cases r with
 | false =>
  have HC := Aside0.mk (done_no h hr0 hc0 hr1 hc1 hT_)
  clear h hr0 hc0 hr1 hc1 hT_
  go_enter Tryd.func14, Tryd.ntmps14
  go_wp2_with (first | (go_at_call 37; refine HC.out.mono ?_; rintro e w1 ⟨rfl, hB⟩; have HB := Aside0.mk hB; clear hB))
  go_ret
  exact ⟨rfl, HB.out⟩
 | true =>
  have HC := Aside0.mk (done_yes h hr0 hc0 hr1 hc1 hT_)
  clear h hr0 hc0 hr1 hc1 hT_
  go_enter Tryd.func14, Tryd.ntmps14
  go_wp2_with (first | (go_at_call 37; refine HC.out.mono ?_; rintro e w1 ⟨g, rfl, hG, hB⟩; have HB := Aside0.mk hB; clear hB hG))
  go_ret
  exact ⟨rfl, HB.out⟩
end Go.Proofs.YtgdoajmgheokbaaDoor.G
