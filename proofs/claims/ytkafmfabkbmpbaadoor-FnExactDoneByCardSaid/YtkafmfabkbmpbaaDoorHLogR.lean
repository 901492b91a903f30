/-
 replay by hand.
-/
import Derived.Test.YtkafmfabkbmpbaaDoorHLogT
import Derived.Test.YtkafmfabkbmpbaaDoorG0
namespace Go.Proofs.YtkafmfabkbmpbaaDoor.G
open Go.RowKit Go.Proofs.YtkafmfabkbmpbaaDoorW.PrintWords Go.Proofs.YtkafmfabkbmpbaaDoorW.PrintLast Go.Proofs.YtkafmfabkbmpbaaDoorW.PrintMore C
set_option linter.unusedVariables false
set_option linter.unusedSimpArgs false
attribute [local go_sem] Oper.semAt_some max2_int max_two

theorem take_calls {b : Nat} {W : World} {g M : Nat} {l0 : List S47} {od bl ab : List Nat} {s : Mst} {e : S46} (hf : fine l0 = true) (hG : IsG b W g l0.length l0 (ndm l0) od bl ab) (hM : IsM W M g s) (hs : OkS l0.length s) :
  Calls Tryd.prog 44 #[.pointer (some ⟨M, 0, none⟩), .agg #[.int .i64 e.f0, .int .i64 e.f1, .bool e.f2]] W fun x W' => x = .returned (.bool (okM l0 s e)) ∧ KM M W W' ∧ (okM l0 s e = true → IsM W' M g (stepM s e)) := by
 have hn8 := (fine_task hf).1
 cases hr : rngM l0.length e with
 | false =>
  have e1 : okM l0 s e = false := by unfold okM; rw [hr, Bool.false_and]
  rw [e1]
  refine (take_rng hG hM hn8 hr).mono ?_
  rintro x W' ⟨h1, h2⟩
  exact ⟨h1, h2, fun h => by cases h⟩
 | true =>
  obtain ⟨h1, t, h2, h3⟩ := rng_of hr
  have et : e.f1.toNat = t := by omega
  have e1 : okM l0 s e = fitM l0 s e := by unfold okM; rw [hr, Bool.true_and]
  rw [e1]
  obtain ⟨e0, e1', e2⟩ := e
  dsimp only at h1 h2 et
  subst h2
  cases e2 with
  | false =>
   refine (take_begin hG hM hn8 (ndm_sets hf) hs h1 h3).mono ?_
   rintro x W' ⟨h4, h5, h6⟩
   exact ⟨h4, h5, h6⟩
  | true =>
   refine (take_over hG hM hn8 (fine_time hf h3) hs h1 h3).mono ?_
   rintro x W' ⟨h4, h5, h6⟩
   exact ⟨h4, h5, h6⟩
/-- The state behind so many events; whether an event is taken there; how many have run at most. -/
def stM (l1 : List S46) : Nat → Mst
 | 0 => Mst.ini
 | i + 1 => stepM (stM l1 i) (rd_T46 l1 (i : Int))
def atM (l1 : List S46) (i : Nat) : Int := (rd_T46 l1 (i : Int)).f0
def okAt (l0 : List S47) (l1 : List S46) (i : Nat) : Bool := decide (i = 0 ∨ atM l1 (i - 1) ≤ atM l1 i) && okM l0 (stM l1 i) (rd_T46 l1 (i : Int))
def okLog (l0 : List S47) (l1 : List S46) : Bool := gok l0 && (decide (l1.length ≤ 16) && (List.range l1.length).all (okAt l0 l1))
def mostM (l1 : List S46) : Nat → Int
 | 0 => 0
 | i + 1 => if i + 1 = l1.length ∨ atM l1 i < atM l1 (i + 1) then mx (mostM l1 i) ((elems (andNot (stM l1 (i + 1)).bg (stM l1 (i + 1)).ov)).length : Int) else mostM l1 i
theorem okAt_rng {l0 : List S47} {l1 : List S46} {i : Nat} (h : okAt l0 l1 i = true) : rngM l0.length (rd_T46 l1 (i : Int)) = true := by
 unfold okAt okM at h
 simp only [Bool.and_eq_true] at h
 exact h.2.1
theorem stM_ok {l0 : List S47} {l1 : List S46} : ∀ (i : Nat), (∀ j, j < i → okAt l0 l1 j = true) → OkS l0.length (stM l1 i)
 | 0, _ => OkS.ini _
 | i + 1, h => (stM_ok i (fun j hj => h j (by omega))).step (okAt_rng (h i (by omega)))
theorem mostM_bd (l1 : List S46) : ∀ i, 0 ≤ mostM l1 i ∧ mostM l1 i ≤ 16
 | 0 => by simp [mostM]
 | i + 1 => by
  have ih := mostM_bd l1 i
  have := elems_len (andNot (stM l1 (i + 1)).bg (stM l1 (i + 1)).ov)
  unfold mostM
  split
  ·unfold mx
   split <;> omega
  ·exact ih
/-- What replay answers. -/
def RePost (l0 : List S47) (l1 : List S46) (w : World) (e : Ending) (w' : World) : Prop :=
 Below w.heap.size w w' ∧ if okLog l0 l1 = true then ∃ M g b, e = .returned (.tuple #[.pointer (some ⟨M, 0, none⟩), .int .i64 (mostM l1 l1.length), .bool true]) ∧ IsM w' M g (stM l1 l1.length) ∧ IsG b w' g l0.length l0 (ndm l0) (ord l0) (bel l0) (abv l0) else e = .returned (.tuple #[.pointer none, .int .i64 0, .bool false])
theorem RePost.no {l0 : List S47} {l1 : List S46} {w w' : World} (h : Below w.heap.size w w') (hn : okLog l0 l1 = false) : RePost l0 l1 w (.returned (.tuple #[.pointer none, .int .i64 0, .bool false])) w' := ⟨h, by rw [hn]; rfl⟩
theorem okLog_at {l0 : List S47} {l1 : List S46} {i : Nat} (hi : i < l1.length) (h : okAt l0 l1 i = false) : okLog l0 l1 = false := by
 cases hc : okLog l0 l1 with
 | false => rfl
 | true =>
  unfold okLog at hc
  simp only [Bool.and_eq_true, List.all_eq_true, List.mem_range] at hc
  have := hc.2.2 i hi
  rw [h] at this
  cases this
set_option maxHeartbeats 16000000 in
set_option maxRecDepth 1000000 in
theorem replay_calls {A0 A1 : Option Addr} {c0 c1 : Nat} {l0 : List S47} {l1 : List S46} {w : World} (hr0 : Kd.C k47 w A0 l0.length l0) (hc0 : l0.length ≤ c0) (hr1 : Kd.C k46 w A1 l1.length l1) (hc1 : l1.length ≤ c1) (ht : Tab w) :
  Calls Tryd.prog 30 #[.slice A0 l0.length c0, .slice A1 l1.length c1] w fun e w' => RePost l0 l1 w e w' := by
 cases hg : gok l0 with
 | false =>
  have HN := Aside0.mk (show okLog l0 l1 = false by unfold okLog; rw [hg, Bool.false_and])
  have HC := Aside0.mk (graphOf_no hg hr0 hc0)
  clear hg hr0 hc0 hr1 hc1 ht
  go_enter Tryd.func30, Tryd.ntmps30
  go_wp2_with (first | (go_at_call 43; refine HC.out.mono ?_; rintro e w1 ⟨rfl, hB⟩; have HB := Aside0.mk hB; clear hB))
  go_ret3
  exact RePost.no HB.out HN.out
 | true =>
  have HGO := Aside0.mk (graphOf_yes hg hr0 hc0 ht)
  have HR1 := Aside0.mk hr1
  have HT := Aside0.mk ht
  have HGK := Aside0.mk hg
  clear hr0 hc0 hr1 hc1 ht
  by_cases h16 : l1.length ≤ 16
  ·have q16 : ¬ ((16 : Int) < (l1.length : Int)) := by omega
   have H16 := Aside0.mk h16
   clear h16 hg
   go_enter Tryd.func30, Tryd.ntmps30
   go_wp2_with (first | (go_at_call 43; refine HGO.out.mono ?_; rintro e w1 ⟨g, rfl, hG, hB⟩; have HG := Aside0.mk hG; have HB := Aside0.mk hB; clear hG hB))
   have hMa : IsM (w1.alloc (.cells #[.pointer (some ⟨g, 0, none⟩), .int .u16 0, .int .u16 0, .int .i64 0, .int .i64 0, .int .i64 0, .int .i64 0, .int .i64 0, .int .i64 0, .int .i64 0, .int .i64 0, .int .i64 0, .int .i64 0, .int .i64 0, .int .i64 0, .int .i64 0, .int .i64 0, .int .i64 0, .int .i64 0] 61)) w1.heap.size g Mst.ini := al_new w1 _ _
   have hBa := below_alloc (Below.refl w1.heap.size w1) (.cells #[.pointer (some ⟨g, 0, none⟩), .int .u16 0, .int .u16 0, .int .i64 0, .int .i64 0, .int .i64 0, .int .i64 0, .int .i64 0, .int .i64 0, .int .i64 0, .int .i64 0, .int .i64 0, .int .i64 0, .int .i64 0, .int .i64 0, .int .i64 0, .int .i64 0, .int .i64 0, .int .i64 0] 61)
   generalize w1.alloc (.cells #[.pointer (some ⟨g, 0, none⟩), .int .u16 0, .int .u16 0, .int .i64 0, .int .i64 0, .int .i64 0, .int .i64 0, .int .i64 0, .int .i64 0, .int .i64 0, .int .i64 0, .int .i64 0, .int .i64 0, .int .i64 0, .int .i64 0, .int .i64 0, .int .i64 0, .int .i64 0, .int .i64 0] 61) = w2 at hMa hBa ⊢
   obtain ⟨M, hM⟩ : ∃ M, w1.heap.size = M := ⟨_, rfl⟩
   have HSZ := Aside0.mk (show w.heap.size ≤ M by have := HB.out.size; omega)
   rw [hM] at hMa hBa ⊢
   have HME := Aside0.mk hM
   have H1 := Aside0.mk hMa
   have H2 := Aside0.mk hBa
   clear hMa hBa hM
   go_loopw [10, 30] (fun v10 v30 w' => ∃ i : Nat, v30 = .int .i64 i ∧ v10 = .int .i64 (mostM l1 i) ∧ Aside0 (i ≤ l1.length) ∧ Aside0 (∀ j, j < i → okAt l0 l1 j = true) ∧ Aside0 (IsM w' M g (stM l1 i)) ∧ Aside0 (Below M w1 w')) (fun v10 v30 _ => l1.length - (intOf v30).toNat)
   case atStart => exact ⟨0, rfl, rfl, ⟨Nat.zero_le _⟩, ⟨fun j hj => by omega⟩, H1, H2⟩
   case round =>
    obtain ⟨i, rfl, rfl, HI, HO, HM, HK⟩ := hrel
    by_cases hlt : i < l1.length
    ·have hBW : Below w.heap.size w wr := HB.out.trans (HK.out.mono HSZ.out)
     have HMS := Aside0.mk (stM_ok i HO.out)
     have q30 : (i : Int) < (l1.length : Int) := by omega
     have HLT := Aside0.mk hlt
     have HGW := Aside0.mk (HG.out.below (HK.out.mono (Nat.le_of_eq HME.out)))
     obtain ⟨ad1, e1, hx0, hx1, hx2⟩ := at_T46 (Kd.C_below HR1.out hBW) (i : Int) (by omega) (by omega)
     obtain ⟨ev, hev⟩ : ∃ ev, rd_T46 l1 (i : Int) = ev := ⟨_, rfl⟩
     rw [hev, Int.toNat_natCast] at hx0 hx1 hx2
     subst e1
     have HEV := Aside0.mk hev
     have HBW := Aside0.mk hBW
     have HTK := Aside0.mk (fun (W : World) (h1 : IsG w.heap.size W g l0.length l0 (ndm l0) (ord l0) (bel l0) (abv l0)) (h2 : IsM W M g (stM l1 i)) => take_calls (e := ev) (gok_fine HGK.out) h1 h2 HMS.out)
     obtain ⟨okv, hok⟩ : ∃ b, okM l0 (stM l1 i) ev = b := ⟨_, rfl⟩
     rw [hok] at HTK
     have HOK := Aside0.mk hok
     clear hev hBW hlt hok
     go_wp2_with fail
     have hA := below_alloc (Below.refl wr.heap.size wr) (.cells #[.int .i64 ev.f0, .int .i64 ev.f1, .bool ev.f2] 46)
     have hGA := HGW.out.below hA
     have hMA : IsM (wr.alloc (.cells #[.int .i64 ev.f0, .int .i64 ev.f1, .bool ev.f2] 46)) M g (stM l1 i) := blk_alloc HM.out _
     have hEA := al_new wr 46 #[.int .i64 ev.f0, .int .i64 ev.f1, .bool ev.f2]
     have hMl := blk_lt HM.out
     have hKA := HK.out.trans (hA.mono (Nat.le_of_lt hMl))
     have hLA := Kd.C_below HR1.out (HBW.out.trans (hA.mono HBW.out.size))
     have hBA := HBW.out.trans (hA.mono HBW.out.size)
     obtain ⟨E, hE⟩ : ∃ E, wr.heap.size = E := ⟨_, rfl⟩
     rw [hE] at hEA hMl ⊢
     generalize wr.alloc (.cells #[.int .i64 ev.f0, .int .i64 ev.f1, .bool ev.f2] 46) = WA at hA hGA hMA hEA hKA hLA hBA ⊢
     have ce0 : WA.cell? ⟨E, 0, none⟩ = some (.int .i64 ev.f0) := (cell_blk hEA 0).trans rfl
     have ce1 : WA.cell? ⟨E, 1, none⟩ = some (.int .i64 ev.f1) := (cell_blk hEA 1).trans rfl
     have ce2 : WA.cell? ⟨E, 2, none⟩ = some (.bool ev.f2) := (cell_blk hEA 2).trans rfl
     have HGA := Aside0.mk hGA
     have HMA := Aside0.mk hMA
     have HEA := Aside0.mk hEA
     have HKA := Aside0.mk hKA
     have HLA := Aside0.mk hLA
     have HBA := Aside0.mk hBA
     have HML := Aside0.mk hMl
     clear hGA hMA hEA hKA hLA hBA hMl hE hx0 hx1 hx2 HGW HM HK HBW hA
     by_cases hz : i = 0
     ·have hz0 : (i : Int) = 0 := by omega
      have qz : ¬ (0 < i) := by omega
      have qz2 : ¬ ((0 : Int) < (i : Int)) := by omega
      have HPR := Aside0.mk (show i = 0 ∨ atM l1 (i - 1) ≤ atM l1 i from .inl hz)
      clear hz hz0
      cases okv with
      | false =>
       refine calm_wp ?_
       refine start_ (n := 19) (S := Drawn0 WA) (ds := [16]) (bs 19 0) (by kernel_rfl) rfl (by kernel_rfl) (Drawn0.step (Drawn0.refl WA) 1) (fun hHeld => ?_)
       obtain ⟨W4, e4⟩ : ∃ x, WA.drew = x := ⟨_, rfl⟩
       rw [e4] at hHeld ⊢
       clear e4
       refine pureN 0 35 (bs 19 1) ?_
       refine pureN 1 36 (bs 19 3) ?_
       refine pureN 2 37 (bs 19 7) ?_
       refine pureN 3 38 (bs 19 15) ?_ (hy := Or.inr ⟨by rfl, rfl⟩)
       refine pureN 4 39 (bs 19 31) ?_ (hy := Or.inr ⟨by rfl, rfl⟩)
       refine pureN 5 40 (bs 19 63) ?_ (hy := Or.inr ⟨by rfl, rfl⟩)
       refine pureN 6 41 (bs 19 127) ?_ (hy := Or.inr ⟨by rfl, rfl⟩)
       refine pureN 7 42 (bs 19 255) ?_ (hy := Or.inr ⟨by rfl, rfl⟩)
       refine pureN 8 43 (bs 19 511) ?_ (hy := Or.inr ⟨by rfl, rfl⟩)
       refine pureN 9 44 (bs 19 1023) ?_ (hy := Or.inr ⟨by rfl, rfl⟩)
       refine pureN 10 45 (bs 19 2047) ?_ (hy := Or.inr ⟨by rfl, rfl⟩)
       refine pureN 11 46 (bs 19 4095) ?_ (hy := Or.inr ⟨by rfl, rfl⟩)
       refine pureN 12 47 (bs 19 8191) ?_
       refine pureN 13 48 (bs 19 16383) ?_
       refine pureN 14 49 (bs 19 32767) ?_
       refine takeN 15 50 (bs 19 65535) hHeld rfl (.inl ⟨by rfl, fun w' s => by have ce0_ := (drawn_cell s _).trans ce0; have ce1_ := (drawn_cell s _).trans ce1; have ce2_ := (drawn_cell s _).trans ce2; go_simp; with_reducible rfl⟩) ?_
       refine last_ (i := 16) (N := some 51) (bs 19 131071) rfl rfl (by kernel_rfl) (by decide) (fun K hK => ?_)
       refine goes_ (f := 44) Tryd.func44 rfl rfl #[.pointer (some ⟨M, 0, none⟩), .agg #[.int .i64 ev.f0, .int .i64 ev.f1, .bool ev.f2]] (by rfl) rfl rfl (by first | rfl | (go_simp; try rfl)) ?_
       refine (HTK.out W4 (HGA.out.drawn hHeld) (IsM.drawn HMA.out hHeld)).mono ?_
       rintro x w7 ⟨rfl, hK7, hM7⟩
       refine ⟨_, rfl, hK.out _ _ ?_⟩
       clear hK K
       refine normN ?_
       refine pureN 17 52 (bs 19 262143) ?_
       refine pureN 18 53 (bs 19 524287) ?_
       refine done_ (by kernel_rfl) ?_
       refine calm_out ?_
       have hMs : M ≤ WA.heap.size := by have := HML.out; have := blk_lt HEA.out; omega
       have hb7 : Below w.heap.size w w7 := HBA.out.trans ((hHeld.below.mono HBA.out.size).trans (hK7.below.mono HSZ.out))
       have HNO := Aside0.mk (show Below w.heap.size w w7 ∧ okLog l0 l1 = false from ⟨hb7, okLog_at HLT.out (by unfold okAt; rw [HEV.out, HOK.out, Bool.and_false])⟩)
       clear hb7 hMs hM7 hK7 hHeld
       go_wp2
       go_ret3
       exact RePost.no HNO.out.1 HNO.out.2
      | true =>
       have HAT := Aside0.mk (show okAt l0 l1 i = true by unfold okAt; rw [HEV.out, HOK.out, Bool.and_true]; exact decide_eq_true HPR.out)
       refine calm_wp ?_
       refine start_ (n := 19) (S := Drawn0 WA) (ds := [16]) (bs 19 0) (by kernel_rfl) rfl (by kernel_rfl) (Drawn0.step (Drawn0.refl WA) 1) (fun hHeld => ?_)
       obtain ⟨W4, e4⟩ : ∃ x, WA.drew = x := ⟨_, rfl⟩
       rw [e4] at hHeld ⊢
       clear e4
       refine pureN 0 35 (bs 19 1) ?_
       refine pureN 1 36 (bs 19 3) ?_
       refine pureN 2 37 (bs 19 7) ?_
       refine pureN 3 38 (bs 19 15) ?_ (hy := Or.inr ⟨by rfl, rfl⟩)
       refine pureN 4 39 (bs 19 31) ?_ (hy := Or.inr ⟨by rfl, rfl⟩)
       refine pureN 5 40 (bs 19 63) ?_ (hy := Or.inr ⟨by rfl, rfl⟩)
       refine pureN 6 41 (bs 19 127) ?_ (hy := Or.inr ⟨by rfl, rfl⟩)
       refine pureN 7 42 (bs 19 255) ?_ (hy := Or.inr ⟨by rfl, rfl⟩)
       refine pureN 8 43 (bs 19 511) ?_ (hy := Or.inr ⟨by rfl, rfl⟩)
       refine pureN 9 44 (bs 19 1023) ?_ (hy := Or.inr ⟨by rfl, rfl⟩)
       refine pureN 10 45 (bs 19 2047) ?_ (hy := Or.inr ⟨by rfl, rfl⟩)
       refine pureN 11 46 (bs 19 4095) ?_ (hy := Or.inr ⟨by rfl, rfl⟩)
       refine pureN 12 47 (bs 19 8191) ?_
       refine pureN 13 48 (bs 19 16383) ?_
       refine pureN 14 49 (bs 19 32767) ?_
       refine takeN 15 50 (bs 19 65535) hHeld rfl (.inl ⟨by rfl, fun w' s => by have ce0_ := (drawn_cell s _).trans ce0; have ce1_ := (drawn_cell s _).trans ce1; have ce2_ := (drawn_cell s _).trans ce2; go_simp; with_reducible rfl⟩) ?_
       refine last_ (i := 16) (N := some 51) (bs 19 131071) rfl rfl (by kernel_rfl) (by decide) (fun K hK => ?_)
       refine goes_ (f := 44) Tryd.func44 rfl rfl #[.pointer (some ⟨M, 0, none⟩), .agg #[.int .i64 ev.f0, .int .i64 ev.f1, .bool ev.f2]] (by rfl) rfl rfl (by first | rfl | (go_simp; try rfl)) ?_
       refine (HTK.out W4 (HGA.out.drawn hHeld) (IsM.drawn HMA.out hHeld)).mono ?_
       rintro x w7 ⟨rfl, hK7, hM7⟩
       refine ⟨_, rfl, hK.out _ _ ?_⟩
       clear hK K
       refine normN ?_
       refine pureN 17 52 (bs 19 262143) ?_
       refine pureN 18 53 (bs 19 524287) ?_
       refine done_ (by kernel_rfl) ?_
       refine calm_out ?_
       have hMs : M ≤ WA.heap.size := by have := HML.out; have := blk_lt HEA.out; omega
       have hb7 : Below w.heap.size w w7 := HBA.out.trans ((hHeld.below.mono HBA.out.size).trans (hK7.below.mono HSZ.out))
       have hk7 : Below M w1 w7 := HKA.out.trans ((hHeld.below.mono hMs).trans hK7.below)
       have hm7 : IsM w7 M g (stM l1 (i + 1)) := by rw [show stM l1 (i + 1) = stepM (stM l1 i) ev by rw [stM, HEV.out]]; exact hM7 rfl
       have he7 : w7.heap[E]? = some (.cells #[.int .i64 ev.f0, .int .i64 ev.f1, .bool ev.f2] 46 (0, 0)) := by
        have h4 : W4.heap[E]? = some (.cells #[.int .i64 ev.f0, .int .i64 ev.f1, .bool ev.f2] 46 (0, 0)) := by rw [drawn_heap hHeld]; exact HEA.out
        exact (hK7.off E (blk_lt h4) (by have := HML.out; omega)).trans h4
       have hstep : ∀ j, j < i + 1 → okAt l0 l1 j = true := fun j hj => by
        rcases Nat.lt_succ_iff_lt_or_eq.1 hj with h | h
        ·exact HO.out j h
        ·rw [h]; exact HAT.out
       have hs1 := stM_ok (l0 := l0) (l1 := l1) (i + 1) hstep
       clear hM7 hK7 hMs ce1 ce2
       clear ce0
       have hwn : wrap64 ((i : Int) + 1) = (i : Int) + 1 := w64 (by omega) (by have := H16.out; omega)
       go_wp2_with fail
       have HB7 := Aside0.mk hb7
       have HK7 := Aside0.mk hk7
       have HM7 := Aside0.mk hm7
       have HE7 := Aside0.mk he7
       have HS1 := Aside0.mk hs1
       have ce0 : w7.cell? ⟨E, 0, none⟩ = some (.int .i64 ev.f0) := (cell_blk he7 0).trans rfl
       clear hb7 hk7 hm7 he7 hs1 HKA HBA HMA HEA HGA hHeld HTK
       by_cases hend : i + 1 = l1.length
       ·have hwl : IntKind.i64.wrap ((l1.length : Int) - 1) = (i : Int) := by rw [wrapn (by omega) (by have := H16.out; omega)]; omega
        have HMX := Aside0.mk (show mostM l1 (i + 1) = mx (mostM l1 i) ((elems (andNot (stM l1 (i + 1)).bg (stM l1 (i + 1)).ov)).length : Int) by rw [mostM, if_pos (.inl hend)])
        clear hend
        go_quiet (fail)
        have gm : IsM (World.drewN w7 nq) M g (stM l1 (i + 1)) := HM7.out
        have gk := pw_below_drewN HK7.out nq
        have gb := pw_below_drewN HB7.out nq
        generalize World.drewN w7 nq = W8 at gm gk gb ⊢
        clear HM7 HK7 HB7 HE7 ce0
        obtain ⟨⟨bg, ov, be, cl⟩, hst⟩ : ∃ s, stM l1 (i + 1) = s := ⟨_, rfl⟩
        rw [hst] at gm HS1 HMX
        have cb := (cell_blk gm 1).trans (show (mc g ⟨bg, ov, be, cl⟩)[1]? = some (.int .u16 (bg : Nat)) from rfl)
        have co := (cell_blk gm 2).trans (show (mc g ⟨bg, ov, be, cl⟩)[2]? = some (.int .u16 (ov : Nat)) from rfl)
        have hb16 : bg < 65536 := Nat.lt_trans (pow8 (gok8 HGK.out) HS1.out.bg) (by decide)
        have ho16 : ov < 65536 := Nat.lt_trans (pow8 (gok8 HGK.out) HS1.out.ov) (by decide)
        have hand := andNot16 hb16 ho16
        dsimp only at HMX
        have hq16 : andNot bg ov < 65536 := Nat.lt_of_le_of_lt Nat.and_le_left hb16
        obtain ⟨q, hq⟩ : ∃ q, andNot bg ov = q := ⟨_, rfl⟩
        rw [hq] at hand HMX hq16
        have HQ := Aside0.mk (show q < 65536 ∧ True from ⟨hq16, trivial⟩)
        have HST := Aside0.mk hst
        have HM8 := Aside0.mk gm
        have HK8 := Aside0.mk gk
        have HB8 := Aside0.mk gb
        have HT8 := Aside0.mk (HT.out.below gb HT.out.pos)
        have H08 := Aside0.mk (show 0 < W8.heap.size by have := gb.size; have := HT.out.pos; omega)
        clear gm gk gb hst hb16 ho16 hq hq16
        go_wp2_with fail
        refine calm_wpQ ?_
        refine start_ (n := 14) (S := Drawn0 W8) (ds := [10]) (bs 14 0) (by kernel_rfl) rfl (by kernel_rfl) (Drawn0.step (Drawn0.refl W8) 1) (fun hHeld => ?_)
        obtain ⟨W9, e9⟩ : ∃ x, W8.drew = x := ⟨_, rfl⟩
        rw [e9] at hHeld ⊢
        clear e9
        refine pureN 0 70 (bs 14 1) ?_
        refine pureN 1 71 (bs 14 3) ?_
        refine pureN 2 72 (bs 14 7) ?_
        refine pureN 3 73 (bs 14 15) ?_
        refine takeN 4 74 (bs 14 31) hHeld rfl (.inl ⟨by rfl, fun w' s => by have cb_ := (drawn_cell s _).trans cb; go_simp; with_reducible rfl⟩) ?_
        refine pureN 5 75 (bs 14 63) ?_
        refine pureN 6 76 (bs 14 127) ?_
        refine pureN 7 77 (bs 14 255) ?_
        refine takeN 8 78 (bs 14 511) hHeld rfl (.inl ⟨by rfl, fun w' s => by have co_ := (drawn_cell s _).trans co; go_simp; with_reducible rfl⟩) ?_
        refine pureN 9 79 (bs 14 1023) ?_
        refine last_ (i := 10) (N := some 80) (bs 14 2047) rfl rfl (by kernel_rfl) (by decide) (fun K hK => ?_)
        refine goes_ (f := 33) Tryd.func33 rfl rfl #[.int .u16 (q : Nat)] (by rfl) rfl rfl (by first | rfl | (go_simp; try rfl)) ?_
        refine (list_calls HQ.out.1 (HT8.out.below hHeld.below H08.out) (by rw [drawn_size hHeld]; exact H08.out)).mono ?_
        rintro x w9 ⟨v0, rfl, hR9, hB9⟩
        obtain ⟨Av, cv, rfl⟩ := Kd.R_slice hR9
        refine ⟨_, rfl, hK.out _ _ ?_⟩
        clear hK K hR9
        refine normN ?_
        refine pureN 11 81 (bs 14 4095) ?_
        refine pureN 12 82 (bs 14 8191) ?_
        refine pureN 13 10 (bs 14 16383) ?_
        refine done_ (by kernel_rfl) ?_
        refine calm_out ?_
        have gm : IsM w9 M g (stM l1 (i + 1)) := by rw [HST.out]; exact (IsM.drawn HM8.out hHeld).below hB9
        have hMs8 : M ≤ W8.heap.size := Nat.le_of_lt (blk_lt HM8.out)
        have gk : Below M w1 w9 := HK8.out.trans ((hHeld.below.mono hMs8).trans (hB9.mono (by rw [drawn_size hHeld]; exact hMs8)))
        have HX := Aside0.mk (show IsM w9 M g (stM l1 (i + 1)) ∧ Below M w1 w9 from ⟨gm, gk⟩)
        clear gm gk hB9 hHeld hand cb co hMs8
        go_wp2_with fail
        go_roundw
        case rel => exact ⟨i + 1, by first | rfl | (congr 1; done) | (rw [HI1.out]) | (congr 1; omega), by rw [HMX.out, castL_length]; rfl, ⟨HLT.out⟩, ⟨hstep⟩, ⟨HX.out.1⟩, ⟨HX.out.2⟩⟩
        case measure => simp [intOf]; have := HLT.out; first | omega | (have := HI1.out; omega)
       ·obtain ⟨m, hm⟩ : ∃ m, l1.length = m + 1 := ⟨l1.length - 1, by have := HLT.out; omega⟩
        have hwl : IntKind.i64.wrap ((l1.length : Int) - 1) = (m : Int) := by rw [wrapn (by omega) (by have := H16.out; omega)]; omega
        have hbe : ((i : Int) == (m : Int)) = false := beq_eq_false_iff_ne.2 (by omega)
        have hlt2 : i + 1 < l1.length := by have := HLT.out; omega
        have HNE := Aside0.mk hend
        obtain ⟨i1, hi1⟩ : ∃ k, i + 1 = k := ⟨_, rfl⟩
        have hwi : IntKind.i64.wrap ((i : Int) + 1) = (i1 : Int) := by rw [wrapn (by omega) (by have := H16.out; omega)]; omega
        have qi1 : (i1 : Int) < (l1.length : Int) := by omega
        obtain ⟨ad2', e2, cn0, _⟩ := at_T46 (Kd.C_below HR1.out HB7.out) (i1 : Int) (by omega) (by omega)
        cases e2
        rw [Int.toNat_natCast] at cn0
        obtain ⟨nx, hnx⟩ : ∃ x, (rd_T46 l1 (i1 : Int)).f0 = x := ⟨_, rfl⟩
        rw [hnx] at cn0
        have hat : atM l1 i = ev.f0 ∧ atM l1 (i + 1) = nx := ⟨by unfold atM; rw [HEV.out], by unfold atM; rw [hi1, hnx]⟩
        have HI1 := Aside0.mk hi1
        clear hend hm hlt2 hi1 hnx
        by_cases hgn : ev.f0 < nx
        ·have hbn : decide (ev.f0 < nx) = true := decide_eq_true hgn
         have HMX := Aside0.mk (show mostM l1 (i + 1) = mx (mostM l1 i) ((elems (andNot (stM l1 (i + 1)).bg (stM l1 (i + 1)).ov)).length : Int) by rw [mostM, if_pos (.inr (by rw [hat.1, hat.2]; exact hgn))])
         clear hat hgn
         go_quiet (fail)
         have gm : IsM (World.drewN w7 nq) M g (stM l1 (i + 1)) := HM7.out
         have gk := pw_below_drewN HK7.out nq
         have gb := pw_below_drewN HB7.out nq
         generalize World.drewN w7 nq = W8 at gm gk gb ⊢
         clear HM7 HK7 HB7 HE7 ce0
         obtain ⟨⟨bg, ov, be, cl⟩, hst⟩ : ∃ s, stM l1 (i + 1) = s := ⟨_, rfl⟩
         rw [hst] at gm HS1 HMX
         have cb := (cell_blk gm 1).trans (show (mc g ⟨bg, ov, be, cl⟩)[1]? = some (.int .u16 (bg : Nat)) from rfl)
         have co := (cell_blk gm 2).trans (show (mc g ⟨bg, ov, be, cl⟩)[2]? = some (.int .u16 (ov : Nat)) from rfl)
         have hb16 : bg < 65536 := Nat.lt_trans (pow8 (gok8 HGK.out) HS1.out.bg) (by decide)
         have ho16 : ov < 65536 := Nat.lt_trans (pow8 (gok8 HGK.out) HS1.out.ov) (by decide)
         have hand := andNot16 hb16 ho16
         dsimp only at HMX
         have hq16 : andNot bg ov < 65536 := Nat.lt_of_le_of_lt Nat.and_le_left hb16
         obtain ⟨q, hq⟩ : ∃ q, andNot bg ov = q := ⟨_, rfl⟩
         rw [hq] at hand HMX hq16
         have HQ := Aside0.mk (show q < 65536 ∧ True from ⟨hq16, trivial⟩)
         have HST := Aside0.mk hst
         have HM8 := Aside0.mk gm
         have HK8 := Aside0.mk gk
         have HB8 := Aside0.mk gb
         have HT8 := Aside0.mk (HT.out.below gb HT.out.pos)
         have H08 := Aside0.mk (show 0 < W8.heap.size by have := gb.size; have := HT.out.pos; omega)
         clear gm gk gb hst hb16 ho16 hq hq16
         go_wp2_with fail
         refine calm_wpQ ?_
         refine start_ (n := 14) (S := Drawn0 W8) (ds := [10]) (bs 14 0) (by kernel_rfl) rfl (by kernel_rfl) (Drawn0.step (Drawn0.refl W8) 1) (fun hHeld => ?_)
         obtain ⟨W9, e9⟩ : ∃ x, W8.drew = x := ⟨_, rfl⟩
         rw [e9] at hHeld ⊢
         clear e9
         refine pureN 0 70 (bs 14 1) ?_
         refine pureN 1 71 (bs 14 3) ?_
         refine pureN 2 72 (bs 14 7) ?_
         refine pureN 3 73 (bs 14 15) ?_
         refine takeN 4 74 (bs 14 31) hHeld rfl (.inl ⟨by rfl, fun w' s => by have cb_ := (drawn_cell s _).trans cb; go_simp; with_reducible rfl⟩) ?_
         refine pureN 5 75 (bs 14 63) ?_
         refine pureN 6 76 (bs 14 127) ?_
         refine pureN 7 77 (bs 14 255) ?_
         refine takeN 8 78 (bs 14 511) hHeld rfl (.inl ⟨by rfl, fun w' s => by have co_ := (drawn_cell s _).trans co; go_simp; with_reducible rfl⟩) ?_
         refine pureN 9 79 (bs 14 1023) ?_
         refine last_ (i := 10) (N := some 80) (bs 14 2047) rfl rfl (by kernel_rfl) (by decide) (fun K hK => ?_)
         refine goes_ (f := 33) Tryd.func33 rfl rfl #[.int .u16 (q : Nat)] (by rfl) rfl rfl (by first | rfl | (go_simp; try rfl)) ?_
         refine (list_calls HQ.out.1 (HT8.out.below hHeld.below H08.out) (by rw [drawn_size hHeld]; exact H08.out)).mono ?_
         rintro x w9 ⟨v0, rfl, hR9, hB9⟩
         obtain ⟨Av, cv, rfl⟩ := Kd.R_slice hR9
         refine ⟨_, rfl, hK.out _ _ ?_⟩
         clear hK K hR9
         refine normN ?_
         refine pureN 11 81 (bs 14 4095) ?_
         refine pureN 12 82 (bs 14 8191) ?_
         refine pureN 13 10 (bs 14 16383) ?_
         refine done_ (by kernel_rfl) ?_
         refine calm_out ?_
         have gm : IsM w9 M g (stM l1 (i + 1)) := by rw [HST.out]; exact (IsM.drawn HM8.out hHeld).below hB9
         have hMs8 : M ≤ W8.heap.size := Nat.le_of_lt (blk_lt HM8.out)
         have gk : Below M w1 w9 := HK8.out.trans ((hHeld.below.mono hMs8).trans (hB9.mono (by rw [drawn_size hHeld]; exact hMs8)))
         have HX := Aside0.mk (show IsM w9 M g (stM l1 (i + 1)) ∧ Below M w1 w9 from ⟨gm, gk⟩)
         clear gm gk hB9 hHeld hand cb co hMs8
         go_wp2_with fail
         go_roundw
         case rel => exact ⟨i + 1, by first | rfl | (congr 1; done) | (rw [HI1.out]) | (congr 1; omega), by rw [HMX.out, castL_length]; rfl, ⟨HLT.out⟩, ⟨hstep⟩, ⟨HX.out.1⟩, ⟨HX.out.2⟩⟩
         case measure => simp [intOf]; have := HLT.out; first | omega | (have := HI1.out; omega)
        ·have hbn : decide (ev.f0 < nx) = false := decide_eq_false hgn
         have HMX := Aside0.mk (show mostM l1 (i + 1) = mostM l1 i by rw [mostM, if_neg (by rw [hat.1, hat.2]; exact fun h => h.elim HNE.out hgn)])
         clear hat hgn
         go_quiet (fail)
         go_wp2
         go_roundw
         case rel => exact ⟨i + 1, by first | rfl | (congr 1; done) | (rw [HI1.out]) | (congr 1; omega), by rw [HMX.out], ⟨HLT.out⟩, ⟨hstep⟩, ⟨HM7.out⟩, ⟨pw_below_drewN HK7.out _⟩⟩
         case measure => simp [intOf]; have := HLT.out; first | omega | (have := HI1.out; omega)
     ·obtain ⟨j, hj⟩ : ∃ j, i = j + 1 := ⟨i - 1, by omega⟩
      have qi0 : (0 : Int) < (i : Int) := by omega
      have qi1 : 0 < i := by omega
      have hwj : IntKind.i64.wrap ((i : Int) - 1) = (j : Int) := by rw [wrapn (by omega) (by have := H16.out; omega)]; omega
      have hwk : wrap64 ((i : Int) - 1) = (j : Int) := by rw [w64 (by omega) (by have := H16.out; omega)]; omega
      have qj : (j : Int) < (l1.length : Int) := by omega
      obtain ⟨ad1', e1, cp0, _⟩ := at_T46 HLA.out (j : Int) (by omega) (by omega)
      cases e1
      rw [Int.toNat_natCast] at cp0
      obtain ⟨pv, hpv⟩ : ∃ x, (rd_T46 l1 (j : Int)).f0 = x := ⟨_, rfl⟩
      rw [hpv] at cp0
      by_cases hgt : ev.f0 < pv
      ·have hbt : decide (ev.f0 < pv) = true := decide_eq_true hgt
       have HNO := Aside0.mk (okLog_at (l0 := l0) HLT.out (show okAt l0 l1 i = false by
        unfold okAt
        rw [decide_eq_false (by unfold atM; rw [HEV.out, hj, Nat.add_sub_cancel, hpv]; omega), Bool.false_and]))
       go_quiet (fail)
       go_wp2
       go_ret3
       exact RePost.no (pw_below_drewN HBA.out _) HNO.out
      ·have hbt : decide (ev.f0 < pv) = false := decide_eq_false hgt
       have hbt2 := hgt
       have HPR := Aside0.mk (show i = 0 ∨ atM l1 (i - 1) ≤ atM l1 i from .inr (by unfold atM; rw [HEV.out, hj, Nat.add_sub_cancel, hpv]; omega))
       clear hgt hj hpv hz
       cases okv with
       | false =>
        refine calm_wp ?_
        refine start_ (n := 19) (S := Drawn0 WA) (ds := [16]) (bs 19 0) (by kernel_rfl) rfl (by kernel_rfl) (Drawn0.step (Drawn0.refl WA) 1) (fun hHeld => ?_)
        obtain ⟨W4, e4⟩ : ∃ x, WA.drew = x := ⟨_, rfl⟩
        rw [e4] at hHeld ⊢
        clear e4
        refine pureN 0 35 (bs 19 1) ?_
        refine pureN 1 36 (bs 19 3) ?_
        refine pureN 2 37 (bs 19 7) ?_
        refine pureN 3 38 (bs 19 15) ?_
        refine pureN 4 39 (bs 19 31) ?_
        refine pureN 5 40 (bs 19 63) ?_
        refine pureN 6 41 (bs 19 127) ?_
        refine pureN 7 42 (bs 19 255) ?_
        refine takeN 8 43 (bs 19 511) hHeld rfl (.inl ⟨by rfl, fun w' s => by have cp0_ := (drawn_cell s _).trans cp0; go_simp; with_reducible rfl⟩) ?_
        refine pureN 9 44 (bs 19 1023) ?_
        refine takeN 10 45 (bs 19 2047) hHeld rfl (.inl ⟨by rfl, fun w' s => by have ce0_ := (drawn_cell s _).trans ce0; go_simp; with_reducible rfl⟩) ?_
        refine pureN 11 46 (bs 19 4095) ?_
        refine pureN 12 47 (bs 19 8191) ?_
        refine pureN 13 48 (bs 19 16383) ?_
        refine pureN 14 49 (bs 19 32767) ?_
        refine takeN 15 50 (bs 19 65535) hHeld rfl (.inl ⟨by rfl, fun w' s => by have ce0_ := (drawn_cell s _).trans ce0; have ce1_ := (drawn_cell s _).trans ce1; have ce2_ := (drawn_cell s _).trans ce2; go_simp; with_reducible rfl⟩) ?_
        refine last_ (i := 16) (N := some 51) (bs 19 131071) rfl rfl (by kernel_rfl) (by decide) (fun K hK => ?_)
        refine goes_ (f := 44) Tryd.func44 rfl rfl #[.pointer (some ⟨M, 0, none⟩), .agg #[.int .i64 ev.f0, .int .i64 ev.f1, .bool ev.f2]] (by rfl) rfl rfl (by first | rfl | (go_simp; try rfl)) ?_
        refine (HTK.out W4 (HGA.out.drawn hHeld) (IsM.drawn HMA.out hHeld)).mono ?_
        rintro x w7 ⟨rfl, hK7, hM7⟩
        refine ⟨_, rfl, hK.out _ _ ?_⟩
        clear hK K
        refine normN ?_
        refine pureN 17 52 (bs 19 262143) ?_
        refine pureN 18 53 (bs 19 524287) ?_
        refine done_ (by kernel_rfl) ?_
        refine calm_out ?_
        have hMs : M ≤ WA.heap.size := by have := HML.out; have := blk_lt HEA.out; omega
        have hb7 : Below w.heap.size w w7 := HBA.out.trans ((hHeld.below.mono HBA.out.size).trans (hK7.below.mono HSZ.out))
        have HNO := Aside0.mk (show Below w.heap.size w w7 ∧ okLog l0 l1 = false from ⟨hb7, okLog_at HLT.out (by unfold okAt; rw [HEV.out, HOK.out, Bool.and_false])⟩)
        clear hb7 hMs hM7 hK7 hHeld
        go_wp2
        go_ret3
        exact RePost.no HNO.out.1 HNO.out.2
       | true =>
        have HAT := Aside0.mk (show okAt l0 l1 i = true by unfold okAt; rw [HEV.out, HOK.out, Bool.and_true]; exact decide_eq_true HPR.out)
        refine calm_wp ?_
        refine start_ (n := 19) (S := Drawn0 WA) (ds := [16]) (bs 19 0) (by kernel_rfl) rfl (by kernel_rfl) (Drawn0.step (Drawn0.refl WA) 1) (fun hHeld => ?_)
        obtain ⟨W4, e4⟩ : ∃ x, WA.drew = x := ⟨_, rfl⟩
        rw [e4] at hHeld ⊢
        clear e4
        refine pureN 0 35 (bs 19 1) ?_
        refine pureN 1 36 (bs 19 3) ?_
        refine pureN 2 37 (bs 19 7) ?_
        refine pureN 3 38 (bs 19 15) ?_
        refine pureN 4 39 (bs 19 31) ?_
        refine pureN 5 40 (bs 19 63) ?_
        refine pureN 6 41 (bs 19 127) ?_
        refine pureN 7 42 (bs 19 255) ?_
        refine takeN 8 43 (bs 19 511) hHeld rfl (.inl ⟨by rfl, fun w' s => by have cp0_ := (drawn_cell s _).trans cp0; go_simp; with_reducible rfl⟩) ?_
        refine pureN 9 44 (bs 19 1023) ?_
        refine takeN 10 45 (bs 19 2047) hHeld rfl (.inl ⟨by rfl, fun w' s => by have ce0_ := (drawn_cell s _).trans ce0; go_simp; with_reducible rfl⟩) ?_
        refine pureN 11 46 (bs 19 4095) ?_
        refine pureN 12 47 (bs 19 8191) ?_
        refine pureN 13 48 (bs 19 16383) ?_
        refine pureN 14 49 (bs 19 32767) ?_
        refine takeN 15 50 (bs 19 65535) hHeld rfl (.inl ⟨by rfl, fun w' s => by have ce0_ := (drawn_cell s _).trans ce0; have ce1_ := (drawn_cell s _).trans ce1; have ce2_ := (drawn_cell s _).trans ce2; go_simp; with_reducible rfl⟩) ?_
        refine last_ (i := 16) (N := some 51) (bs 19 131071) rfl rfl (by kernel_rfl) (by decide) (fun K hK => ?_)
        refine goes_ (f := 44) Tryd.func44 rfl rfl #[.pointer (some ⟨M, 0, none⟩), .agg #[.int .i64 ev.f0, .int .i64 ev.f1, .bool ev.f2]] (by rfl) rfl rfl (by first | rfl | (go_simp; try rfl)) ?_
        refine (HTK.out W4 (HGA.out.drawn hHeld) (IsM.drawn HMA.out hHeld)).mono ?_
        rintro x w7 ⟨rfl, hK7, hM7⟩
        refine ⟨_, rfl, hK.out _ _ ?_⟩
        clear hK K
        refine normN ?_
        refine pureN 17 52 (bs 19 262143) ?_
        refine pureN 18 53 (bs 19 524287) ?_
        refine done_ (by kernel_rfl) ?_
        refine calm_out ?_
        have hMs : M ≤ WA.heap.size := by have := HML.out; have := blk_lt HEA.out; omega
        have hb7 : Below w.heap.size w w7 := HBA.out.trans ((hHeld.below.mono HBA.out.size).trans (hK7.below.mono HSZ.out))
        have hk7 : Below M w1 w7 := HKA.out.trans ((hHeld.below.mono hMs).trans hK7.below)
        have hm7 : IsM w7 M g (stM l1 (i + 1)) := by rw [show stM l1 (i + 1) = stepM (stM l1 i) ev by rw [stM, HEV.out]]; exact hM7 rfl
        have he7 : w7.heap[E]? = some (.cells #[.int .i64 ev.f0, .int .i64 ev.f1, .bool ev.f2] 46 (0, 0)) := by
         have h4 : W4.heap[E]? = some (.cells #[.int .i64 ev.f0, .int .i64 ev.f1, .bool ev.f2] 46 (0, 0)) := by rw [drawn_heap hHeld]; exact HEA.out
         exact (hK7.off E (blk_lt h4) (by have := HML.out; omega)).trans h4
        have hstep : ∀ j, j < i + 1 → okAt l0 l1 j = true := fun j hj => by
         rcases Nat.lt_succ_iff_lt_or_eq.1 hj with h | h
         ·exact HO.out j h
         ·rw [h]; exact HAT.out
        have hs1 := stM_ok (l0 := l0) (l1 := l1) (i + 1) hstep
        clear hM7 hK7 hMs ce1 ce2
        clear ce0
        have hwn : wrap64 ((i : Int) + 1) = (i : Int) + 1 := w64 (by omega) (by have := H16.out; omega)
        go_wp2_with fail
        have HB7 := Aside0.mk hb7
        have HK7 := Aside0.mk hk7
        have HM7 := Aside0.mk hm7
        have HE7 := Aside0.mk he7
        have HS1 := Aside0.mk hs1
        have ce0 : w7.cell? ⟨E, 0, none⟩ = some (.int .i64 ev.f0) := (cell_blk he7 0).trans rfl
        clear hb7 hk7 hm7 he7 hs1 HKA HBA HMA HEA HGA hHeld HTK
        by_cases hend : i + 1 = l1.length
        ·have hwl : IntKind.i64.wrap ((l1.length : Int) - 1) = (i : Int) := by rw [wrapn (by omega) (by have := H16.out; omega)]; omega
         have HMX := Aside0.mk (show mostM l1 (i + 1) = mx (mostM l1 i) ((elems (andNot (stM l1 (i + 1)).bg (stM l1 (i + 1)).ov)).length : Int) by rw [mostM, if_pos (.inl hend)])
         clear hend
         go_quiet (fail)
         have gm : IsM (World.drewN w7 nq) M g (stM l1 (i + 1)) := HM7.out
         have gk := pw_below_drewN HK7.out nq
         have gb := pw_below_drewN HB7.out nq
         generalize World.drewN w7 nq = W8 at gm gk gb ⊢
         clear HM7 HK7 HB7 HE7 ce0
         obtain ⟨⟨bg, ov, be, cl⟩, hst⟩ : ∃ s, stM l1 (i + 1) = s := ⟨_, rfl⟩
         rw [hst] at gm HS1 HMX
         have cb := (cell_blk gm 1).trans (show (mc g ⟨bg, ov, be, cl⟩)[1]? = some (.int .u16 (bg : Nat)) from rfl)
         have co := (cell_blk gm 2).trans (show (mc g ⟨bg, ov, be, cl⟩)[2]? = some (.int .u16 (ov : Nat)) from rfl)
         have hb16 : bg < 65536 := Nat.lt_trans (pow8 (gok8 HGK.out) HS1.out.bg) (by decide)
         have ho16 : ov < 65536 := Nat.lt_trans (pow8 (gok8 HGK.out) HS1.out.ov) (by decide)
         have hand := andNot16 hb16 ho16
         dsimp only at HMX
         have hq16 : andNot bg ov < 65536 := Nat.lt_of_le_of_lt Nat.and_le_left hb16
         obtain ⟨q, hq⟩ : ∃ q, andNot bg ov = q := ⟨_, rfl⟩
         rw [hq] at hand HMX hq16
         have HQ := Aside0.mk (show q < 65536 ∧ True from ⟨hq16, trivial⟩)
         have HST := Aside0.mk hst
         have HM8 := Aside0.mk gm
         have HK8 := Aside0.mk gk
         have HB8 := Aside0.mk gb
         have HT8 := Aside0.mk (HT.out.below gb HT.out.pos)
         have H08 := Aside0.mk (show 0 < W8.heap.size by have := gb.size; have := HT.out.pos; omega)
         clear gm gk gb hst hb16 ho16 hq hq16
         go_wp2_with fail
         refine calm_wpQ ?_
         refine start_ (n := 14) (S := Drawn0 W8) (ds := [10]) (bs 14 0) (by kernel_rfl) rfl (by kernel_rfl) (Drawn0.step (Drawn0.refl W8) 1) (fun hHeld => ?_)
         obtain ⟨W9, e9⟩ : ∃ x, W8.drew = x := ⟨_, rfl⟩
         rw [e9] at hHeld ⊢
         clear e9
         refine pureN 0 70 (bs 14 1) ?_
         refine pureN 1 71 (bs 14 3) ?_
         refine pureN 2 72 (bs 14 7) ?_
         refine pureN 3 73 (bs 14 15) ?_
         refine takeN 4 74 (bs 14 31) hHeld rfl (.inl ⟨by rfl, fun w' s => by have cb_ := (drawn_cell s _).trans cb; go_simp; with_reducible rfl⟩) ?_
         refine pureN 5 75 (bs 14 63) ?_
         refine pureN 6 76 (bs 14 127) ?_
         refine pureN 7 77 (bs 14 255) ?_
         refine takeN 8 78 (bs 14 511) hHeld rfl (.inl ⟨by rfl, fun w' s => by have co_ := (drawn_cell s _).trans co; go_simp; with_reducible rfl⟩) ?_
         refine pureN 9 79 (bs 14 1023) ?_
         refine last_ (i := 10) (N := some 80) (bs 14 2047) rfl rfl (by kernel_rfl) (by decide) (fun K hK => ?_)
         refine goes_ (f := 33) Tryd.func33 rfl rfl #[.int .u16 (q : Nat)] (by rfl) rfl rfl (by first | rfl | (go_simp; try rfl)) ?_
         refine (list_calls HQ.out.1 (HT8.out.below hHeld.below H08.out) (by rw [drawn_size hHeld]; exact H08.out)).mono ?_
         rintro x w9 ⟨v0, rfl, hR9, hB9⟩
         obtain ⟨Av, cv, rfl⟩ := Kd.R_slice hR9
         refine ⟨_, rfl, hK.out _ _ ?_⟩
         clear hK K hR9
         refine normN ?_
         refine pureN 11 81 (bs 14 4095) ?_
         refine pureN 12 82 (bs 14 8191) ?_
         refine pureN 13 10 (bs 14 16383) ?_
         refine done_ (by kernel_rfl) ?_
         refine calm_out ?_
         have gm : IsM w9 M g (stM l1 (i + 1)) := by rw [HST.out]; exact (IsM.drawn HM8.out hHeld).below hB9
         have hMs8 : M ≤ W8.heap.size := Nat.le_of_lt (blk_lt HM8.out)
         have gk : Below M w1 w9 := HK8.out.trans ((hHeld.below.mono hMs8).trans (hB9.mono (by rw [drawn_size hHeld]; exact hMs8)))
         have HX := Aside0.mk (show IsM w9 M g (stM l1 (i + 1)) ∧ Below M w1 w9 from ⟨gm, gk⟩)
         clear gm gk hB9 hHeld hand cb co hMs8
         go_wp2_with fail
         go_roundw
         case rel => exact ⟨i + 1, by first | rfl | (congr 1; done) | (rw [HI1.out]) | (congr 1; omega), by rw [HMX.out, castL_length]; rfl, ⟨HLT.out⟩, ⟨hstep⟩, ⟨HX.out.1⟩, ⟨HX.out.2⟩⟩
         case measure => simp [intOf]; have := HLT.out; first | omega | (have := HI1.out; omega)
        ·obtain ⟨m, hm⟩ : ∃ m, l1.length = m + 1 := ⟨l1.length - 1, by have := HLT.out; omega⟩
         have hwl : IntKind.i64.wrap ((l1.length : Int) - 1) = (m : Int) := by rw [wrapn (by omega) (by have := H16.out; omega)]; omega
         have hbe : ((i : Int) == (m : Int)) = false := beq_eq_false_iff_ne.2 (by omega)
         have hlt2 : i + 1 < l1.length := by have := HLT.out; omega
         have HNE := Aside0.mk hend
         obtain ⟨i1, hi1⟩ : ∃ k, i + 1 = k := ⟨_, rfl⟩
         have hwi : IntKind.i64.wrap ((i : Int) + 1) = (i1 : Int) := by rw [wrapn (by omega) (by have := H16.out; omega)]; omega
         have qi1 : (i1 : Int) < (l1.length : Int) := by omega
         obtain ⟨ad2', e2, cn0, _⟩ := at_T46 (Kd.C_below HR1.out HB7.out) (i1 : Int) (by omega) (by omega)
         cases e2
         rw [Int.toNat_natCast] at cn0
         obtain ⟨nx, hnx⟩ : ∃ x, (rd_T46 l1 (i1 : Int)).f0 = x := ⟨_, rfl⟩
         rw [hnx] at cn0
         have hat : atM l1 i = ev.f0 ∧ atM l1 (i + 1) = nx := ⟨by unfold atM; rw [HEV.out], by unfold atM; rw [hi1, hnx]⟩
         have HI1 := Aside0.mk hi1
         clear hend hm hlt2 hi1 hnx
         by_cases hgn : ev.f0 < nx
         ·have hbn : decide (ev.f0 < nx) = true := decide_eq_true hgn
          have HMX := Aside0.mk (show mostM l1 (i + 1) = mx (mostM l1 i) ((elems (andNot (stM l1 (i + 1)).bg (stM l1 (i + 1)).ov)).length : Int) by rw [mostM, if_pos (.inr (by rw [hat.1, hat.2]; exact hgn))])
          clear hat hgn
          go_quiet (fail)
          have gm : IsM (World.drewN w7 nq) M g (stM l1 (i + 1)) := HM7.out
          have gk := pw_below_drewN HK7.out nq
          have gb := pw_below_drewN HB7.out nq
          generalize World.drewN w7 nq = W8 at gm gk gb ⊢
          clear HM7 HK7 HB7 HE7 ce0
          obtain ⟨⟨bg, ov, be, cl⟩, hst⟩ : ∃ s, stM l1 (i + 1) = s := ⟨_, rfl⟩
          rw [hst] at gm HS1 HMX
          have cb := (cell_blk gm 1).trans (show (mc g ⟨bg, ov, be, cl⟩)[1]? = some (.int .u16 (bg : Nat)) from rfl)
          have co := (cell_blk gm 2).trans (show (mc g ⟨bg, ov, be, cl⟩)[2]? = some (.int .u16 (ov : Nat)) from rfl)
          have hb16 : bg < 65536 := Nat.lt_trans (pow8 (gok8 HGK.out) HS1.out.bg) (by decide)
          have ho16 : ov < 65536 := Nat.lt_trans (pow8 (gok8 HGK.out) HS1.out.ov) (by decide)
          have hand := andNot16 hb16 ho16
          dsimp only at HMX
          have hq16 : andNot bg ov < 65536 := Nat.lt_of_le_of_lt Nat.and_le_left hb16
          obtain ⟨q, hq⟩ : ∃ q, andNot bg ov = q := ⟨_, rfl⟩
          rw [hq] at hand HMX hq16
          have HQ := Aside0.mk (show q < 65536 ∧ True from ⟨hq16, trivial⟩)
          have HST := Aside0.mk hst
          have HM8 := Aside0.mk gm
          have HK8 := Aside0.mk gk
          have HB8 := Aside0.mk gb
          have HT8 := Aside0.mk (HT.out.below gb HT.out.pos)
          have H08 := Aside0.mk (show 0 < W8.heap.size by have := gb.size; have := HT.out.pos; omega)
          clear gm gk gb hst hb16 ho16 hq hq16
          go_wp2_with fail
          refine calm_wpQ ?_
          refine start_ (n := 14) (S := Drawn0 W8) (ds := [10]) (bs 14 0) (by kernel_rfl) rfl (by kernel_rfl) (Drawn0.step (Drawn0.refl W8) 1) (fun hHeld => ?_)
          obtain ⟨W9, e9⟩ : ∃ x, W8.drew = x := ⟨_, rfl⟩
          rw [e9] at hHeld ⊢
          clear e9
          refine pureN 0 70 (bs 14 1) ?_
          refine pureN 1 71 (bs 14 3) ?_
          refine pureN 2 72 (bs 14 7) ?_
          refine pureN 3 73 (bs 14 15) ?_
          refine takeN 4 74 (bs 14 31) hHeld rfl (.inl ⟨by rfl, fun w' s => by have cb_ := (drawn_cell s _).trans cb; go_simp; with_reducible rfl⟩) ?_
          refine pureN 5 75 (bs 14 63) ?_
          refine pureN 6 76 (bs 14 127) ?_
          refine pureN 7 77 (bs 14 255) ?_
          refine takeN 8 78 (bs 14 511) hHeld rfl (.inl ⟨by rfl, fun w' s => by have co_ := (drawn_cell s _).trans co; go_simp; with_reducible rfl⟩) ?_
          refine pureN 9 79 (bs 14 1023) ?_
          refine last_ (i := 10) (N := some 80) (bs 14 2047) rfl rfl (by kernel_rfl) (by decide) (fun K hK => ?_)
          refine goes_ (f := 33) Tryd.func33 rfl rfl #[.int .u16 (q : Nat)] (by rfl) rfl rfl (by first | rfl | (go_simp; try rfl)) ?_
          refine (list_calls HQ.out.1 (HT8.out.below hHeld.below H08.out) (by rw [drawn_size hHeld]; exact H08.out)).mono ?_
          rintro x w9 ⟨v0, rfl, hR9, hB9⟩
          obtain ⟨Av, cv, rfl⟩ := Kd.R_slice hR9
          refine ⟨_, rfl, hK.out _ _ ?_⟩
          clear hK K hR9
          refine normN ?_
          refine pureN 11 81 (bs 14 4095) ?_
          refine pureN 12 82 (bs 14 8191) ?_
          refine pureN 13 10 (bs 14 16383) ?_
          refine done_ (by kernel_rfl) ?_
          refine calm_out ?_
          have gm : IsM w9 M g (stM l1 (i + 1)) := by rw [HST.out]; exact (IsM.drawn HM8.out hHeld).below hB9
          have hMs8 : M ≤ W8.heap.size := Nat.le_of_lt (blk_lt HM8.out)
          have gk : Below M w1 w9 := HK8.out.trans ((hHeld.below.mono hMs8).trans (hB9.mono (by rw [drawn_size hHeld]; exact hMs8)))
          have HX := Aside0.mk (show IsM w9 M g (stM l1 (i + 1)) ∧ Below M w1 w9 from ⟨gm, gk⟩)
          clear gm gk hB9 hHeld hand cb co hMs8
          go_wp2_with fail
          go_roundw
          case rel => exact ⟨i + 1, by first | rfl | (congr 1; done) | (rw [HI1.out]) | (congr 1; omega), by rw [HMX.out, castL_length]; rfl, ⟨HLT.out⟩, ⟨hstep⟩, ⟨HX.out.1⟩, ⟨HX.out.2⟩⟩
          case measure => simp [intOf]; have := HLT.out; first | omega | (have := HI1.out; omega)
         ·have hbn : decide (ev.f0 < nx) = false := decide_eq_false hgn
          have HMX := Aside0.mk (show mostM l1 (i + 1) = mostM l1 i by rw [mostM, if_neg (by rw [hat.1, hat.2]; exact fun h => h.elim HNE.out hgn)])
          clear hat hgn
          go_quiet (fail)
          go_wp2
          go_roundw
          case rel => exact ⟨i + 1, by first | rfl | (congr 1; done) | (rw [HI1.out]) | (congr 1; omega), by rw [HMX.out], ⟨HLT.out⟩, ⟨hstep⟩, ⟨HM7.out⟩, ⟨pw_below_drewN HK7.out _⟩⟩
          case measure => simp [intOf]; have := HLT.out; first | omega | (have := HI1.out; omega)
    ·have hie : i = l1.length := by have := HI.out; omega
     have q30 : ¬ ((i : Int) < (l1.length : Int)) := by omega
     have HOL := Aside0.mk (show okLog l0 l1 = true by
      unfold okLog
      rw [HGK.out, decide_eq_true H16.out, Bool.true_and, Bool.true_and, List.all_eq_true]
      intro x hx
      exact HO.out x (by rw [hie]; exact List.mem_range.1 hx))
     have HIE := Aside0.mk hie
     clear hie hlt
     go_wp2
     go_ret3
     refine ⟨HB.out.trans (HK.out.mono HSZ.out), ?_⟩
     rw [HOL.out, if_pos rfl]
     exact ⟨M, g, _, by rw [HIE.out]; rfl, by rw [← HIE.out]; exact HM.out, HG.out.below (HK.out.mono (Nat.le_of_eq HME.out))⟩
  ·have q16 : (16 : Int) < (l1.length : Int) := by omega
   have HN := Aside0.mk (show okLog l0 l1 = false by unfold okLog; rw [decide_eq_false h16, Bool.false_and, Bool.and_false])
   clear hg h16
   go_enter Tryd.func30, Tryd.ntmps30
   go_wp2_with (first | (go_at_call 43; refine HGO.out.mono ?_; rintro e w1 ⟨g, rfl, hG, hB⟩; have HB := Aside0.mk hB; clear hG hB))
   go_ret3
   exact RePost.no HB.out HN.out
end Go.Proofs.YtkafmfabkbmpbaaDoor.G
