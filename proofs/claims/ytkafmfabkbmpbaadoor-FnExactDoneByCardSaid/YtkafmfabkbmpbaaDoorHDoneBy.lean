/-
 DoneBy by hand.
-/
import Derived.Test.YtkafmfabkbmpbaaDoorHLog
import Derived.Test.YtkafmfabkbmpbaaDoorG0
import Derived.Test.YtkafmfabkbmpbaaDoorG10
namespace Go.Proofs.YtkafmfabkbmpbaaDoor.G
open Go.RowKit Go.Proofs.YtkafmfabkbmpbaaDoorW.PrintWords Go.Proofs.YtkafmfabkbmpbaaDoorW.PrintLast Go.Proofs.YtkafmfabkbmpbaaDoorW.PrintMore C
set_option linter.unusedVariables false
set_option linter.unusedSimpArgs false
attribute [local go_sem] Oper.semAt_some

/-- Those over up to a time. -/
def doneStep (cl : Nat → Int) (now : Int) (s k : Nat) : Nat := if cl k ≤ now then s ||| 2 ^ k else s
def doneN (cl : Nat → Int) (now : Int) (ov : Nat) : Nat := (elems ov).foldl (doneStep cl now) 0
theorem doneGo_lt {n : Nat} (cl : Nat → Int) (now : Int) : ∀ (L : List Nat) (s : Nat), (∀ k, k ∈ L → k < n) → s < 2 ^ n → L.foldl (doneStep cl now) s < 2 ^ n
 | [], s, _, h => h
 | k :: r, s, hL, h => doneGo_lt cl now r _ (fun x hx => hL x (by simp [hx])) (by
  unfold doneStep
  split
  ·exact or_bit_lt h (hL k (by simp))
  ·exact h)
def impl_DoneBy.f (l0 : List S47) (l1 : List S46) (a2 : Int) : Option (List Int) := some (if okLog l0 l1 = true then castL (elems (doneN (stM l1 l1.length).cl a2 (stM l1 l1.length).ov)) else [])
set_option maxHeartbeats 16000000 in
set_option maxRecDepth 1000000 in
theorem doneBy_yes {A0 A1 : Option Addr} {c0 c1 : Nat} {l0 : List S47} {l1 : List S46} {w : World} (a2 : Int) (ho : okLog l0 l1 = true) (hr0 : Kd.C k47 w A0 l0.length l0) (hc0 : l0.length ≤ c0) (hr1 : Kd.C k46 w A1 l1.length l1) (hc1 : l1.length ≤ c1) (ht : Tab w) :
  Calls Tryd.prog 12 #[.slice A0 l0.length c0, .slice A1 l1.length c1, .int .i64 a2] w fun e w' => ∃ v0_ : Value, e = .returned v0_ ∧ Kd.R (Kd.int .i64) 3 w' w.heap.size (fun _ => True) v0_ (castL (elems (doneN (stM l1 l1.length).cl a2 (stM l1 l1.length).ov))) ∧ Below w.heap.size w w' := by
 have hk := okLog_gok ho
 have hs := stM_ok l1.length hk.2.2
 have h8 := gok8 hk.1
 have hal := below_alloc (Below.refl w.heap.size w) (.cells #[.int .i64 a2] 3)
 have HT := Aside0.mk ht
 have HC := Aside0.mk (replay_yes ho (Kd.C_alloc hr0 (.cells #[.int .i64 a2] 3)) hc0 (Kd.C_alloc hr1 (.cells #[.int .i64 a2] 3)) hc1 (ht.below hal ht.pos))
 have HN := Aside0.mk (al_new w 3 #[.int .i64 a2])
 have HA := Aside0.mk hal
 obtain ⟨⟨bg, ov, be, cl⟩, hst⟩ : ∃ s, stM l1 l1.length = s := ⟨_, rfl⟩
 rw [hst] at HC hs ⊢
 have HO := Aside0.mk (show ov < 65536 ∧ ov < 2 ^ l0.length ∧ l0.length ≤ 8 from ⟨Nat.lt_trans (pow8 h8 hs.ov) (by decide), hs.ov, h8⟩)
 clear hk hs h8 hal ht ho hr0 hc0 hr1 hc1 hst
 show Calls _ _ _ _ (fun e w' => ∃ v0_ : Value, e = .returned v0_ ∧ Kd.R (Kd.int .i64) 3 w' w.heap.size (fun _ => True) v0_ (castL (elems (doneN cl a2 ov))) ∧ Below w.heap.size w w')
 refine enter_marks Tryd.func12 rfl ?_
 simp only [Tryd.ntmps12, List.size_toArray, List.length_cons, List.length_nil, Nat.reduceAdd, Nat.reduceSub, Array.replicate_succ, Array.replicate_zero, List.push_toArray, List.append_toArray, List.nil_append, List.cons_append]
 go_wp2_with (first | (go_at_call 30; refine HC.out.mono ?_; rintro e w1 ⟨M, g, b, rfl, hM, hG, hB⟩; have HM1 := Aside0.mk hM; have HB1 := Aside0.mk hB; have cm2 := (cell_blk (blk_alloc (blk_alloc hM (.cells #[.pointer (some ⟨M, 0, none⟩)] 51)) (.cells #[.int .u16 0] 55)) 2).trans (show (mc g ⟨bg, ov, be, cl⟩)[2]? = some (.int .u16 (ov : Nat)) from rfl); clear hM hG hB) | (go_at_call 31; refine (all_calls (ov : Nat) _).mono ?_; rintro e w6 ⟨rfl, rfl⟩))
 have hML := blk_lt HM1.out
 have hBn : w1.heap[w.heap.size]? = some (.cells #[.int .i64 a2] 3 (0, 0)) := blk_below HN.out HB1.out
 have hx := al_old (o := .cells #[.int .u16 (ov : Nat)] 55) (al_old (o := .cells #[.int .u16 0] 55) (al_new w1 51 #[.pointer (some ⟨M, 0, none⟩)]))
 have hnn := al_old (o := .cells #[.int .u16 (ov : Nat)] 55) (al_old (o := .cells #[.int .u16 0] 55) (al_old (o := .cells #[.pointer (some ⟨M, 0, none⟩)] 51) hBn))
 have hss := al_old (o := .cells #[.int .u16 (ov : Nat)] 55) (al_new (w1.alloc (.cells #[.pointer (some ⟨M, 0, none⟩)] 51)) 55 #[.int .u16 0])
 have hmm : IsM (((w1.alloc (.cells #[.pointer (some ⟨M, 0, none⟩)] 51)).alloc (.cells #[.int .u16 0] 55)).alloc (.cells #[.int .u16 (ov : Nat)] 55)) M g ⟨bg, ov, be, cl⟩ := blk_alloc (blk_alloc (blk_alloc HM1.out _) _) _
 have hbs := (Boxed.new ((w1.alloc (.cells #[.pointer (some ⟨M, 0, none⟩)] 51)).alloc (.cells #[.int .u16 0] 55)) 55 (.int .u16 (ov : Nat))).cell
 have hB0 := HA.out.trans (HB1.out.mono (by simp))
 have hBB := ((hB0.alloc hB0.size (.cells #[.pointer (some ⟨M, 0, none⟩)] 51)).alloc (by have := hB0.size; simp; omega) (.cells #[.int .u16 0] 55)).alloc (by have := hB0.size; simp; omega) (.cells #[.int .u16 (ov : Nat)] 55)
 simp only [World.size_alloc] at hss hbs
 generalize ((w1.alloc (.cells #[.pointer (some ⟨M, 0, none⟩)] 51)).alloc (.cells #[.int .u16 0] 55)).alloc (.cells #[.int .u16 (ov : Nat)] 55) = w9 at hx hnn hss hmm hbs hBB ⊢
 have hw1 := hB0.size
 have hnl := blk_lt hBn
 obtain ⟨Bx, hBx⟩ : ∃ B, w1.heap.size = B := ⟨_, rfl⟩
 rw [hBx] at hx hss hbs hML hw1 hnl ⊢
 obtain ⟨Bs, hBs⟩ : ∃ B, Bx + 1 = B := ⟨_, rfl⟩
 rw [hBs] at hss hbs ⊢
 have HLO := Aside0.mk (show M ≠ Bs ∧ Bx ≠ Bs ∧ w.heap.size ≠ Bs ∧ w.heap.size ≤ Bs by omega)
 have HBB := Aside0.mk hBB
 have hsz := hBB.size
 have HME := Aside0.mk hmm
 clear hBB hB0 hBn cm2 HM1 HB1 HC HN HA hw1 hnl hML hmm
 refine wp_range HO.out.1 rfl hbs (HT.out.below HBB.out HT.out.pos) HT.out.pos hsz rfl
  (fun pre W => W.heap[Bx]? = some (.cells #[.pointer (some ⟨M, 0, none⟩)] 51 (0, 0)) ∧ W.heap[w.heap.size]? = some (.cells #[.int .i64 a2] 3 (0, 0)) ∧ W.heap[Bs]? = some (.cells #[.int .u16 (pre.foldl (doneStep cl a2) 0 : Nat)] 55 (0, 0)) ∧ W.heap[M]? = some (.cells (mc g ⟨bg, ov, be, cl⟩) 61 (0, 0)) ∧ Below w.heap.size w W ∧ ∀ k, k ∈ pre → k < l0.length)
  (fun s W1 W2 row hs hg hr => ⟨blk_ownFrom hs.1 hg hr, blk_ownFrom hs.2.1 hg hr, blk_ownFrom hs.2.2.1 hg hr, blk_ownFrom hs.2.2.2.1 hg hr, below_ownFrom hs.2.2.2.2.1 (Nat.le_refl _) hsz hg hr, hs.2.2.2.2.2⟩)
  ⟨hx, hnn, hss, HME.out, HBB.out, fun k hk => by cases hk⟩ ?a1 ?assign ?body ?done
 case assign =>
  intro l x W K hK
  gi_wp2
  exact hK
 case body =>
  rintro l pre k W hk hpl ⟨g1, g2, g3, g4, g5, g6⟩
  have hkn := elems_lt HO.out.2.2 HO.out.2.1 hk
  have hk8 : k < 8 := Nat.lt_of_lt_of_le hkn HO.out.2.2
  have hs8 := doneGo_lt cl a2 pre 0 g6 (Nat.two_pow_pos l0.length)
  obtain ⟨s, hs⟩ : ∃ m, pre.foldl (doneStep cl a2) 0 = m := ⟨_, rfl⟩
  rw [hs] at g3 hs8
  have hs16 : s < 65536 := Nat.lt_trans (pow8 HO.out.2.2 hs8) (by decide)
  have HWI := Aside0.mk (with_eq hs16 (show k < 16 by omega))
  have HF := Aside0.mk (show (pre ++ [k]).foldl (doneStep cl a2) 0 = if cl k ≤ a2 then s ||| 2 ^ k else s by
   rw [List.foldl_append, hs]
   rfl)
  have HKN := Aside0.mk (show ∀ j, j ∈ pre ++ [k] → j < l0.length from fun j hj => by
   rcases List.mem_append.1 hj with h | h
   ·exact g6 j h
   ·rw [List.mem_singleton.1 h]; exact hkn)
  have cx : W.cell? ⟨Bx, 0, none⟩ = some (.pointer (some ⟨M, 0, none⟩)) := (cell_blk g1 0).trans rfl
  have cn : W.cell? ⟨w.heap.size, 0, none⟩ = some (.int .i64 a2) := (cell_blk g2 0).trans rfl
  have cs0 : W.cell? ⟨Bs, 0, none⟩ = some (.int .u16 (s : Nat)) := (cell_blk g3 0).trans rfl
  have cc := (cell_blk g4 (11 + k)).trans (mc_cl _ _ hk8)
  dsimp only at cc
  have fz : W.frozen? ⟨Bs, 0, none⟩ = false := blk_frozen g3 _
  have qk : (k : Int) < 8 := by omega
  have qk2 : k < 8 := hk8
  obtain ⟨ck, hck⟩ : ∃ c, cl k = c := ⟨_, rfl⟩
  rw [hck] at HF cc
  have G1 := Aside0.mk g1
  have G2 := Aside0.mk g2
  have G3 := Aside0.mk g3
  have G4 := Aside0.mk g4
  have G5 := Aside0.mk g5
  clear g1 g2 g3 g4 g5 g6 hs hck hk hpl hkn hs8 hs16 hk8
  by_cases hle : ck ≤ a2
  ·have hb : decide (ck ≤ a2) = true := decide_eq_true hle
   rw [if_pos hle] at HF
   refine wpIn_block (wpIn_seq (startIn_ (S := Drawn0 W) (ds := []) (bs 8 0) (by kernel_rfl) (by rintro ⟨a, w, h⟩; exact h) (by kernel_rfl) rfl (by kernel_rfl) (Drawn0.step (Drawn0.refl W) 1) (fun hHeld => ?_)))
   refine takeN 0 27 (bs 8 1) hHeld rfl (.inl ⟨by rfl, fun w' s => by have s0 := (drawn_cell s _).trans cx; go_simp; with_reducible rfl⟩) ?_
   refine pureN 1 28 (bs 8 3) ?_
   refine pureN 2 29 (bs 8 7) ?_
   refine pureN 3 30 (bs 8 15) ?_
   refine pureN 4 31 (bs 8 31) ?_
   refine takeN 5 32 (bs 8 63) hHeld rfl (.inl ⟨by rfl, fun w' s => by have s0 := (drawn_cell s _).trans cc; go_simp; with_reducible rfl⟩) ?_
   refine takeN 6 33 (bs 8 127) hHeld rfl (.inl ⟨by rfl, fun w' s => by have s0 := (drawn_cell s _).trans cn; go_simp; with_reducible rfl⟩) ?_
   refine pureN 7 34 (bs 8 255) ?_
   refine done_ (by kernel_rfl) ?_
   have cs1 := (drawn_cell hHeld _).trans cs0
   have fz1 := (drawn_frozen hHeld _).trans fz
   have HH := Aside0.mk hHeld
   clear hHeld cx cn cs0 cc fz
   obtain ⟨Wd, hWd⟩ : ∃ x, W.drew = x := ⟨_, rfl⟩
   rw [hWd] at cs1 fz1 HH ⊢
   clear hWd
   refine wpIn_cond_true rfl ?_
   refine regionIn_ (by kernel_rfl) (by rintro ⟨a, w, h⟩; exact h) ?_
   go_wp2_with (first | (go_at_call 32; refine (impl_set_with.calls _ _ _ _ HWI.out).mono ?_; rintro e w7 ⟨rfl, hD⟩; have cs7 := (drawn_cell hD _).trans cs1; have fz7 := (drawn_frozen hD _).trans fz1; have HD7 := Aside0.mk (drawn_trans HH.out hD); clear hD))
   have hHeld := HD7.out
   have hh := drawn_heap hHeld
   have n3 := HLO.out
   have hB7 := hHeld.below.mono G5.out.size
   have G1' : w7.heap[Bx]? = some (.cells #[.pointer (some ⟨M, 0, none⟩)] 51 (0, 0)) := by rw [hh]; exact G1.out
   have G2' : w7.heap[w.heap.size]? = some (.cells #[.int .i64 a2] 3 (0, 0)) := by rw [hh]; exact G2.out
   have G3' : w7.heap[Bs]? = some (.cells #[.int .u16 (s : Nat)] 55 (0, 0)) := by rw [hh]; exact G3.out
   have G4' : w7.heap[M]? = some (.cells (mc g ⟨bg, ov, be, cl⟩) 61 (0, 0)) := by rw [hh]; exact G4.out
   exact ⟨keepsFrom_set (keepsFrom_below hHeld.below) _ _, hB7.setCell (p := ⟨Bs, 0, none⟩) n3.2.2.2 _, (Below.heap_setCell _ _ _ Bx n3.2.1).trans G1', (Below.heap_setCell _ _ _ w.heap.size n3.2.2.1).trans G2', by rw [HF.out]; exact (blk_set G3' 0 _).trans rfl, (Below.heap_setCell _ _ _ M n3.1).trans G4', (G5.out.trans hB7).setCell (p := ⟨Bs, 0, none⟩) n3.2.2.2 _, HKN.out⟩
  ·have hb : decide (ck ≤ a2) = false := decide_eq_false hle
   rw [if_neg hle] at HF
   refine wpIn_block (wpIn_seq (startIn_ (S := Drawn0 W) (ds := []) (bs 8 0) (by kernel_rfl) (by rintro ⟨a, w, h⟩; exact h) (by kernel_rfl) rfl (by kernel_rfl) (Drawn0.step (Drawn0.refl W) 1) (fun hHeld => ?_)))
   refine takeN 0 27 (bs 8 1) hHeld rfl (.inl ⟨by rfl, fun w' s => by have s0 := (drawn_cell s _).trans cx; go_simp; with_reducible rfl⟩) ?_
   refine pureN 1 28 (bs 8 3) ?_
   refine pureN 2 29 (bs 8 7) ?_
   refine pureN 3 30 (bs 8 15) ?_
   refine pureN 4 31 (bs 8 31) ?_
   refine takeN 5 32 (bs 8 63) hHeld rfl (.inl ⟨by rfl, fun w' s => by have s0 := (drawn_cell s _).trans cc; go_simp; with_reducible rfl⟩) ?_
   refine takeN 6 33 (bs 8 127) hHeld rfl (.inl ⟨by rfl, fun w' s => by have s0 := (drawn_cell s _).trans cn; go_simp; with_reducible rfl⟩) ?_
   refine pureN 7 34 (bs 8 255) ?_
   refine done_ (by kernel_rfl) ?_
   gi_wp2
   have hh := drawn_heap hHeld
   exact ⟨keepsFrom_below hHeld.below, hHeld.below.mono G5.out.size, by rw [hh]; exact G1.out, by rw [hh]; exact G2.out, by rw [hh, HF.out]; exact G3.out, by rw [hh]; exact G4.out, G5.out.trans (hHeld.below.mono G5.out.size), HKN.out⟩
 case done =>
  rintro D W hD ⟨g1, g2, g3, g4, g5, g6⟩ hK
  have hq8 := doneGo_lt cl a2 (elems ov) 0 g6 (Nat.two_pow_pos l0.length)
  change doneN cl a2 ov < _ at hq8
  change W.heap[Bs]? = some (.cells #[.int .u16 (doneN cl a2 ov : Nat)] 55 (0, 0)) at g3
  obtain ⟨q, hq⟩ : ∃ q, doneN cl a2 ov = q := ⟨_, rfl⟩
  rw [hq] at hq8 g3
  have HQ := Aside0.mk hq
  have HQ16 := Aside0.mk (show q < 65536 from Nat.lt_trans (pow8 HO.out.2.2 hq8) (by decide))
  have cs0 : W.cell? ⟨Bs, 0, none⟩ = some (.int .u16 (q : Nat)) := (cell_blk g3 0).trans rfl
  have HL := Aside0.mk (list_calls HQ16.out (HT.out.below g5 HT.out.pos) (by have := g5.size; have := HT.out.pos; omega))
  have G5 := Aside0.mk g5
  have HK := Aside0.mk hK
  have HD := Aside0.mk (Nat.le_trans hsz hD)
  clear g1 g2 g3 g4 g5 g6 hK hD hq hq8 hx hnn hss hbs hsz HME HBB
  go_wp2_with (first | (go_at_call 33; refine HL.out.mono ?_; rintro e w7 ⟨v0, rfl, hR, hB⟩; have HR := Aside0.mk hR; have HB := Aside0.mk hB; have HK7 := Aside0.mk ((hB.block _ (Array.getElem?_eq_some_iff.1 HK.out).1).trans HK.out); clear hR hB))
  refine leave_ (Marks.one HD.out HK7.out) (fun w' hw => ?_)
  exact ⟨_, results_tmp rfl _ _ _, _, rfl, by rw [HQ.out]; exact hw.R (Kd.R_lower HR.out G5.out.size), hw.below (G5.out.trans (HB.out.mono G5.out.size))⟩
theorem impl_DoneBy.calls (A0 : Option Addr) (c0 : Nat) (l0 : List S47) (A1 : Option Addr) (c1 : Nat) (l1 : List S46) (a2 : Int) (r : List Int) (w : World) (hr0 : Kd.C k47 w A0 l0.length l0) (hc0 : l0.length ≤ c0) (hr1 : Kd.C k46 w A1 l1.length l1) (hc1 : l1.length ≤ c1) (h : impl_DoneBy.f l0 l1 a2 = some r) (hT_ : Tab w) :
  Calls Tryd.prog 12 #[.slice A0 l0.length c0, .slice A1 l1.length c1, .int .i64 a2] w fun e w' => ∃ v0_ : Value, e = .returned (v0_) ∧ Kd.R (Kd.int .i64) 3 w' w.heap.size (fun _ => True) v0_ r ∧ Below w.heap.size w w' := by
 injection h with h
 subst h
 cases ho : okLog l0 l1 with
 | true =>
  rw [if_pos rfl]
  exact doneBy_yes a2 ho hr0 hc0 hr1 hc1 hT_
 | false =>
  rw [if_neg (by decide)]
  have hal := below_alloc (Below.refl w.heap.size w) (.cells #[.int .i64 a2] 3)
  have HC := Aside0.mk (replay_no ho (Kd.C_alloc hr0 (.cells #[.int .i64 a2] 3)) hc0 (Kd.C_alloc hr1 (.cells #[.int .i64 a2] 3)) hc1 (hT_.below hal hT_.pos))
  have HA := Aside0.mk hal
  clear hal ho hr0 hc0 hr1 hc1 hT_
  refine enter_marks Tryd.func12 rfl ?_
  simp only [Tryd.ntmps12, List.size_toArray, List.length_cons, List.length_nil, Nat.reduceAdd, Nat.reduceSub, Array.replicate_succ, Array.replicate_zero, List.push_toArray, List.append_toArray, List.nil_append, List.cons_append]
  go_wp2_with (first | (go_at_call 30; refine HC.out.mono ?_; rintro e w1 ⟨rfl, hB⟩; have HB := Aside0.mk (below_alloc (HA.out.trans (hB.mono HA.out.size)) (.cells #[.pointer none] 51)); clear hB))
  refine leave_ (b := w.heap.size) (by exact trivial) (fun w' hw => ?_)
  exact ⟨_, results_tmp rfl _ _ _, _, rfl, Kd.R_nil (Kd.int .i64) 3 _ _ _, hw.below HB.out⟩
end Go.Proofs.YtkafmfabkbmpbaaDoor.G
