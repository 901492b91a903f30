/-
 UselessNeeds by hand.
-/
import Derived.Test.YtbodhggmhbiebaaDoorHGOf
import Derived.Test.YtbodhggmhbiebaaDoorCStg
import Derived.Test.YtbodhggmhbiebaaDoorG0
namespace Go.Proofs.YtbodhggmhbiebaaDoor.G
open Go.RowKit Go.Proofs.YtbodhggmhbiebaaDoorW.PrintWords Go.Proofs.YtbodhggmhbiebaaDoorW.PrintLast Go.Proofs.YtbodhggmhbiebaaDoorW.PrintMore C
set_option linter.unusedVariables false
set_option linter.unusedSimpArgs false
attribute [local go_sem] Oper.semAt_some

/-- The needs of a task that its needs need. -/
def uselStep (nd bl : List Nat) (i s k : Nat) : Nat := s ||| (nd.getD i 0 &&& bl.getD k 0)
def uselN (nd bl : List Nat) (i : Nat) : Nat := (elems (nd.getD i 0)).foldl (uselStep nd bl i) 0
theorem uselGo_lt {n : Nat} {nd bl : List Nat} (hnd : Sets n nd) (i : Nat) : ∀ (L : List Nat) (s : Nat), s < 2 ^ n → L.foldl (uselStep nd bl i) s < 2 ^ n
 | [], s, h => h
 | k :: r, s, h => uselGo_lt hnd i r _ (Nat.or_lt_two_pow h (Nat.lt_of_le_of_lt Nat.and_le_left (hnd.get i)))
theorem uselN_lt {n : Nat} {nd bl : List Nat} (hnd : Sets n nd) (i : Nat) : uselN nd bl i < 2 ^ n := uselGo_lt hnd i _ 0 (Nat.two_pow_pos n)
set_option maxHeartbeats 16000000 in
set_option maxRecDepth 1000000 in
theorem useless_calls {b : Nat} {w : World} {g n i : Nat} {l0 : List S29} {nd od bl ab : List Nat} (hG : IsG b w g n l0 nd od bl ab) (hn8 : n ≤ 8) (hnd : Sets n nd) (hbl : Sets n bl) (hi : i < n) (ht : Tab w) :
  Calls Tryd.prog 40 #[.pointer (some ⟨g, 0, none⟩), .int .i64 (i : Nat)] w fun e w' => e = .returned (.int .u16 (uselN nd bl i : Nat)) ∧ Below w.heap.size w w' := by
 have HG := Aside0.mk hG
 have HT := Aside0.mk ht
 have hmi8 := hnd.get i
 have HH := Aside0.mk (show n ≤ 8 ∧ Sets n nd ∧ Sets n bl ∧ i < n from ⟨hn8, hnd, hbl, hi⟩)
 obtain ⟨mi, hmi⟩ : ∃ m, nd.getD i 0 = m := ⟨_, rfl⟩
 rw [hmi] at hmi8
 have HM := Aside0.mk (show mi < 65536 ∧ mi < 2 ^ n ∧ nd.getD i 0 = mi from ⟨Nat.lt_trans (pow8 hn8 hmi8) (by decide), hmi8, hmi⟩)
 have qi : (i : Int) < (n : Int) := by omega
 clear hG hn8 hnd hbl hi ht hmi8 hmi
 refine enter_marks Tryd.func40 rfl ?_
 simp only [Tryd.ntmps40, List.size_toArray, List.length_cons, List.length_nil, Nat.reduceAdd, Nat.reduceSub, Array.replicate_succ, Array.replicate_zero, List.push_toArray, List.append_toArray, List.nil_append, List.cons_append]
 go_upto_region 2 with fail
 have hx := al_old (o := .cells #[.int .u16 0] 59) (al_old (o := .cells #[.int .i64 (i : Nat)] 3) (al_new w 47 #[.pointer (some ⟨g, 0, none⟩)]))
 have hii := al_old (o := .cells #[.int .u16 0] 59) (al_new (w.alloc (.cells #[.pointer (some ⟨g, 0, none⟩)] 47)) 3 #[.int .i64 (i : Nat)])
 have hss := al_new ((w.alloc (.cells #[.pointer (some ⟨g, 0, none⟩)] 47)).alloc (.cells #[.int .i64 (i : Nat)] 3)) 59 #[.int .u16 0]
 simp only [World.size_alloc] at hii hss
 have HB := Aside0.mk ((((Below.refl w.heap.size w).alloc (Nat.le_refl _) (.cells #[.pointer (some ⟨g, 0, none⟩)] 47)).alloc (by simp) (.cells #[.int .i64 (i : Nat)] 3)).alloc (by simp; omega) (.cells #[.int .u16 0] 59))
 generalize ((w.alloc (.cells #[.pointer (some ⟨g, 0, none⟩)] 47)).alloc (.cells #[.int .i64 (i : Nat)] 3)).alloc (.cells #[.int .u16 0] 59) = w3 at hx hii hss HB ⊢
 obtain ⟨Bs, hBs⟩ : ∃ B, w.heap.size + 1 + 1 = B := ⟨_, rfl⟩
 obtain ⟨Bi, hBi⟩ : ∃ B, w.heap.size + 1 = B := ⟨_, rfl⟩
 obtain ⟨Bx, hBx⟩ : ∃ B, w.heap.size = B := ⟨_, rfl⟩
 have HLO := Aside0.mk (show w.heap.size ≤ Bx ∧ w.heap.size ≤ Bi ∧ w.heap.size ≤ Bs ∧ Bx ≠ Bs ∧ Bi ≠ Bs by omega)
 rw [hBs] at hss ⊢
 rw [hBi] at hii ⊢
 rw [hBx] at hx ⊢
 clear hBs hBi hBx
 obtain ⟨Aa, ca, An, cn, Ao, co, Pb, Pa, hg, hca, hCt, hCn, hRo, hCb, hCa⟩ := HG.out.below HB.out
 obtain ⟨ad2, e2, cni⟩ := Kd.at_int hCn (i : Int) (by omega) (by omega)
 rw [Int.toNat_natCast, rd_castL, HM.out.2.2] at cni
 subst e2
 have cx : w3.cell? ⟨Bx, 0, none⟩ = some (.pointer (some ⟨g, 0, none⟩)) := (cell_blk hx 0).trans rfl
 have cbi : w3.cell? ⟨Bi, 0, none⟩ = some (.int .i64 (i : Nat)) := (cell_blk hii 0).trans rfl
 have cg : w3.cell? ⟨g, 1, none⟩ = some (.slice (some ad2) n cn) := (cell_blk hg 1).trans rfl
 have G1 := Aside0.mk hx
 have G2 := Aside0.mk hii
 have G3 := Aside0.mk hss
 clear hx hii hss hg hca hCt hCn hRo hCb hCa
 refine calm_wp ?_
 refine start_ (n := 8) (S := Drawn0 w3) (ds := [7]) (bs 8 0) (by kernel_rfl) rfl (by kernel_rfl) (Drawn0.step (Drawn0.refl w3) 1) (fun hHeld => ?_)
 obtain ⟨W8, e8⟩ : ∃ x, w3.drew = x := ⟨_, rfl⟩
 rw [e8] at hHeld ⊢
 clear e8
 refine takeN 0 7 (bs 8 1) hHeld rfl (.inl ⟨by rfl, fun w' s => by have s0 := (drawn_cell s _).trans cx; go_simp; with_reducible rfl⟩) ?_
 refine pureN 1 8 (bs 8 3) ?_
 refine pureN 2 9 (bs 8 7) ?_
 refine takeN 3 10 (bs 8 15) hHeld rfl (.inl ⟨by rfl, fun w' s => by have s0 := (drawn_cell s _).trans cg; go_simp; with_reducible rfl⟩) ?_
 refine takeN 4 11 (bs 8 31) hHeld rfl (.inl ⟨by rfl, fun w' s => by have s0 := (drawn_cell s _).trans cbi; go_simp; with_reducible rfl⟩) ?_
 refine pureN 5 12 (bs 8 63) ?_
 refine takeN 6 13 (bs 8 127) hHeld rfl (.inl ⟨by rfl, fun w' s => by have s0 := (drawn_cell s _).trans cni; go_simp; with_reducible rfl⟩) ?_
 refine last_ (i := 7) (N := some 14) (bs 8 255) rfl rfl (by kernel_rfl) (by decide) (fun K hK => ?_)
 refine goes_ (f := 41) Tryd.func41 rfl rfl #[.int .u16 (mi : Nat)] (by rfl) rfl rfl (by first | rfl | (go_simp; try rfl)) ?_
 refine (all_calls _ _).mono ?_
 rintro e w7 ⟨rfl, rfl⟩
 refine ⟨_, rfl, hK.out _ _ ?_⟩
 clear hK K
 refine normN ?_
 refine done_ (by kernel_rfl) ?_
 refine calm_out ?_
 go_wp2_with fail
 have b8 := hHeld.below
 have h8 := drawn_heap hHeld
 have hB4 : w.heap.size ≤ W8.heap.size := by rw [h8]; exact HB.out.size
 have hB8 := hHeld.below.mono HB.out.size
 have hx := al_old (o := .cells #[.int .u16 (mi : Nat)] 59 (0, 0)) (show W8.heap[Bx]? = _ by rw [h8]; exact G1.out)
 have hii := al_old (o := .cells #[.int .u16 (mi : Nat)] 59 (0, 0)) (show W8.heap[Bi]? = _ by rw [h8]; exact G2.out)
 have hss := al_old (o := .cells #[.int .u16 (mi : Nat)] 59 (0, 0)) (show W8.heap[Bs]? = _ by rw [h8]; exact G3.out)
 have hbs := (Boxed.new W8 59 (.int .u16 (mi : Nat))).cell
 have HB5 := Aside0.mk ((HB.out.trans hB8).alloc hB4 (.cells #[.int .u16 (mi : Nat)] 59 (0, 0)))
 obtain ⟨B9, hB9⟩ : ∃ B, W8.heap.size = B := ⟨_, rfl⟩
 rw [hB9] at hbs ⊢
 generalize W8.alloc (.cells #[.int .u16 (mi : Nat)] 59 (0, 0)) = w9 at hx hii hss hbs HB5 ⊢
 clear b8 h8 hB8 hB4 hB9 hHeld cg cx cbi cni G1 G2 G3 HB
 have hB5 := HB5.out.size
 refine wp_range HM.out.1 rfl hbs (HT.out.below HB5.out HT.out.pos) HT.out.pos hB5 rfl
  (fun pre W => W.heap[Bx]? = some (.cells #[.pointer (some ⟨g, 0, none⟩)] 47 (0, 0)) ∧ W.heap[Bi]? = some (.cells #[.int .i64 (i : Nat)] 3 (0, 0)) ∧ W.heap[Bs]? = some (.cells #[.int .u16 (pre.foldl (uselStep nd bl i) 0 : Nat)] 59 (0, 0)) ∧ Below w.heap.size w W)
  (fun s W1 W2 row hs hg hr => ⟨blk_ownFrom hs.1 hg hr, blk_ownFrom hs.2.1 hg hr, blk_ownFrom hs.2.2.1 hg hr, below_ownFrom hs.2.2.2 (Nat.le_refl _) hB5 hg hr⟩)
  ⟨hx, hii, hss, HB5.out⟩ ?a1 ?assign ?body ?done
 case assign =>
  intro l x W K hK
  gi_wp2
  exact hK
 case body =>
  rintro l pre k W hk hpl ⟨g1, g2, g3, g4⟩
  have hkn := elems_lt HH.out.1 HM.out.2.1 hk
  obtain ⟨Aa, ca, An, cn, Ao, co, Pb, Pa, hg, hca, hCt, hCn, hRo, hCb, hCa⟩ := HG.out.below g4
  obtain ⟨ad2, e2, cni⟩ := Kd.at_int hCn (i : Int) (by omega) (by omega)
  rw [Int.toNat_natCast, rd_castL, HM.out.2.2] at cni
  subst e2
  obtain ⟨ad3, e3, cbk⟩ := Kd.at_int hCb (k : Int) (by omega) (by omega)
  rw [Int.toNat_natCast, rd_castL] at cbk
  injection e3 with e3
  have hbk8 := HH.out.2.2.1.get k
  obtain ⟨bk, hbk⟩ : ∃ m, bl.getD k 0 = m := ⟨_, rfl⟩
  rw [hbk] at cbk hbk8
  have hs8 := uselGo_lt (bl := bl) HH.out.2.1 i pre 0 (Nat.two_pow_pos n)
  obtain ⟨s, hs⟩ : ∃ m, pre.foldl (uselStep nd bl i) 0 = m := ⟨_, rfl⟩
  rw [hs] at g3 hs8
  have hs16 : s < 65536 := Nat.lt_trans (pow8 HH.out.1 hs8) (by decide)
  have hb16 : bk < 65536 := Nat.lt_trans (pow8 HH.out.1 hbk8) (by decide)
  have hand := and16 HM.out.1 hb16
  have hor := or16 hs16 (Nat.lt_of_le_of_lt (Nat.and_le_left (n := mi) (m := bk)) HM.out.1)
  have HF := Aside0.mk (show (pre ++ [k]).foldl (uselStep nd bl i) 0 = s ||| (mi &&& bk) by
   rw [List.foldl_append, hs]
   show uselStep nd bl i s k = _
   unfold uselStep
   rw [HM.out.2.2, hbk])
  have cx : W.cell? ⟨Bx, 0, none⟩ = some (.pointer (some ⟨g, 0, none⟩)) := (cell_blk g1 0).trans rfl
  have cbi : W.cell? ⟨Bi, 0, none⟩ = some (.int .i64 (i : Nat)) := (cell_blk g2 0).trans rfl
  have cs0 : W.cell? ⟨Bs, 0, none⟩ = some (.int .u16 (s : Nat)) := (cell_blk g3 0).trans rfl
  have cg : W.cell? ⟨g, 1, none⟩ = some (.slice (some ad2) n cn) := (cell_blk hg 1).trans rfl
  have cg3 : W.cell? ⟨g, 3, none⟩ = some (.slice (some ⟨Pb, 0, none⟩) n n) := (cell_blk hg 3).trans rfl
  rw [← e3, Addr.add_lit, Nat.zero_add] at cbk
  have fz : W.frozen? ⟨Bs, 0, none⟩ = false := blk_frozen g3 _
  have qk : (k : Int) < (n : Int) := by omega
  have G1 := Aside0.mk g1
  have G2 := Aside0.mk g2
  have G3 := Aside0.mk g3
  have G4 := Aside0.mk g4
  clear g1 g2 g3 g4 hg hca hCt hCn hRo hCb hCa hs hbk hk hpl hkn hs8 hbk8 hs16 hb16 e3
  refine wpIn_block (startIn_ (S := Drawn0 W) (ds := [17]) (bs 18 0) (by kernel_rfl) (by rintro ⟨a, w, h⟩; exact h) (by kernel_rfl) rfl (by kernel_rfl) (Drawn0.step (Drawn0.refl W) 1) (fun hHeld => ?_))
  refine takeN 0 16 (bs 18 1) hHeld rfl (.inl ⟨by rfl, fun w' s => by have s0 := (drawn_cell s _).trans cs0; go_simp; with_reducible rfl⟩) ?_
  refine takeN 1 17 (bs 18 3) hHeld rfl (.inl ⟨by rfl, fun w' s => by have s0 := (drawn_cell s _).trans cx; go_simp; with_reducible rfl⟩) ?_
  refine pureN 2 18 (bs 18 7) ?_
  refine pureN 3 19 (bs 18 15) ?_
  refine takeN 4 20 (bs 18 31) hHeld rfl (.inl ⟨by rfl, fun w' s => by have s0 := (drawn_cell s _).trans cg; go_simp; with_reducible rfl⟩) ?_
  refine takeN 5 21 (bs 18 63) hHeld rfl (.inl ⟨by rfl, fun w' s => by have s0 := (drawn_cell s _).trans cbi; go_simp; with_reducible rfl⟩) ?_
  refine pureN 6 22 (bs 18 127) ?_
  refine takeN 7 23 (bs 18 255) hHeld rfl (.inl ⟨by rfl, fun w' s => by have s0 := (drawn_cell s _).trans cni; go_simp; with_reducible rfl⟩) ?_
  refine takeN 8 24 (bs 18 511) hHeld rfl (.inl ⟨by rfl, fun w' s => by have s0 := (drawn_cell s _).trans cx; go_simp; with_reducible rfl⟩) ?_
  refine pureN 9 25 (bs 18 1023) ?_
  refine pureN 10 26 (bs 18 2047) ?_
  refine takeN 11 27 (bs 18 4095) hHeld rfl (.inl ⟨by rfl, fun w' s => by have s0 := (drawn_cell s _).trans cg3; go_simp; with_reducible rfl⟩) ?_
  refine pureN 12 28 (bs 18 8191) ?_
  refine pureN 13 29 (bs 18 16383) ?_
  refine takeN 14 30 (bs 18 32767) hHeld rfl (.inl ⟨by rfl, fun w' s => by have s0 := (drawn_cell s _).trans cbk; go_simp; with_reducible rfl⟩) ?_
  refine pureF 15 31 (bs 18 65535) (v := .int .u16 ((mi &&& bk : Nat) : Int)) rfl (.inl ⟨by rfl, fun w' => by go_simp <;> first | exact hand | (simp only [hand]) | (rw [hand])⟩) ?_
  refine pureF 16 32 (bs 18 131071) (v := .int .u16 ((s ||| (mi &&& bk) : Nat) : Int)) rfl (.inl ⟨by rfl, fun w' => by go_simp <;> first | exact hor | (simp only [hor]) | (rw [hor])⟩) ?_
  refine last_ (i := 17) (N := none) (bs 18 262143) rfl rfl (by kernel_rfl) (by decide) (fun K hK => ?_)
  have s0 := (drawn_cell hHeld _).trans cs0
  have s1 : (W.drew).frozen? ⟨Bs, 0, none⟩ = false := (drawn_frozen hHeld _).trans fz
  refine skip_ (w1 := W.drew.setCell ⟨Bs, 0, none⟩ (.int .u16 ((s ||| (mi &&& bk) : Nat) : Int))) (by rfl) rfl (by go_simp; try rfl) ?_
  refine hK.out _ _ ?_
  refine done_ (by kernel_rfl) ?_
  clear s0 s1 hK K
  have hh := drawn_heap hHeld
  have n3 := HLO.out
  have hB7 := hHeld.below.mono G4.out.size
  have G1' : (W.drew).heap[Bx]? = some (.cells #[.pointer (some ⟨g, 0, none⟩)] 47 (0, 0)) := by rw [hh]; exact G1.out
  have G2' : (W.drew).heap[Bi]? = some (.cells #[.int .i64 (i : Nat)] 3 (0, 0)) := by rw [hh]; exact G2.out
  have G3' : (W.drew).heap[Bs]? = some (.cells #[.int .u16 (s : Nat)] 59 (0, 0)) := by rw [hh]; exact G3.out
  exact ⟨keepsFrom_set (keepsFrom_below hHeld.below) _ _, hB7.setCell (p := ⟨Bs, 0, none⟩) n3.2.2.1 _, (Below.heap_setCell _ _ _ Bx n3.2.2.2.1).trans G1', (Below.heap_setCell _ _ _ Bi n3.2.2.2.2).trans G2', by rw [HF.out]; exact (blk_set G3' 0 _).trans rfl, (G4.out.trans hB7).setCell (p := ⟨Bs, 0, none⟩) n3.2.2.1 _⟩
 case done =>
  rintro D W hD ⟨g1, g2, g3, g4⟩ hK
  have HU := Aside0.mk (show (elems mi).foldl (uselStep nd bl i) 0 = uselN nd bl i by unfold uselN; rw [HM.out.2.2])
  rw [HU.out] at g3
  have cs0 : W.cell? ⟨Bs, 0, none⟩ = some (.int .u16 (uselN nd bl i : Nat)) := (cell_blk g3 0).trans rfl
  have G4 := Aside0.mk g4
  have HK := Aside0.mk hK
  have HD := Aside0.mk (Nat.le_trans hB5 hD)
  clear g1 g2 g3 g4 hK hD hx hii hss hbs hB5 HB5
  go_wp2_with fail
  refine leave_ (Marks.one HD.out HK.out) (fun w' hw => ?_)
  exact ⟨_, results_tmp rfl _ _ _, rfl, hw.below G4.out⟩
theorem S_ownFrom {α : Type} {d : Kd α} {e b B : Nat} {ok : Nat → Prop} {v : Value} {xs : List α} {W W' : World} {row : Option Nat} (h : Kd.S d e W b ok v xs) (hg : W.grownBy W' row) (hr : ∀ r, row = some r → B ≤ r ∧ ∃ o : Obj, W.heap[r]? = some o ∧ o.isCells = false) : Kd.S d e W' b ok v xs := by
 obtain ⟨f, h⟩ := h
 exact ⟨f, R_ownFrom h hg hr⟩
theorem Marks.grown {b : Nat} {w w' : World} {ds : List Deferred} {row : Option Nat} {t : Nat} (h : Marks b w ds) (hg : w.grownBy w' row) (hty : ∀ k, row = some k → ∃ cells, w.heap[k]? = some (.cells cells t (0, 0))) : Marks b w' ds :=
 h.move (fun k hk _ => (hg.block k (Array.getElem?_eq_some_iff.1 hk).1 (fun e => by
  obtain ⟨cells, hc⟩ := hty k e.symm
  rw [hk] at hc
  cases hc)).trans hk)
/-- The pairs of the tasks below q. -/
def uselTo (nd bl : List Nat) (q : Nat) : List (List Int) := (List.range q).flatMap (fun (i : Nat) => (elems (uselN nd bl i)).map (fun (k : Nat) => [((i : Nat) : Int), ((k : Nat) : Int)]))
theorem uselTo_succ (nd bl : List Nat) (q : Nat) : uselTo nd bl (q + 1) = uselTo nd bl q ++ (elems (uselN nd bl q)).map (fun (k : Nat) => [((q : Nat) : Int), ((k : Nat) : Int)]) := by
 unfold uselTo
 rw [List.range_succ, List.flatMap_append]
 simp
theorem uselTo_len (nd bl : List Nat) : ∀ q, (uselTo nd bl q).length ≤ 16 * q
 | 0 => by simp [uselTo]
 | q + 1 => by
  rw [uselTo_succ, List.length_append, List.length_map]
  have := uselTo_len nd bl q
  have := elems_len (uselN nd bl q)
  omega
theorem row_two {w : World} {base : Nat} {ok : Nat → Prop} {v : Value} {a c : Int} (h : Kd.R (Kd.int .i64) 3 w base ok v [a, c]) : Kd.R (Kd.int .i64) 3 w base (fun k => some k = v.ownBlock) v [a, c] := Kd.R_tight rfl h
set_option maxHeartbeats 16000000 in
set_option maxRecDepth 1000000 in
theorem usel_yes {A0 : Option Addr} {c0 : Nat} {l0 : List S29} {w : World} (h : gok l0 = true) (hbl : Sets l0.length (bel l0)) (hr0 : Kd.C k29 w A0 l0.length l0) (hc0 : l0.length ≤ c0) (ht : Tab w) :
  Calls Tryd.prog 19 #[.slice A0 l0.length c0] w fun e w' => ∃ v0_ : Value, e = .returned v0_ ∧ Kd.S (Kd.slice 3 (Kd.int .i64)) 25 w' w.heap.size (fun _ => True) v0_ (uselTo (ndm l0) (bel l0) l0.length) ∧ Below w.heap.size w w' := by
 have h8 := gok8 h
 have HGO := Aside0.mk (graphOf_yes h hr0 hc0 ht)
 have HT := Aside0.mk ht
 have hnd := ndm_sets (gok_fine h)
 obtain ⟨n, hn⟩ : ∃ n, l0.length = n := ⟨_, rfl⟩
 obtain ⟨nd, end_⟩ : ∃ d, ndm l0 = d := ⟨_, rfl⟩
 obtain ⟨bl, ebl⟩ : ∃ d, bel l0 = d := ⟨_, rfl⟩
 rw [hn] at HGO h8 hnd hbl ⊢
 rw [end_] at HGO hnd ⊢
 rw [ebl] at HGO hbl ⊢
 have HH := Aside0.mk (show n ≤ 8 ∧ Sets n nd ∧ Sets n bl from ⟨h8, hnd, hbl⟩)
 clear h hr0 hc0 ht h8 hnd hbl hn end_ ebl
 refine enter_marks Tryd.func19 rfl ?_
 simp only [Tryd.ntmps19, List.size_toArray, List.length_cons, List.length_nil, Nat.reduceAdd, Nat.reduceSub, Array.replicate_succ, Array.replicate_zero, List.push_toArray, List.append_toArray, List.nil_append, List.cons_append]
 go_wp2_with (first | (go_at_call 34; refine HGO.out.mono ?_; rintro e w1 ⟨g, rfl, hG, hB⟩; have HG := Aside0.mk hG; have HBW := Aside0.mk hB; clear hB hG) | ((with_reducible refine gate_dst (N := 15) rfl ?_); refine Kd.S_lit (Kd.slice 3 (Kd.int .i64)) _ 25 ?hg (N := 15) ?hd (xs := ([] : List (List Int))) (inner := []) (ok := fun _ => True) (okp := fun _ => True) ?hr ?hp (fun _ hk => hk) trivial (Below.refl _ _) (Nat.le_refl _) (by simp) ?_; (case hd => rfl); (case hg => rfl); (case hr => first | (go_simp; done) | (go_simp; rfl)); (case hp => exact (Reps.none _ _)); intro v15 w2 ho hb hg_ hnew_; obtain ⟨Av, cv, ev⟩ := Kd.S_slice ho; subst ev; simp only [List.length_nil] at ho ⊢; have HO := Aside0.mk ho; have HB2 := Aside0.mk hb; obtain ⟨Aa, ca, An, cn, Ao, co, Pb, Pa, hgg, _⟩ := HG.out.below hb; have cgx : (w2.alloc (.cells #[.slice Av 0 cv] 32 (0, 0))).cell? ⟨g, 1, none⟩ = some (.slice An n cn) := (cell_blk (al_old hgg) 1).trans rfl; clear ho hb hg_ hnew_ hgg))
 have gB := HB2.out.alloc HB2.out.size (.cells #[.slice Av 0 cv] 32 (0, 0))
 have gO := al_new w2 32 #[.slice Av 0 cv]
 have gR := Kd.S_alloc HO.out (.cells #[.slice Av 0 cv] 32 (0, 0))
 obtain ⟨Bo, hBo⟩ : ∃ b, w2.heap.size = b := ⟨_, rfl⟩
 have HLO := Aside0.mk (show w1.heap.size ≤ Bo by rw [← hBo]; exact HB2.out.size)
 rw [hBo] at gO ⊢
 generalize w2.alloc (.cells #[.slice Av 0 cv] 32 (0, 0)) = w5 at gB gO gR cgx ⊢
 have GB := Aside0.mk gB
 have GO := Aside0.mk gO
 have GR := Aside0.mk gR
 have HT1 := Aside0.mk (HT.out.below HBW.out HT.out.pos)
 have H01 := Aside0.mk HT1.out.pos
 clear gB gO gR hBo HB2 HO cgx
 obtain ⟨I, hI⟩ : ∃ I : Act → World → Prop, I = (fun a W => ∃ (q : Nat), (∃ f : Nat → Value, a.tmps = #[f 0, f 1, f 2, .pointer (some ⟨g, 0, none⟩), f 4, .pointer (some ⟨Bo, 0, none⟩), f 6, f 7, f 8, f 9, f 10, f 11, f 12, f 13, f 14, f 15, f 16, f 17, f 18, f 19, .int .i64 (n : Nat), .int .i64 (q : Nat), f 22, f 23, f 24, f 25, f 26, f 27, f 28, f 29, f 30, f 31, f 32, f 33, f 34, f 35, f 36]) ∧ Aside0 (q ≤ n) ∧ Aside0 (∃ A c, W.heap[Bo]? = some (.cells #[.slice A (uselTo nd bl q).length c] 32 (0, 0)) ∧ Kd.S (Kd.slice 3 (Kd.int .i64)) 25 W w1.heap.size (fun _ => True) (.slice A (uselTo nd bl q).length c) (uselTo nd bl q)) ∧ Aside0 (Below w1.heap.size w1 W) ∧ Aside0 (Marks w1.heap.size W a.defers)) := ⟨_, rfl⟩
 refine wp_loop I (fun a _ => n - (intOf (a.tmps.getD 21 undef)).toNat) ?start ?round
 case start =>
  rw [hI]
  exact ⟨0, lit_intro rfl, ⟨Nat.zero_le _⟩, ⟨Av, cv, GO.out, GR.out⟩, ⟨GB.out⟩, ⟨trivial⟩⟩
 case round =>
  clear GR GO GB
  rintro ⟨t, ds⟩ W h
  have HI := Aside0.mk hI
  rw [hI] at h
  clear hI
  obtain ⟨q, ⟨f, ht⟩, HJ, HR, HB, HM⟩ := h
  simp only at ht HM
  subst ht
  obtain ⟨A, c, hO, hS⟩ := HR.out
  have hqn := HJ.out
  have hn8 := HH.out.1
  by_cases hlt : q < n
  ·have hu := uselN_lt (bl := bl) HH.out.2.1 q
   have HUSE := Aside0.mk (fun (W1 : World) (hb : Below w1.heap.size w1 W1) => useless_calls (HG.out.below hb) HH.out.1 HH.out.2.1 HH.out.2.2 hlt (HT1.out.below hb H01.out))
   obtain ⟨mi, hmi⟩ : ∃ m, uselN nd bl q = m := ⟨_, rfl⟩
   have HQM := Aside0.mk hmi
   rw [hmi] at hu HUSE
   have HMI := Aside0.mk (show mi < 65536 ∧ mi < 2 ^ n ∧ q < n from ⟨Nat.lt_of_lt_of_le (pow8 hn8 hu) (by decide), hu, hlt⟩)
   have hb1 := HB.out.alloc HB.out.size (.cells #[.int .i64 (q : Nat)] 3 (0, 0))
   have hk1 := al_new W 3 #[.int .i64 (q : Nat)]
   have ho1 := al_old (o := .cells #[.int .i64 (q : Nat)] 3 (0, 0)) hO
   have hs1 := Kd.S_alloc hS (.cells #[.int .i64 (q : Nat)] 3 (0, 0))
   have hm1 := HM.out.below (below_alloc (Below.refl _ _) (.cells #[.int .i64 (q : Nat)] 3 (0, 0)))
   have cbq : (W.alloc (.cells #[.int .i64 (q : Nat)] 3 (0, 0))).cell? ⟨W.heap.size, 0, none⟩ = some (.int .i64 (q : Nat)) := (cell_blk hk1 0).trans rfl
   have qj : (q : Int) < (n : Int) := by omega
   have HBo := Aside0.mk (show Bo < W.heap.size from (Array.getElem?_eq_some_iff.1 hO).1)
   have HBS := Aside0.mk HB.out.size
   have X1 := Aside0.mk hb1
   have X2 := Aside0.mk hk1
   have X3 := Aside0.mk ho1
   have X4 := Aside0.mk hs1
   have X5 := Aside0.mk hm1
   clear hu hmi hb1 hk1 ho1 hs1 hm1 hO hS hqn hn8 hlt HJ HR HB HM
   go_wp2_with (first | (go_at_call 41; refine (all_calls mi _).mono ?_; rintro e w7 ⟨rfl, rfl⟩) | (go_at_call 40; refine (HUSE.out _ X1.out).mono ?_; rintro e w6 ⟨rfl, hb6⟩; have Y1 := Aside0.mk (X1.out.trans (hb6.mono X1.out.size)); have Y2 := Aside0.mk ((hb6.block _ (Array.getElem?_eq_some_iff.1 X2.out).1).trans X2.out); have Y3 := Aside0.mk ((hb6.block _ (Array.getElem?_eq_some_iff.1 X3.out).1).trans X3.out); have Y4 := Aside0.mk (Kd.S_below X4.out hb6); have Y5 := Aside0.mk (X5.out.below hb6); clear hb6 X1 X2 X3 X4 X5))
   have hbs := (Boxed.new w6 59 (.int .u16 (mi : Nat))).cell
   have HB5 := Aside0.mk (Y1.out.alloc Y1.out.size (.cells #[.int .u16 (mi : Nat)] 59 (0, 0)))
   have hk5 := al_old (o := .cells #[.int .u16 (mi : Nat)] 59 (0, 0)) Y2.out
   have ho5 := al_old (o := .cells #[.int .u16 (mi : Nat)] 59 (0, 0)) Y3.out
   have hs5 := Kd.S_alloc Y4.out (.cells #[.int .u16 (mi : Nat)] 59 (0, 0))
   have HM5 := Aside0.mk (Y5.out.below (below_alloc (Below.refl _ _) (.cells #[.int .u16 (mi : Nat)] 59 (0, 0))))
   obtain ⟨B9, hB9⟩ : ∃ B, w6.heap.size = B := ⟨_, rfl⟩
   obtain ⟨Bi, hBi⟩ : ∃ B, W.heap.size = B := ⟨_, rfl⟩
   rw [hB9] at hbs ⊢
   rw [hBi] at hk5 HBo HBS ⊢
   generalize w6.alloc (.cells #[.int .u16 (mi : Nat)] 59 (0, 0)) = w9 at hbs HB5 hk5 ho5 hs5 HM5 ⊢
   clear hB9 hBi cbq Y1 Y2 Y3 Y4 Y5
   have hB5 := HB5.out.size
   have HLT5 := Aside0.mk HM5.out.lt
   have HNE := Aside0.mk (show Bo ≠ Bi by have := HBo.out; omega)
   obtain ⟨ul, hul⟩ : ∃ l, uselTo nd bl q = l := ⟨_, rfl⟩
   have HUL := Aside0.mk (show ul.length ≤ 200 by rw [← hul]; have := uselTo_len nd bl q; have := HMI.out.2.2; have := HH.out.1; omega)
   have HUE := Aside0.mk hul
   rw [hul] at ho5 hs5
   clear hul
   refine wp_range HMI.out.1 rfl hbs (HT1.out.below HB5.out H01.out) H01.out hB5 rfl
    (fun pre W' => (∃ A c, W'.heap[Bo]? = some (.cells #[.slice A (ul ++ pre.map (fun (k : Nat) => [((q : Nat) : Int), ((k : Nat) : Int)])).length c] 32 (0, 0)) ∧ Kd.S (Kd.slice 3 (Kd.int .i64)) 25 W' w1.heap.size (fun _ => True) (.slice A (ul ++ pre.map (fun (k : Nat) => [((q : Nat) : Int), ((k : Nat) : Int)])).length c) (ul ++ pre.map (fun (k : Nat) => [((q : Nat) : Int), ((k : Nat) : Int)]))) ∧ W'.heap[Bi]? = some (.cells #[.int .i64 (q : Nat)] 3 (0, 0)) ∧ Below w1.heap.size w1 W' ∧ Marks w1.heap.size W' ds)
    (fun s W1 W2 row hs hg hr => ⟨(let ⟨A, c, h1, h2⟩ := hs.1; ⟨A, c, blk_ownFrom h1 hg hr, S_ownFrom h2 hg hr⟩), blk_ownFrom hs.2.1 hg hr, below_ownFrom hs.2.2.1 (Nat.le_refl _) hB5 hg hr, hs.2.2.2.ownFrom HLT5.out hg hr⟩)
    ⟨⟨A, c, by simpa using ho5, by simpa using hs5⟩, hk5, HB5.out, HM5.out⟩ ?a1 ?assign ?body ?done
   case assign =>
    intro l x W K hK
    gi_wp2
    exact hK
   case body =>
    rintro l pre k W hk hpl ⟨⟨A, c, g1, g1'⟩, g2, g3, g4⟩
    obtain ⟨L, hL⟩ : ∃ L, ul ++ pre.map (fun (k : Nat) => [((q : Nat) : Int), ((k : Nat) : Int)]) = L := ⟨_, rfl⟩
    rw [hL] at g1 g1'
    have HLX := Aside0.mk (show ul ++ (pre ++ [k]).map (fun (k : Nat) => [((q : Nat) : Int), ((k : Nat) : Int)]) = L ++ [[((q : Nat) : Int), ((k : Nat) : Int)]] by rw [List.map_append, ← List.append_assoc, hL]; rfl)
    have hlen : (L.length + 1) * 24 ≤ 140737488355328 := by
     rw [← hL, List.length_append, List.length_map]
     have := HUL.out
     have := elems_len mi
     omega
    have cb : W.cell? ⟨Bo, 0, none⟩ = some (.slice A L.length c) := (cell_blk g1 0).trans rfl
    have ci : W.cell? ⟨Bi, 0, none⟩ = some (.int .i64 (q : Nat)) := (cell_blk g2 0).trans rfl
    have hBlt := (Array.getElem?_eq_some_iff.1 g1).1
    have G1 := Aside0.mk g1
    have GS := Aside0.mk g1'
    have G2 := Aside0.mk g2
    have G3 := Aside0.mk g3
    have G4 := Aside0.mk g4
    clear g1 g1' g2 g3 g4 hL hk hpl
    refine wpIn_block (regionIn_ (by kernel_rfl) (by rintro ⟨a, w, h⟩; exact h) ?_)
    go_wp2_with (first | ((with_reducible refine gate_dst (N := 32) rfl ?_); refine Kd.R_lit (Kd.int .i64) _ 3 ?hg (N := 32) ?hd (xs := ([((q : Nat) : Int), ((k : Nat) : Int)] : List Int)) (inner := [.int .i64 (q : Nat), .int .i64 (k : Nat)]) (ok := fun _ => True) (okp := fun _ => True) ?hr ?hp (fun _ hk => hk) trivial (Below.refl _ _) (Nat.le_refl _) (by simp) ?_; (case hd => rfl); (case hg => rfl); (case hr => first | (go_simp; done) | (go_simp; rfl)); (case hp => exact (Reps.one (show Kd.M (Kd.int .i64) _ _ _ ((q : Nat) : Int) [.int .i64 (q : Nat)] from rfl) (Reps.one (show Kd.M (Kd.int .i64) _ _ _ ((k : Nat) : Int) [.int .i64 (k : Nat)] from rfl) (Reps.none _ _)))); intro v32 w7 ho hb hg_ hnew_; obtain ⟨A32, c32, e32⟩ := Kd.R_slice ho; subst e32; have HO32 := Aside0.mk ho; have HB7 := Aside0.mk hb; clear ho hb hg_ hnew_) | ((with_reducible refine gate_builtin (b := .append) (xs := #[.tmp 29, .tmp 33]) rfl ?_); at_builtin; go_must (refine Kd.S_append (Kd.slice 3 (Kd.int .i64)) (w0 := W) w1.heap.size rfl (.tmp 29) (.tmp 33) 32 25 (.slice none 0 0) 24 rfl Tryd.underlying32 info25 rfl (by decide) (by omega) (.slice A L.length c) L [((q : Nat) : Int), ((k : Nat) : Int)] [.slice A32 [((q : Nat) : Int), ((k : Nat) : Int)].length c32] (fun _ => True) (fun k_ => some k_ = (Value.slice A32 [((q : Nat) : Int), ((k : Nat) : Int)].length c32).ownBlock) rfl rfl ?aP ?aK (fun _ _ => trivial) ?aO ?aB ?aS hlen ?_; (case aP => exact Kd.M_row (Kd.R_tight rfl (Kd.R_lower HO32.out G3.out.size))); (case aK => exact (fun k_ hk => ⟨trivial, fun e => by have h1 := Kd.R_base HO32.out k_ hk.symm; have h2 := Kd.S_lt GS.out k_ e.symm; omega⟩)); (case aO => exact Kd.S_mono (Kd.S_below (Kd.S_bound GS.out) HB7.out) (fun k_ hk => ⟨trivial, fun e => by have h1 := Kd.R_base HO32.out k_ e.symm; have h2 := hk.2.2.1; omega⟩)); (case aB => exact HB7.out.mono G3.out.size); (case aS => exact Nat.le_trans G3.out.size HB7.out.size); intro v34 w8 ho hb hg hat; rw [← HLX.out] at ho; have hx7 := (HB7.out.block _ (Array.getElem?_eq_some_iff.1 G1.out).1).trans G1.out; have hi7 := (HB7.out.block _ (Array.getElem?_eq_some_iff.1 G2.out).1).trans G2.out; have hs7 := Kd.S_below GS.out HB7.out; have hx8 := (hg.block Bo (Array.getElem?_eq_some_iff.1 hx7).1 (Kd.S_ne hs7 hx7 (by decide))).trans hx7; have hi8 := (hg.block Bi (Array.getElem?_eq_some_iff.1 hi7).1 (Kd.S_ne hs7 hi7 (by decide))).trans hi7; have cb8 : w8.cell? ⟨Bo, 0, none⟩ = some (.slice A L.length c) := (cell_blk hx8 0).trans rfl; have fz8 : w8.frozen? ⟨Bo, 0, none⟩ = false := blk_frozen hx8 _; obtain ⟨A34, c34, e34⟩ := Kd.S_slice ho; subst e34; have HX8 := Aside0.mk hx8; have HI8 := Aside0.mk hi8; have HS8 := Aside0.mk ho; have HB8 := Aside0.mk hb; have HM8 := Aside0.mk ((G4.out.below HB7.out).grown hg (Kd.S_typed hs7)); have HK8 := Aside0.mk (KeepsFrom.trans (keepsFrom_below (B := w9.heap.size) HB7.out) (keepsFrom_grown (B := w9.heap.size) (Kd.S_R hs7) hg)); clear ho hb hg hat hx7 hi7 hs7 hx8 hi8)))
    exact ⟨keepsFrom_set HK8.out _ _, HB8.out.setCell (p := ⟨Bo, 0, none⟩) HLO.out _, ⟨A34, c34, by have h := blk_set HX8.out 0 (Value.slice A34 (ul.length + (pre.length + 1)) c34); simpa using h, by have h := Kd.S_set HS8.out HX8.out (by decide) 0 (Value.slice A34 (ul.length + (pre.length + 1)) c34); simpa using h⟩, (Below.heap_setCell _ _ _ Bi (fun e => HNE.out e.symm)).trans HI8.out, (G3.out.trans HB8.out).setCell (p := ⟨Bo, 0, none⟩) HLO.out _, HM8.out.setCell (p := ⟨Bo, 0, none⟩) HX8.out _⟩
   case done =>
    rintro D W hD ⟨⟨A, c, g1, g1'⟩, g2, g3, g4⟩ hK
    have hM1 := g4.more (Nat.le_trans hB5 hD) hK (fun d hd D' e => Nat.lt_of_lt_of_le (HLT5.out d hd D' e) hD)
    have HM9 := Aside0.mk hM1
    have HJ9 := Aside0.mk (show q + 1 ≤ n from HMI.out.2.2)
    have hE : uselTo nd bl (q + 1) = ul ++ (elems mi).map (fun (k : Nat) => [((q : Nat) : Int), ((k : Nat) : Int)]) := by rw [uselTo_succ, HUE.out, HQM.out]
    rw [← hE] at g1 g1'
    have HR9 := Aside0.mk (show ∃ A c, W.heap[Bo]? = some (.cells #[.slice A (uselTo nd bl (q + 1)).length c] 32 (0, 0)) ∧ Kd.S (Kd.slice 3 (Kd.int .i64)) 25 W w1.heap.size (fun _ => True) (.slice A (uselTo nd bl (q + 1)).length c) (uselTo nd bl (q + 1)) from ⟨A, c, g1, g1'⟩)
    have HB9 := Aside0.mk g3
    have hq8 : (q : Int) < 9 := by have := HH.out.1; have := HMI.out.2.2; omega
    clear g1 g1' g2 g3 g4 hK hD hM1 hE hbs HB5 hk5 ho5 hs5 HM5
    go_wp2_with fail
    rw [HI.out]
    refine ⟨⟨q + 1, lit_intro rfl, HJ9, HR9, HB9, HM9⟩, ?_⟩
    show n - ((q : Int) + 1).toNat < n - (q : Int).toNat
    have := HJ9.out
    omega
  ·obtain rfl : q = n := by omega
   have cb : W.cell? ⟨Bo, 0, none⟩ = some (.slice A (uselTo nd bl q).length c) := (cell_blk hO 0).trans rfl
   have HS := Aside0.mk hS
   clear hqn hn8 hlt HI hO hS
   go_wp2_with fail
   refine leave_ HM.out (fun w' hw => ?_)
   obtain ⟨fS, hfS⟩ := HS.out
   exact ⟨_, results_tmp rfl _ _ _, _, rfl, Kd.S_lower ⟨fS, hw.R hfS⟩ HBW.out.size, HBW.out.trans ((hw.below HB.out).mono HBW.out.size)⟩
def impl_UselessNeeds.f (l0 : List S29) : Option (List (List Int)) := some (if gok l0 = true then uselTo (ndm l0) (bel l0) l0.length else [])
theorem bel_sets {l0 : List S29} (h : gok l0 = true) : Sets l0.length (bel l0) := (gst_ok (gok8 h) (ndm_sets (gok_fine h)) (ord l0) (fun i hi => (ord_mem h).1 hi)).1
set_option maxHeartbeats 8000000 in
set_option maxRecDepth 1000000 in
theorem impl_UselessNeeds.calls (A0 : Option Addr) (c0 : Nat) (l0 : List S29) (r : List (List Int)) (w : World) (hr0 : Kd.C k29 w A0 l0.length l0) (hc0 : l0.length ≤ c0) (h : impl_UselessNeeds.f l0 = some r) (hT_ : Tab w) :
  Calls Tryd.prog 19 #[.slice A0 l0.length c0] w fun e w' => ∃ v0_ : Value, e = .returned (v0_) ∧ Kd.S (Kd.slice 3 (Kd.int .i64)) 25 w' w.heap.size (fun _ => True) v0_ r ∧ Below w.heap.size w w' := by
 injection h with h
 subst h
 by_cases c : gok l0 = true
 ·rw [if_pos c]
  exact usel_yes c (bel_sets c) hr0 hc0 hT_
 ·rw [if_neg c]
  have HGO := Aside0.mk (graphOf_no (Bool.eq_false_iff.2 c) hr0 hc0)
  clear c hr0 hc0 hT_
  go_enter Tryd.func19, Tryd.ntmps19
  go_wp2_with (first | (go_at_call 34; refine HGO.out.mono ?_; rintro e w1 ⟨rfl, hB⟩; have HB := Aside0.mk hB; clear hB))
  go_ret
  exact ⟨_, rfl, Kd.S_nil _ _ _ _ _, HB.out⟩
end Go.Proofs.YtbodhggmhbiebaaDoor.G
