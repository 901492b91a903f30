/-
 StageOf by hand.
-/
import Derived.Test.YtbodhggmhbiebaaDoorHGOf
import Derived.Test.YtbodhggmhbiebaaDoorCStg
import Derived.Test.YtbodhggmhbiebaaDoorG0
namespace Go.Proofs.YtbodhggmhbiebaaDoor.G
open Go.RowKit Go.Proofs.YtbodhggmhbiebaaDoorW.PrintWords Go.Proofs.YtbodhggmhbiebaaDoorW.PrintLast Go.Proofs.YtbodhggmhbiebaaDoorW.PrintMore C
set_option linter.unusedVariables false
set_option linter.unusedSimpArgs false
attribute [local go_sem] Oper.semAt_some max2_int max_two

theorem set_self (o : List Int) (i : Nat) : o.set i (o.getD i 0) = o := by
 apply List.ext_getElem?
 intro j
 rw [List.getElem?_set]
 by_cases e : i = j
 ·subst e
  rw [if_pos rfl]
  split
  ·rename_i h
   rw [List.getD_eq_getElem?_getD, List.getElem?_eq_getElem h]
   rfl
  ·rename_i h
   rw [List.getElem?_eq_none (by omega)]
 ·rw [if_neg e]
theorem row_putS {b : Nat} {w W : World} {go n cv i : Nat} {ok : Nat → Prop} {out : List Int} (hR : Kd.R (Kd.int .i64) 3 W b ok (.slice (some ⟨go, 0, none⟩) n cv) out) (hB : Below b w W) (hi : i < n) (x : Int) :
  Kd.R (Kd.int .i64) 3 (W.setCell ⟨go, i, none⟩ (.int .i64 x)) b ok (.slice (some ⟨go, 0, none⟩) n cv) (out.set i x) ∧ Below b w (W.setCell ⟨go, i, none⟩ (.int .i64 x)) := by
 have h := Kd.R_putn hR (i : Int) x
 rw [Int.toNat_natCast] at h
 obtain ⟨_, _, e', hge, _⟩ := Kd.R_form hR (by have := (Kd.R_reads' hR).1; omega)
 injection e' with e' _ _
 injection e' with e'
 injection e' with e' _ _
 exact ⟨h, hB.setCell (p := ⟨go, i, none⟩) (by rw [e']; exact hge) _⟩
set_option maxHeartbeats 16000000 in
set_option maxRecDepth 1000000 in
theorem stages_calls {b : Nat} {w : World} {g n : Nat} {l0 : List S29} {nd od bl ab : List Nat} (hG : IsG b w g n l0 nd od bl ab) (hn8 : n ≤ 8) (hod : od.length = n) (hol : ∀ i, i ∈ od → i < n) (hnd : Sets n nd) (hir : ∀ i, i < n → i ∉ elems (nd.getD i 0)) (ht : Tab w) :
  Calls Tryd.prog 35 #[.pointer (some ⟨g, 0, none⟩)] w fun e w' => ∃ v0_ : Value, e = .returned v0_ ∧ Kd.R (Kd.int .i64) 3 w' w.heap.size (fun _ => True) v0_ (stagesN nd n od) ∧ Below w.heap.size w w' := by
 have HG := Aside0.mk hG
 have HT := Aside0.mk ht
 have HH := Aside0.mk (show n ≤ 8 ∧ od.length = n ∧ (∀ i, i ∈ od → i < n) ∧ Sets n nd ∧ (∀ i, i < n → i ∉ elems (nd.getD i 0)) from ⟨hn8, hod, hol, hnd, hir⟩)
 clear hG hn8 hod hol hnd hir ht
 refine enter_marks Tryd.func35 rfl ?_
 simp only [Tryd.ntmps35, List.size_toArray, List.length_cons, List.length_nil, Nat.reduceAdd, Nat.reduceSub, Array.replicate_succ, Array.replicate_zero, List.push_toArray, List.append_toArray, List.nil_append, List.cons_append]
 obtain ⟨Aa, ca, An, cn, Ao, co, Pb, Pa, hg, hca, hCt, hCn, hRo, hCb, hCa⟩ := HG.out
 have HGB := Aside0.mk hg
 have HCN := Aside0.mk hCn
 have HCO := Aside0.mk (Kd.R_reads' hRo).2.2
 clear hg hca hCt hCn hRo hCb hCa
 go_wp2_with (first | (go_at_call 54; refine (size_calls HG.out).mono ?_; rintro e w2 ⟨rfl, hw2⟩; rw [hw2]; clear hw2 w2) | ((with_reducible refine gate_dst (N := 9) rfl ?_); refine Kd.R_make (Kd.int .i64) w.heap.size 3 rfl (N := 9) rfl 25 _ _ rfl (n : Int) rfl rfl Tryd.underlying25 (.int .i64 0) 8 info3 rfl (by decide) (by omega) 0 (ok := fun _ => True) (okp := fun _ => True) rfl (fun _ hk => hk) trivial (by omega) (by have := HH.out.1; omega) (Below.refl w.heap.size w) (Nat.le_refl _) ?_; intro vo w4 ho hb hg_ hnew_; obtain ⟨Av, cv, ev⟩ := Kd.R_slice ho; subst ev; simp only [List.length_replicate, Int.toNat_natCast] at ho ⊢; have HO := Aside0.mk ho; have HB4 := Aside0.mk hb; have hx2 : (w4.alloc (.cells #[.slice Av n cv] 25 (0, 0))).cell? ⟨g, 2, none⟩ = some (.slice Ao n co) := (cell_blk (al_old ((hb.block g (Array.getElem?_eq_some_iff.1 HGB.out).1).trans HGB.out)) 2).trans rfl; clear ho hb hg_ hnew_))
 have gB := HB4.out.alloc HB4.out.size (.cells #[.slice Av n cv] 25 (0, 0))
 have gO := al_new w4 25 #[.slice Av n cv]
 have gR := Kd.R_alloc HO.out (.cells #[.slice Av n cv] 25 (0, 0))
 obtain ⟨Bo, hBo⟩ : ∃ b, w4.heap.size = b := ⟨_, rfl⟩
 rw [hBo] at gO ⊢
 generalize w4.alloc (.cells #[.slice Av n cv] 25 (0, 0)) = w5 at gB gO gR hx2 ⊢
 have GB := Aside0.mk gB
 have GO := Aside0.mk gO
 have GR := Aside0.mk gR
 clear gB gO gR hBo HB4 HO hx2 HG
 have H01 := Aside0.mk HT.out.pos
 obtain ⟨I, hI⟩ : ∃ I : Act → World → Prop, I = (fun a W => ∃ (q : Nat), (∃ f : Nat → Value, a.tmps = #[.pointer (some ⟨g, 0, none⟩), f 1, f 2, .pointer (some ⟨Bo, 0, none⟩), f 4, f 5, f 6, f 7, f 8, f 9, f 10, f 11, f 12, .slice Ao n co, .int .i64 (n : Nat), .int .i64 (q : Nat), f 16, f 17, f 18, f 19, f 20, f 21, f 22, f 23, f 24, f 25, f 26, f 27, f 28, f 29, f 30, f 31, f 32, f 33, f 34, f 35, f 36, f 37, f 38, f 39, f 40, f 41, f 42]) ∧ Aside0 (q ≤ n) ∧ Aside0 (Kd.R (Kd.int .i64) 3 W w.heap.size (fun _ => True) (.slice Av n cv) (stagesN nd n (od.take q))) ∧ Aside0 (W.heap[Bo]? = some (.cells #[.slice Av n cv] 25 (0, 0))) ∧ Aside0 (Below w.heap.size w W) ∧ Aside0 (Marks w.heap.size W a.defers)) := ⟨_, rfl⟩
 refine wp_loop I (fun a _ => n - (intOf (a.tmps.getD 15 undef)).toNat) ?start ?round
 case start =>
  rw [hI]
  exact ⟨0, lit_intro rfl, ⟨Nat.zero_le _⟩, ⟨GR.out⟩, ⟨GO.out⟩, ⟨GB.out⟩, ⟨trivial⟩⟩
 case round =>
  clear GR GO GB
  rintro ⟨t, ds⟩ W h
  have HI := Aside0.mk hI
  rw [hI] at h
  clear hI
  obtain ⟨q, ⟨f, ht⟩, HJ, HR, HO, HB, HM⟩ := h
  simp only at ht HM
  subst ht
  have hco := HH.out.2.1
  have hqn := HJ.out
  have hn8 := HH.out.1
  by_cases hlt : q < n
  ·obtain ⟨i, hi⟩ : ∃ i, od.getD q 0 = i := ⟨_, rfl⟩
   obtain ⟨ad1, e1, cj⟩ := Kd.at_int (Kd.C_below HCO.out HB.out) (q : Int) (by omega) (by rw [castL_length]; omega)
   rw [Int.toNat_natCast, rd_castL, hi] at cj
   subst e1
   have hin : i < n := HH.out.2.2.1 i (by rw [← hi, List.getD_eq_getElem?_getD, List.getElem?_eq_getElem (by omega)]; exact List.getElem_mem _)
   obtain ⟨ad2, e2, ci⟩ := Kd.at_int (Kd.C_below HCN.out (HB.out.alloc HB.out.size (.cells #[.int .i64 (i : Nat)] 3 (0, 0)))) (i : Int) (by omega) (by omega)
   rw [Int.toNat_natCast, rd_castL] at ci
   subst e2
   obtain ⟨mi, hmi⟩ : ∃ m, nd.getD i 0 = m := ⟨_, rfl⟩
   rw [hmi] at ci
   have hmi8 := HH.out.2.2.2.1.get i
   rw [hmi] at hmi8
   have hnoti := HH.out.2.2.2.2 i hin
   rw [hmi] at hnoti
   have HMI := Aside0.mk (show mi < 65536 ∧ mi < 2 ^ n ∧ nd.getD i 0 = mi ∧ od.getD q 0 = i ∧ q < n ∧ i < n ∧ i ∉ elems mi from ⟨Nat.lt_of_lt_of_le (pow8 hn8 hmi8) (by decide), hmi8, hmi, hi, hlt, hin, hnoti⟩)
   have cg : (W.alloc (.cells #[.int .i64 (i : Nat)] 3 (0, 0))).cell? ⟨g, 1, none⟩ = some (.slice (some ad2) n cn) := (cell_blk (al_old ((HB.out.block g (Array.getElem?_eq_some_iff.1 HGB.out).1).trans HGB.out)) 1).trans rfl
   have cbx : (W.alloc (.cells #[.int .i64 (i : Nat)] 3 (0, 0))).cell? ⟨W.heap.size, 0, none⟩ = some (.int .i64 (i : Nat)) := (cell_blk (al_new W 3 #[.int .i64 (i : Nat)]) 0).trans rfl
   have qj : (q : Int) < (n : Int) := by omega
   have qi : (i : Int) < (n : Int) := by omega
   clear hmi hmi8 hi hco hqn hn8 hlt hin hnoti
   go_upto_region 5 with fail
   have hr1 := Kd.R_alloc (Kd.R_mono (Kd.R_bound HR.out) (fun k hk => Nat.ne_of_lt hk.2.2.1)) (.cells #[.int .i64 (i : Nat)] 3 (0, 0))
   have hk1 := al_new W 3 #[.int .i64 (i : Nat)]
   have ho1 := al_old (o := .cells #[.int .i64 (i : Nat)] 3 (0, 0)) HO.out
   have hm1 := HM.out.below (below_alloc (Below.refl _ _) (.cells #[.int .i64 (i : Nat)] 3 (0, 0)))
   have hb1 := HB.out.alloc HB.out.size (.cells #[.int .i64 (i : Nat)] 3 (0, 0))
   have hgo : ∃ go, Av = some ⟨go, 0, none⟩ ∧ go < W.heap.size ∧ (∃ cells, W.heap[go]? = some (.cells cells 3 (0, 0))) ∧ w.heap.size ≤ go := by
    obtain ⟨go, c', e', h1, h2, h3⟩ := Kd.R_form HR.out (by have := (Kd.R_reads' HR.out).1; have := HMI.out.2.2.2.2.1; omega)
    injection e' with e' _ _
    exact ⟨go, e', h2, h3, h1⟩
   obtain ⟨go, eg, hgs, hgc, hgl⟩ := hgo
   subst eg
   have hB4 := HB.out.size
   have hne : go ≠ Bo := by
    obtain ⟨cells, hc⟩ := hgc
    exact blk_ne hc HO.out (by decide)
   obtain ⟨Bk, hBk⟩ : ∃ B, W.heap.size = B := ⟨_, rfl⟩
   rw [hBk] at hr1 hk1 hB4 hgs cbx ⊢
   have HN := Aside0.mk (show go ≠ Bk ∧ go ≠ Bo ∧ Bo ≠ Bk ∧ w.heap.size ≤ Bk ∧ w.heap.size ≤ go from ⟨by omega, hne, by
    have := (Array.getElem?_eq_some_iff.1 HO.out).1
    omega, hB4, hgl⟩)
   obtain ⟨o, ho⟩ : ∃ o, stagesN nd n (od.take q) = o := ⟨_, rfl⟩
   have HKO := Aside0.mk (show Sb 8 o ∧ o.length = n by
    rw [← ho]
    exact ⟨(stagesN_bd nd n (od.take q)).mono (by rw [List.length_take]; have := HH.out.1; have := HH.out.2.1; omega), stagesN_len _ _ _⟩)
   have HOE := Aside0.mk ho
   rw [ho] at hr1
   have hr1' : Kd.R (Kd.int .i64) 3 (W.alloc (.cells #[.int .i64 (i : Nat)] 3 (0, 0))) w.heap.size (fun k => k ≠ Bk) (.slice (some ⟨go, 0, none⟩) n cv) (o.set i (([] : List Nat).foldl (sgk o) (o.getD i 0))) := by
    show Kd.R _ _ _ _ _ _ (o.set i (o.getD i 0))
    rw [set_self]
    exact hr1
   clear hr1
   generalize W.alloc (.cells #[.int .i64 (i : Nat)] 3 (0, 0)) = W1 at hr1' hk1 ho1 hm1 hb1 cg ci cbx ⊢
   have G1 := Aside0.mk hr1'
   have G2 := Aside0.mk hk1
   have G3 := Aside0.mk ho1
   have G4 := Aside0.mk hb1
   have G5 := Aside0.mk hm1
   clear hr1' hk1 ho1 hm1 hb1 HB HM HR HO HJ cj hBk hne hgs hgc hgl hB4 ho
   refine calm_wp ?_
   refine start_ (n := 8) (S := Drawn0 W1) (ds := [7]) (bs 8 0) (by kernel_rfl) rfl (by kernel_rfl) (Drawn0.step (Drawn0.refl W1) 1) (fun hHeld => ?_)
   obtain ⟨W8, e8⟩ : ∃ x, W1.drew = x := ⟨_, rfl⟩
   rw [e8] at hHeld ⊢
   clear e8
   refine pureN 0 19 (bs 8 1) ?_
   refine pureN 1 20 (bs 8 3) ?_
   refine pureN 2 21 (bs 8 7) ?_
   refine takeN 3 22 (bs 8 15) hHeld rfl (.inl ⟨by rfl, fun w' s => by have s0 := (drawn_cell s _).trans cg; go_simp; with_reducible rfl⟩) ?_
   refine takeN 4 23 (bs 8 31) hHeld rfl (.inl ⟨by rfl, fun w' s => by have s0 := (drawn_cell s _).trans cbx; go_simp; with_reducible rfl⟩) ?_
   refine pureN 5 24 (bs 8 63) ?_
   refine takeN 6 25 (bs 8 127) hHeld rfl (.inl ⟨by rfl, fun w' s => by have s0 := (drawn_cell s _).trans ci; go_simp; with_reducible rfl⟩) ?_
   refine last_ (i := 7) (N := some 26) (bs 8 255) rfl rfl (by kernel_rfl) (by decide) (fun K hK => ?_)
   refine goes_ (f := 41) Tryd.func41 rfl rfl #[.int .u16 (mi : Nat)] (by rfl) rfl rfl (by first | rfl | (go_simp; try rfl)) ?_
   refine (all_calls _ _).mono ?_
   rintro e w7 ⟨rfl, rfl⟩
   refine ⟨_, rfl, hK.out _ _ ?_⟩
   clear hK K
   refine normN ?_
   refine done_ (by kernel_rfl) ?_
   refine calm_out ?_
   go_wp2_with fail
   have b8 := hHeld.below
   have h8 := drawn_heap hHeld
   have hB4 : w.heap.size ≤ W8.heap.size := by rw [h8]; exact G4.out.size
   have hB8 := hHeld.below.mono G4.out.size
   have hR5' := Kd.R_alloc (Kd.R_below G1.out b8) (.cells #[.int .u16 (mi : Nat)] 59 (0, 0))
   have hck := al_old (o := .cells #[.int .u16 (mi : Nat)] 59 (0, 0)) (show W8.heap[Bk]? = _ by rw [h8]; exact G2.out)
   have hbo := al_old (o := .cells #[.int .u16 (mi : Nat)] 59 (0, 0)) (show W8.heap[Bo]? = _ by rw [h8]; exact G3.out)
   have hbs := (Boxed.new W8 59 (.int .u16 (mi : Nat))).cell
   have HM5 := Aside0.mk ((G5.out.below b8).below (below_alloc (Below.refl _ _) (.cells #[.int .u16 (mi : Nat)] 59 (0, 0))))
   have HB5 := Aside0.mk ((G4.out.trans hB8).alloc hB4 (.cells #[.int .u16 (mi : Nat)] 59 (0, 0)))
   obtain ⟨B9, hB9⟩ : ∃ B, W8.heap.size = B := ⟨_, rfl⟩
   rw [hB9] at hbs ⊢
   generalize W8.alloc (.cells #[.int .u16 (mi : Nat)] 59 (0, 0)) = w9 at hR5' hck hbo hbs HM5 HB5 ⊢
   clear b8 h8 hB8 hB4 hB9 hHeld cg ci cbx G1 G2 G3 G4 G5
   have hB5 := HB5.out.size
   have HLT5 := Aside0.mk HM5.out.lt
   refine wp_range HMI.out.1 rfl hbs (HT.out.below HB5.out H01.out) H01.out hB5 rfl
    (fun pre W' => Kd.R (Kd.int .i64) 3 W' w.heap.size (fun k => k ≠ Bk) (.slice (some ⟨go, 0, none⟩) n cv) (o.set i (pre.foldl (sgk o) (o.getD i 0))) ∧ W'.heap[Bk]? = some (.cells #[.int .i64 (i : Nat)] 3 (0, 0)) ∧ W'.heap[Bo]? = some (.cells #[.slice (some ⟨go, 0, none⟩) n cv] 25 (0, 0)) ∧ Below w.heap.size w W' ∧ Marks w.heap.size W' ds)
    (fun s W1 W2 row hs hg hr => ⟨R_ownFrom hs.1 hg hr, blk_ownFrom hs.2.1 hg hr, blk_ownFrom hs.2.2.1 hg hr, below_ownFrom hs.2.2.2.1 (Nat.le_refl _) hB5 hg hr, hs.2.2.2.2.ownFrom HLT5.out hg hr⟩)
    ⟨hR5', hck, hbo, HB5.out, HM5.out⟩ ?a1 ?assign ?body ?done
   case assign =>
    intro l x W K hK
    gi_wp2
    exact hK
   case body =>
    rintro l pre y W hy hpl ⟨g1, g2, g3, g4, g5⟩
    have hyn := elems_lt HH.out.1 HMI.out.2.1 hy
    have hyi : y ≠ i := fun e => HMI.out.2.2.2.2.2.2 (e ▸ hy)
    have hiy := HKO.out.1 i
    have hkb := sfold_bd HKO.out.1 pre (o.getD i 0) hiy.1 (by omega)
    obtain ⟨a, ha⟩ : ∃ k, pre.foldl (sgk o) (o.getD i 0) = k := ⟨_, rfl⟩
    rw [ha] at g1 hkb
    have hob := HKO.out.1 y
    obtain ⟨oy, hoy⟩ : ∃ v, o.getD y 0 = v := ⟨_, rfl⟩
    rw [hoy] at hob
    have cy := (Kd.R_celln (0 : Int) g1 (y : Int) (by omega) (by omega)).1
    rw [Int.toNat_natCast] at cy
    have cy : W.cell? ⟨go, y, none⟩ = some (.int .i64 oy) := by
     have e : rdOf (0 : Int) (o.set i a) (y : Int) = oy := by
      show (o.set i a).getD y 0 = oy
      rw [getD_setS _ _ _ _ hyi, hoy]
     rw [← e]
     exact cy
    have ci := (Kd.R_celln (0 : Int) g1 (i : Int) (by omega) qi).1
    have fi := (Kd.R_celln (0 : Int) g1 (i : Int) (by omega) qi).2
    rw [Int.toNat_natCast] at ci fi
    have ci : W.cell? ⟨go, i, none⟩ = some (.int .i64 a) := by
     have e : rdOf (0 : Int) (o.set i a) (i : Int) = a := by
      show (o.set i a).getD i 0 = a
      rw [List.getD_eq_getElem?_getD, List.getElem?_set_self (by rw [HKO.out.2]; exact HMI.out.2.2.2.2.2.1)]
      rfl
     rw [← e]
     exact ci
    have ck : W.cell? ⟨Bk, 0, none⟩ = some (.int .i64 (i : Nat)) := (cell_blk g2 0).trans rfl
    have cb : W.cell? ⟨Bo, 0, none⟩ = some (.slice (some ⟨go, 0, none⟩) n cv) := (cell_blk g3 0).trans rfl
    have qy : (y : Int) < (n : Int) := by omega
    have hk1 : wrap64 (oy + 1) = oy + 1 := w64 (by omega) (by omega)
    have HF := Aside0.mk (show (pre ++ [y]).foldl (sgk o) (o.getD i 0) = mx a (oy + 1) by
     rw [List.foldl_append, ha]
     show sgk o a y = _
     unfold sgk
     rw [hoy])
    have G1 := Aside0.mk g1
    have G2 := Aside0.mk g2
    have G3 := Aside0.mk g3
    have G4 := Aside0.mk g4
    have G5 := Aside0.mk g5
    clear g1 g2 g3 g4 g5 ha hkb hob hoy hy hpl hyn hiy
    refine wpIn_block (startIn_ (S := Drawn0 W) (ds := [13]) (bs 14 0) (by kernel_rfl) (by rintro ⟨a, w, h⟩; exact h) (by kernel_rfl) rfl (by kernel_rfl) (Drawn0.step (Drawn0.refl W) 1) (fun hHeld => ?_))
    refine takeN 0 28 (bs 14 1) hHeld rfl (.inl ⟨by rfl, fun w' s => by have s0 := (drawn_cell s _).trans cb; go_simp; with_reducible rfl⟩) ?_
    refine takeN 1 29 (bs 14 3) hHeld rfl (.inl ⟨by rfl, fun w' s => by have s0 := (drawn_cell s _).trans ck; go_simp; with_reducible rfl⟩) ?_
    refine takeN 2 30 (bs 14 7) hHeld rfl (.inl ⟨by rfl, fun w' s => by have s0 := (drawn_cell s _).trans cb; go_simp; with_reducible rfl⟩) ?_
    refine takeN 3 31 (bs 14 15) hHeld rfl (.inl ⟨by rfl, fun w' s => by have s0 := (drawn_cell s _).trans ck; go_simp; with_reducible rfl⟩) ?_
    refine pureN 4 32 (bs 14 31) ?_
    refine takeN 5 33 (bs 14 63) hHeld rfl (.inl ⟨by rfl, fun w' s => by have s0 := (drawn_cell s _).trans ci; go_simp; with_reducible rfl⟩) ?_
    refine takeN 6 34 (bs 14 127) hHeld rfl (.inl ⟨by rfl, fun w' s => by have s0 := (drawn_cell s _).trans cb; go_simp; with_reducible rfl⟩) ?_
    refine pureN 7 35 (bs 14 255) ?_
    refine pureN 8 36 (bs 14 511) ?_
    refine takeN 9 37 (bs 14 1023) hHeld rfl (.inl ⟨by rfl, fun w' s => by have s0 := (drawn_cell s _).trans cy; go_simp; with_reducible rfl⟩) ?_
    refine pureF 10 38 (bs 14 2047) (v := .int .i64 (oy + 1)) rfl (.inl ⟨by rfl, fun w' => by go_simp <;> first | exact hk1 | (simp only [i64_w]; rw [hk1])⟩) ?_
    refine pureF 11 39 (bs 14 4095) (v := .int .i64 (mx a (oy + 1))) rfl (.inl ⟨by rfl, fun w' => by go_simp <;> rfl⟩) ?_
    refine pureN 12 40 (bs 14 8191) ?_
    refine last_ (i := 13) (N := none) (bs 14 16383) rfl rfl (by kernel_rfl) (by decide) (fun K hK => ?_)
    have s0 := (drawn_cell hHeld _).trans ci
    have s1 : (W.drew).frozen? ⟨go, i, none⟩ = false := (drawn_frozen hHeld _).trans fi
    refine skip_ (w1 := W.drew.setCell ⟨go, i, none⟩ (.int .i64 (mx a (oy + 1)))) (by rfl) rfl (by go_simp; try rfl) ?_
    refine hK.out _ _ ?_
    refine done_ (by kernel_rfl) ?_
    clear s0 s1 hK K
    have hh := drawn_heap hHeld
    have n3 := HN.out
    have hB7 := hHeld.below.mono G4.out.size
    have G1' := Kd.R_below G1.out hHeld.below
    have hput := row_putS G1' (G4.out.trans hB7) HMI.out.2.2.2.2.2.1 (mx a (oy + 1))
    have G2' : (W.drew).heap[Bk]? = some (.cells #[.int .i64 (i : Nat)] 3 (0, 0)) := by rw [hh]; exact G2.out
    have G3' : (W.drew).heap[Bo]? = some (.cells #[.slice (some ⟨go, 0, none⟩) n cv] 25 (0, 0)) := by rw [hh]; exact G3.out
    obtain ⟨cells, hcl⟩ : ∃ cells, (W.drew).heap[go]? = some (.cells cells 3 (0, 0)) := by
     obtain ⟨_, _, e', _, _, cells, hcl⟩ := Kd.R_form G1' (by have := (Kd.R_reads' G1').1; omega)
     injection e' with e' _ _
     injection e' with e'
     injection e' with e' _ _
     subst e'
     exact ⟨cells, hcl⟩
    exact ⟨keepsFrom_set (keepsFrom_below hHeld.below) _ _, hB7.setCell (p := ⟨go, i, none⟩) n3.2.2.2.2 _, by rw [HF.out]; have h := hput.1; rw [List.set_set] at h; exact h, (Below.heap_setCell _ _ _ Bk (fun e => n3.1 e.symm)).trans G2', (Below.heap_setCell _ _ _ Bo (fun e => n3.2.1 e.symm)).trans G3', hput.2, (G5.out.heap hh).setCell (p := ⟨go, i, none⟩) hcl _⟩
   case done =>
    rintro D W hD ⟨g1, g2, g3, g4, g5⟩ hK
    have hM1 := g5.more (Nat.le_trans hB5 hD) hK (fun d hd D' e => Nat.lt_of_lt_of_le (HLT5.out d hd D' e) hD)
    have HM9 := Aside0.mk hM1
    have HO9 := Aside0.mk g3
    have HJ9 := Aside0.mk (show q + 1 ≤ n from HMI.out.2.2.2.2.1)
    have HR9 := Aside0.mk (show Kd.R (Kd.int .i64) 3 W w.heap.size (fun _ => True) (.slice (some ⟨go, 0, none⟩) n cv) (stagesN nd n (od.take (q + 1))) by
     rw [take_snoc (by have := HH.out.2.1; have := HMI.out.2.2.2.2.1; omega), HMI.out.2.2.2.1, stagesN_snoc, HOE.out]
     unfold stgAt
     rw [HMI.out.2.2.1]
     exact Kd.R_mono g1 (fun _ _ => trivial))
    have HB9 := Aside0.mk g4
    have hq8 : (q : Int) < 9 := by have := HH.out.1; omega
    clear g1 g2 g3 g4 g5 hK hD hM1 hR5' hck hbo hbs HM5 HB5
    go_wp2_with fail
    rw [HI.out]
    refine ⟨⟨q + 1, lit_intro rfl, HJ9, HR9, HO9, HB9, HM9⟩, ?_⟩
    show n - ((q : Int) + 1).toNat < n - (q : Int).toNat
    have := HJ9.out
    omega
  ·obtain rfl : q = n := by omega
   have HX := Aside0.mk (show stagesN nd q (od.take q) = stagesN nd q od by rw [List.take_of_length_le (by omega)])
   have cb : W.cell? ⟨Bo, 0, none⟩ = some (.slice Av q cv) := (cell_blk HO.out 0).trans rfl
   clear hco hqn hn8 hlt HI
   go_wp2_with fail
   refine leave_ HM.out (fun w' hw => ?_)
   exact ⟨_, results_tmp rfl _ _ _, _, rfl, by rw [← HX.out]; exact hw.R HR.out, hw.below HB.out⟩
theorem nd_irr {l0 : List S29} (h : gok l0 = true) : ∀ i, i < l0.length → i ∉ elems ((ndm l0).getD i 0) := fun i hi hm => by
 have hb := ndm_bits (gok_fine h) hi
 exact (gok_full h).irrefl hi (.base ((hb.iff i).1 ((mem_elems hb.lt).1 hm)))
def impl_StageOf.f (l0 : List S29) : Option (List Int) := some (if gok l0 = true then stg l0 else [])
set_option maxHeartbeats 8000000 in
set_option maxRecDepth 1000000 in
theorem impl_StageOf.calls (A0 : Option Addr) (c0 : Nat) (l0 : List S29) (r : List Int) (w : World) (hr0 : Kd.C k29 w A0 l0.length l0) (hc0 : l0.length ≤ c0) (h : impl_StageOf.f l0 = some r) (hT_ : Tab w) :
  Calls Tryd.prog 10 #[.slice A0 l0.length c0] w fun e w' => ∃ v0_ : Value, e = .returned (v0_) ∧ Kd.R (Kd.int .i64) 3 w' w.heap.size (fun _ => True) v0_ r ∧ Below w.heap.size w w' := by
 injection h with h
 subst h
 by_cases c : gok l0 = true
 ·rw [if_pos c]
  have HGO := Aside0.mk (graphOf_yes c hr0 hc0 hT_)
  have HT := Aside0.mk hT_
  have HX := Aside0.mk (show l0.length ≤ 8 ∧ (ord l0).length = l0.length ∧ (∀ i, i ∈ ord l0 → i < l0.length) ∧ Sets l0.length (ndm l0) ∧ (∀ i, i < l0.length → i ∉ elems ((ndm l0).getD i 0)) from ⟨gok8 c, ord_len c, fun i hi => (ord_mem c).1 hi, ndm_sets (gok_fine c), nd_irr c⟩)
  clear c hr0 hc0 hT_
  go_enter Tryd.func10, Tryd.ntmps10
  go_wp2_with (first | (go_at_call 34; refine HGO.out.mono ?_; rintro e w1 ⟨g, rfl, hG, hB⟩; have HG := Aside0.mk hG; have HB := Aside0.mk hB; clear hG hB) | (go_at_call 35; refine (stages_calls HG.out HX.out.1 HX.out.2.1 HX.out.2.2.1 HX.out.2.2.2.1 HX.out.2.2.2.2 (HT.out.below HB.out HT.out.pos)).mono ?_; rintro e w2 ⟨v, rfl, hR, hB2⟩; have HR := Aside0.mk hR; have HB2 := Aside0.mk hB2; clear hR hB2))
  go_ret
  exact ⟨v, rfl, Kd.R_lower HR.out HB.out.size, HB.out.trans (HB2.out.mono HB.out.size)⟩
 ·rw [if_neg c]
  have HGO := Aside0.mk (graphOf_no (Bool.eq_false_iff.2 c) hr0 hc0)
  clear c hr0 hc0 hT_
  go_enter Tryd.func10, Tryd.ntmps10
  go_wp2_with (first | (go_at_call 34; refine HGO.out.mono ?_; rintro e w1 ⟨rfl, hB⟩; have HB := Aside0.mk hB; clear hB))
  go_ret
  exact ⟨_, rfl, Kd.R_nil _ _ _ _ _, HB.out⟩
end Go.Proofs.YtbodhggmhbiebaaDoor.G
