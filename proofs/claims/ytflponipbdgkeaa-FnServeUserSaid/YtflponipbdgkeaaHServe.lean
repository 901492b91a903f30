/-
  The line by hand: Clone of users, lineOf, serve.
-/
import Derived.Test.YtflponipbdgkeaaHHeap
import Derived.WalkSpells
import Derived.Test.YtflponipbdgkeaaG0
namespace Go.Proofs.Ytflponipbdgkeaa.G
open Go.RowKit Go.Proofs.YtflponipbdgkeaaW.PrintWords Go.Proofs.YtflponipbdgkeaaW.PrintLast Go.Proofs.YtflponipbdgkeaaW.PrintMore
set_option linter.unusedVariables false
set_option linter.unusedSimpArgs false

set_option maxHeartbeats 4000000 in
set_option maxRecDepth 100000 in
theorem cloneU_calls (A0 : Option Addr) (c0 : Nat) (l0 : List S30) (w : World) (hr0 : Kd.C k30 w A0 l0.length l0) (hb : l0.length < 1000) :
    Calls Try.prog 34 #[.slice A0 l0.length c0] w fun e w' => ∃ v0_ : Value, e = .returned (v0_) ∧ Kd.R k30 30 w' w.heap.size (fun _ => True) v0_ l0 ∧ Below w.heap.size w w' := by
  have q22 : ∀ (w : World) (a : Option Addr) (n c n' c' : Nat), (binOp .eql 23 (.slice a n c) (.slice none n' c')).run Try.prog w = .ok (.bool a.isNone) w := fun w a n c n' c' => Lib.run_eql_slice_nil w _ _ a n c n' c' Try.underlying23
  have HR0 := Aside0.mk hr0
  have HL := Aside0.mk hb
  have HN := Aside0.mk hr0.2.2
  clear hr0 hb
  cases A0 with
  | none =>
    have hn : l0 = [] := by
      cases l0 with
      | nil => rfl
      | cons x l =>
        obtain ⟨ad, he, _⟩ := HN.out (by simp)
        cases he
    subst hn
    go_enter Try.func34, Try.ntmps34
    go_wp2
    go_ret
    exact ⟨_, rfl, Kd.R_nil _ _ _ _ _, Below.refl _ _⟩
  | some ad =>
    have HB := Aside0.mk (Below.refl w.heap.size w)
    go_enter Try.func34, Try.ntmps34
    go_wp2_with (first | ((with_reducible refine gate_dst (N := 5) rfl ?_); refine Kd.R_lit k30 _ 30 ?hg (N := 5) ?hd (xs := ([] : List S30)) (inner := []) (ok := fun _ => True) (okp := fun _ => True) ?hr ?hp (fun _ hk => hk) trivial (Below.refl _ _) (Nat.le_refl _) (by simp) ?_; (case hd => rfl); (case hg => rfl); (case hr => first | (go_simp; done) | (go_simp; rfl)); (case hp => exact (Reps.none _ _)); intro v131 w3 ho4 hb hg_ hnew_; clear hg_ hnew_; have n0_ := Aside0.mk (Kd.R_lower ho4 (below_size HB.out)); have n1_ := Aside0.mk (below_step HB.out hb); clear HB; have HO132 := n0_; have HB := n1_; clear n0_ n1_; clear hb ho4) | ((with_reducible refine gate_builtin (b := .append) (xs := #[.tmp 5, .tmp 6]) rfl ?_); at_builtin; refine Kd.R_append_rows k30 (w0 := w) w.heap.size rfl (.tmp 5) (.tmp 6) 23 30 (.agg #[(.int .i64 0), (.int .i64 0), (.int .i64 0)]) 24 rfl Try.underlying23 info30 rfl (by decide) (by omega) v131 [] l0 _ _ _ (fun _ => True) (fun _ => False) rfl rfl ?aO ?aR (fun _ _ h => h) (fun _ h => h.elim) ?aF ?aB ?aS ?aL ?_; (case aR => exact Kd.C_below HR0.out HB.out); (case aB => exact HB.out); (case aF => exact (fun _ _ => trivial)); (case aO => exact HO132.out); (case aS => exact (below_size HB.out)); (case aL => have := HL.out; simp; omega); intro v134 w5 ho hb hg hat; have n0_ := Aside0.mk (hb); have n1_ := Aside0.mk (ho); clear HB; clear HO132; have HB := n0_; have HO135 := n1_; clear n0_ n1_; clear ho hb hg hat))
    go_ret
    exact ⟨_, rfl, HO135.out, HB.out⟩

/-- The line of the first i users: those who wait are pushed. -/
def pushI (us : List S30) : Nat → List Int
  | 0 => []
  | i + 1 => if 0 < (rd_T30 us i).f2 then upI us (pushI us i).length (pushI us i ++ [(i : Int)]) (pushI us i).length else pushI us i
theorem upI_length (us : List S30) : ∀ (f : Nat) (l : List Int) (j : Nat), (upI us f l j).length = l.length
  | 0, l, j => rfl
  | f + 1, l, j => by
    unfold upI
    split
    · rfl
    · rw [upI_length us f, swapI_length]
theorem WhoIn.up {us : List S30} : ∀ (f : Nat) {l : List Int} (j : Nat), WhoIn us l → j < l.length → WhoIn us (upI us f l j)
  | 0, l, j, h, _ => h
  | f + 1, l, j, h, hj => by
    unfold upI
    split
    · exact h
    · exact WhoIn.up f _ (h.swap (by omega) hj) (by rw [swapI_length]; omega)
theorem pushI_le (us : List S30) : ∀ i, (pushI us i).length ≤ i
  | 0 => Nat.le_refl _
  | i + 1 => by
    have := pushI_le us i
    unfold pushI
    split
    · rw [upI_length]
      simp
      omega
    · omega
theorem pushI_in (us : List S30) : ∀ i, i ≤ us.length → WhoIn us (pushI us i)
  | 0, _ => fun x hx => by simp [pushI] at hx
  | i + 1, hi => by
    have ih := pushI_in us i (by omega)
    unfold pushI
    split
    · refine WhoIn.up _ _ (fun x hx => ?_) (by simp)
      rcases List.mem_append.1 hx with hx | hx
      · exact ih x hx
      · rw [List.mem_singleton] at hx
        omega
    · exact ih
theorem pushI_yes {us : List S30} {i : Nat} (h : 0 < (rd_T30 us i).f2) : pushI us (i + 1) = upI us (pushI us i).length (pushI us i ++ [(i : Int)]) (pushI us i).length := by
  conv => lhs; unfold pushI
  rw [if_pos h]
theorem pushI_no {us : List S30} {i : Nat} (h : ¬ 0 < (rd_T30 us i).f2) : pushI us (i + 1) = pushI us i := by
  conv => lhs; unfold pushI
  rw [if_neg h]
set_option maxHeartbeats 8000000 in
set_option maxRecDepth 1000000 in
theorem lineOf_calls (A0 : Option Addr) (c0 : Nat) (us : List S30) (w : World) (hr0 : Kd.C k30 w A0 us.length us) (hlen : us.length ≤ 900) :
    Calls Try.prog 21 #[.slice A0 us.length c0] w fun e w' => ∃ L, e = .returned (.pointer (some ⟨L, 0, none⟩)) ∧ IsLine (fun _ => True) w.heap.size w' L us (pushI us us.length) ∧ Below w.heap.size w w' := by
  have HR0 := Aside0.mk hr0
  have HL := Aside0.mk hlen
  clear hr0 hlen
  go_enter Try.func21, Try.ntmps21
  go_wp2_with (first | (go_at_call 34; refine (cloneU_calls A0 c0 us _ HR0.out (by have := HL.out; omega)).mono ?_; rintro e w1 ⟨v, rfl, hR, hb⟩; obtain ⟨Av, cv, ev⟩ := Kd.R_slice hR; have HR1 := Aside0.mk (ev ▸ hR); have HB1 := Aside0.mk hb; subst ev; clear hR hb))
  have HI0 := Aside0.mk (show IsLine (fun _ => True) w.heap.size (w1.alloc (.cells #[.slice Av us.length cv, .slice none 0 0] 50)) w1.heap.size us [] from
    ⟨_, _, al_new w1 _ _, ⟨HB1.out.size, trivial⟩, Kd.R_alloc HR1.out _, Kd.R_nil _ _ _ _ _⟩)
  have HB2 := Aside0.mk (HB1.out.alloc HB1.out.size (.cells #[.slice Av us.length cv, .slice none 0 0] 50))
  have HZ := Aside0.mk (Below.refl w.heap.size w)
  obtain ⟨L, hL⟩ : ∃ L, w1.heap.size = L := ⟨_, rfl⟩
  rw [hL] at HI0 ⊢
  generalize w1.alloc (.cells #[.slice Av us.length cv, .slice none 0 0] 50) = w2 at HI0 HB2 ⊢
  clear HR1 HB1 hL
  go_loopw [12] (fun v12 w' => ∃ i : Nat, v12 = .int .i64 i ∧ Aside0 (i ≤ us.length) ∧ Aside0 (IsLine (fun _ => True) w.heap.size w' L us (pushI us i)) ∧ Aside0 (Below w.heap.size w w')) (fun v12 _ => us.length - (intOf v12).toNat)
  case atStart => exact ⟨0, rfl, ⟨Nat.zero_le _⟩, HI0, HB2⟩
  case round =>
    obtain ⟨i, rfl, HI, HIL, HBw⟩ := hrel
    by_cases hlt : i < us.length
    · have p1 : 0 ≤ (i : Int) := by omega
      have q1 : (i : Int) < (us.length : Int) := by omega
      obtain ⟨ad1, e1, hx0, hx1, hx2⟩ := at_T30 (Kd.C_below HR0.out HBw.out) (i : Int) p1 q1
      cases e1
      rw [Int.toNat_natCast] at hx0 hx1 hx2
      have HIN := Aside0.mk (pushI_in us i (by omega))
      have HLE := Aside0.mk (show (pushI us i).length ≤ 999 by have := pushI_le us i; have := HL.out; omega)
      have HX := Aside0.mk (show 0 ≤ (i : Int) ∧ (i : Int) < us.length by omega)
      have hb3 : i ≤ 900 := by have := HL.out; omega
      by_cases hw : 0 < (rd_T30 us i).f2
      · have HW := Aside0.mk (pushI_yes hw)
        go_wp2_with (first | (go_at_call 35; refine (heapPush_calls (HIL.out.below ((Below.refl _ _).alloc (Nat.le_refl _) _)) (fun _ _ => trivial) HIN.out (Nat.le_trans HBw.out.size (by simp)) (pushI us i).length rfl HLE.out (i : Int) HX.out).mono ?_; rintro e w3 ⟨rfl, hI3, hb3'⟩; have HI3 := Aside0.mk hI3; have HB3 := Aside0.mk hb3'; clear hI3 hb3'))
        go_roundw
        case measure =>
          simp [intOf]
          omega
        case rel =>
          exact ⟨i + 1, by rw [Int.natCast_succ], ⟨by omega⟩, ⟨by rw [HW.out]; exact HI3.out⟩, ⟨(HBw.out.alloc HBw.out.size _).trans HB3.out.below⟩⟩
      · have HW := Aside0.mk (pushI_no hw)
        go_wp2
        go_roundw
        case measure =>
          simp [intOf]
          omega
        case rel =>
          exact ⟨i + 1, by rw [Int.natCast_succ], ⟨by omega⟩, ⟨by rw [HW.out]; exact HIL.out.below ((Below.refl _ _).alloc (Nat.le_refl _) _)⟩, ⟨HBw.out.alloc HBw.out.size _⟩⟩
    · have e2 : i = us.length := by have := HI.out; omega
      subst e2
      go_wp2
      go_ret
      exact ⟨L, rfl, HIL.out, HBw.out⟩

/-- User a has been served. -/
def servU (us : List S30) (a : Nat) (time : Int) : List S30 := us.set a ⟨(rd_T30 us a).f0, if (rd_T30 us a).f1 + time ≤ 10000 then (rd_T30 us a).f1 + time else 10000, (rd_T30 us a).f2 - 1⟩
/-- The line behind it. -/
def servI (us : List S30) (a : Nat) (time : Int) (n : Nat) (who : List Int) : List Int :=
  if (rd_T30 us a).f2 = 1 then (downI (servU us a time) n n (swapI who 0 n) 0).take n else downI (servU us a time) (n + 1) (n + 1) who 0
theorem IsLine.served {ok : Nat → Prop} {b L : Nat} {us : List S30} {who : List Int} {w : World} (h : IsLine ok b w L us who) (a : Nat) (ha : a < us.length) (g k : Int) :
    ∃ U V cu cv, w.cell? ⟨L, 0, none⟩ = some (.slice (some ⟨U, 0, none⟩) us.length cu) ∧ (0 < who.length → w.cell? ⟨L, 1, none⟩ = some (.slice (some ⟨V, 0, none⟩) who.length cv) ∧ w.cell? ⟨V, 0, none⟩ = some (.int .i64 (rd who 0))) ∧
      w.cell? ⟨U, a * 3 + 1, none⟩ = some (.int .i64 (rd_T30 us a).f1) ∧ w.cell? ⟨U, a * 3 + 2, none⟩ = some (.int .i64 (rd_T30 us a).f2) ∧ w.frozen? ⟨U, a * 3 + 1, none⟩ = false ∧ w.frozen? ⟨U, a * 3 + 2, none⟩ = false ∧
      IsLine ok b ((w.setCell ⟨U, a * 3 + 1, none⟩ (.int .i64 g)).setCell ⟨U, a * 3 + 2, none⟩ (.int .i64 k)) L (us.set a ⟨(rd_T30 us a).f0, g, k⟩) who ∧
      Bel ok b w ((w.setCell ⟨U, a * 3 + 1, none⟩ (.int .i64 g)).setCell ⟨U, a * 3 + 2, none⟩ (.int .i64 k)) := by
  obtain ⟨vu, vw, h1, h2, h3, h4⟩ := h
  obtain ⟨U, cu, rfl, hcu, hbU, hltU⟩ := slice_own h3 (by intro e; rw [e] at ha; exact absurd ha (Nat.not_lt_zero _)) (by decide)
  obtain ⟨cells, hU⟩ := Kd.R_typed h3 U (by simp [Value.ownBlock])
  have hne : L ≠ U := by
    intro e
    rw [e, hU] at h1
    cases h1
  obtain ⟨c, hcl, hM, hcc, hfz⟩ := Kd.R_elem h3 z30 (a : Int) (by omega) (by omega)
  rw [Int.toNat_natCast] at hM hcc hfz
  have hce := k30_openM hM
  subst hce
  have hseg := Kd.R_seg h3 (a : Int) (by omega) (by omega) (c := [.int .i64 (rd_T30 us a).f0, .int .i64 (rd_T30 us a).f1, .int .i64 (rd_T30 us a).f2]) (seg := [.int .i64 g, .int .i64 k]) (j := 1) (okp := fun k => ok k ∧ k ≠ U) (x' := ⟨(rd_T30 us a).f0, g, k⟩) rfl (by rw [Int.toNat_natCast]; exact hcc) (Nat.le_refl 3) (k30_mkM _ _ _ _) (fun _ hk => hk)
  rw [Int.toNat_natCast] at hseg
  obtain ⟨hs1, hs2⟩ := hseg
  have hblk := blk_set hU (a * 3 + 1) (.int .i64 g)
  have hoU : ok U := h3.1 U (by simp [Value.ownBlock])
  refine ⟨U, (match vw with | .slice (some x) _ _ => x.block | _ => 0), cu, (match vw with | .slice _ _ c => c | _ => 0), by rw [cell_blk h1]; rfl, fun hw => ?_, hcc 1 _ rfl, hcc 2 _ rfl, hfz 1, hfz 2, ⟨.slice (some ⟨U, 0, none⟩) us.length cu, vw, ?_, h2, ?_, Kd.R_set (Kd.R_set h4 hU (by decide) _ _) hblk (by decide) _ _⟩, ((Bel.refl ok b w).setCell (p := ⟨U, a * 3 + 1, none⟩) hbU hoU _).setCell (p := ⟨U, a * 3 + 2, none⟩) hbU hoU _⟩
  · obtain ⟨V, cv, rfl, hcv, hbV, hltV⟩ := slice_own h4 (by intro e; rw [e] at hw; exact absurd hw (Nat.lt_irrefl _)) (by decide)
    refine ⟨by rw [cell_blk h1]; rfl, ?_⟩
    obtain ⟨ad1, e1, ci⟩ := Kd.at_int (Kd.R_reads' h4).2.2 0 (by omega) (by omega)
    cases e1
    exact ci
  · show ((w.setCell ⟨U, a * 3 + 1, none⟩ _).setCell ⟨U, a * 3 + 2, none⟩ _).heap[L]? = _
    rw [Below.heap_setCell _ _ _ L hne, Below.heap_setCell _ _ _ L hne]
    exact h1
  · exact hs1
set_option maxHeartbeats 16000000 in
set_option maxRecDepth 1000000 in
theorem serve_calls {ok : Nat → Prop} {b L : Nat} {us : List S30} {who : List Int} {w : World} (h : IsLine ok b w L us who) (hr : WhoIn us who) (hb : b ≤ w.heap.size) (n : Nat) (hn : who.length = n + 1) (hlen : n ≤ 900) (a : Nat) (ha : rd who 0 = a)
    (time : Int) (ht : 1 ≤ time ∧ time ≤ 20) (hf1 : 0 ≤ (rd_T30 us a).f1 ∧ (rd_T30 us a).f1 ≤ 10000) (hf2 : 1 ≤ (rd_T30 us a).f2 ∧ (rd_T30 us a).f2 ≤ 6) :
    Calls Try.prog 22 #[.pointer (some ⟨L, 0, none⟩), .int .i64 time] w fun e w' => e = .returned (.int .i64 a) ∧ IsLine ok b w' L (servU us a time) (servI us a time n who) ∧ Bel ok b w w' := by
  have hal : a < us.length := by
    have := hr (rd who 0) (rd_mem (by omega) (by omega))
    omega
  obtain ⟨g, hg⟩ : ∃ g, g = if (rd_T30 us a).f1 + time ≤ 10000 then (rd_T30 us a).f1 + time else 10000 := ⟨_, rfl⟩
  obtain ⟨f1, ef1⟩ : ∃ f, f = (rd_T30 us a).f1 := ⟨_, rfl⟩
  obtain ⟨f2, ef2⟩ : ∃ f, f = (rd_T30 us a).f2 := ⟨_, rfl⟩
  obtain ⟨k, hk⟩ : ∃ k, k = f2 - 1 := ⟨_, rfl⟩
  obtain ⟨U, V, cu, cv, hvu, hV, hc1, hc2, hz1, hz2, hIL, hBL⟩ := h.served a hal g k
  obtain ⟨hvw, hva⟩ := hV (by omega)
  have hus : us.set a ⟨(rd_T30 us a).f0, g, k⟩ = servU us a time := by unfold servU; rw [hg, hk, ef2]
  rw [hus] at hIL
  rw [ha] at hva
  rw [← ef1] at hc1 hf1 hg
  rw [← ef2] at hc2 hf2
  have hwho : WhoIn (servU us a time) who := fun x hx => by
    have := hr x hx
    unfold servU
    rw [List.length_set]
    exact this
  obtain ⟨m, hm⟩ : ∃ m, m = n + 1 := ⟨_, rfl⟩
  rw [hn, ← hm] at hvw
  have q0 : (0 : Int) < (m : Int) := by omega
  have q0' : 0 < m := by omega
  have qm : ((m : Int) == 0) = false := beq_eq_false_iff_ne.2 (by omega)
  have q1 : (a : Int) < (us.length : Int) := by omega
  obtain ⟨t1, t2⟩ := ht
  obtain ⟨t3, t4⟩ := hf1
  obtain ⟨t5, t6⟩ := hf2
  have HC := Aside0.mk (len_n h (hn.trans hm.symm))
  have HIL := Aside0.mk hIL
  have HWI := Aside0.mk hwho
  have HBS := Aside0.mk (Nat.le_trans hb hBL.size)
  have HBL := Aside0.mk hBL
  have HN := Aside0.mk hn
  have HN9 := Aside0.mk (show n ≤ 999 ∧ 0 < n + 1 ∧ n + 1 ≤ 999 by omega)
  have hk' : f2 - 1 = k := hk.symm
  have hsv : servI us a time n who = if k = 0 then (downI (servU us a time) n n (swapI who 0 n) 0).take n else downI (servU us a time) (n + 1) (n + 1) who 0 := by
    unfold servI
    rw [← ef2]
    by_cases e : f2 = 1
    · rw [if_pos e, if_pos (by omega)]
    · rw [if_neg e, if_neg (by omega)]
  have HSV := Aside0.mk hsv
  clear hsv h hr hb hn hlen ha hal hIL hBL hus hwho hm hk ef1 ef2
  have HF := Aside0.mk (heapFix_calls HIL.out HWI.out HBS.out (n + 1) HN.out HN9.out.2.1 HN9.out.2.2)
  have HP := Aside0.mk (heapPop_calls HIL.out HWI.out HBS.out n HN.out HN9.out.1)
  obtain ⟨g0, hg0⟩ : ∃ g0, f1 + time = g0 := ⟨_, rfl⟩
  rw [hg0] at hg
  have t7 : 0 ≤ g0 ∧ g0 ≤ 10020 := by omega
  obtain ⟨t7, t8⟩ := t7
  by_cases hle : g0 ≤ 10000
  · rw [if_pos hle] at hg
    subst hg
    by_cases k0 : k = 0
    · subst k0
      rw [if_pos rfl] at HSV
      go_enter Try.func22, Try.ntmps22
      go_wp2_with (first | (go_at_call 26; refine HC.out.mono ?_; rintro e w' ⟨rfl, rfl⟩) | (go_at_call 36; refine HP.out.mono ?_; rintro e w3 ⟨⟨v, rfl⟩, hI, hb⟩; have HI := Aside0.mk hI; have HB3 := Aside0.mk hb; clear hI hb))
      go_ret
      exact ⟨rfl, by rw [HSV.out]; exact HI.out, HBL.out.trans HB3.out⟩
    · have k1 : (k == 0) = false := beq_eq_false_iff_ne.2 k0
      rw [if_neg k0] at HSV
      clear k0
      go_enter Try.func22, Try.ntmps22
      go_wp2_with (first | (go_at_call 26; refine HC.out.mono ?_; rintro e w' ⟨rfl, rfl⟩) | (go_at_call 37; refine HF.out.mono ?_; rintro e w3 ⟨rfl, hI, hb⟩; have HI := Aside0.mk hI; have HB3 := Aside0.mk hb; clear hI hb))
      go_ret
      exact ⟨rfl, by rw [HSV.out]; exact HI.out, HBL.out.trans HB3.out⟩
  · rw [if_neg hle] at hg
    subst hg
    have hle2 : 10000 < g0 := by omega
    clear hle
    by_cases k0 : k = 0
    · subst k0
      rw [if_pos rfl] at HSV
      go_enter Try.func22, Try.ntmps22
      go_wp2_with (first | (go_at_call 26; refine HC.out.mono ?_; rintro e w' ⟨rfl, rfl⟩) | (go_at_call 36; refine HP.out.mono ?_; rintro e w3 ⟨⟨v, rfl⟩, hI, hb⟩; have HI := Aside0.mk hI; have HB3 := Aside0.mk hb; clear hI hb))
      go_ret
      exact ⟨rfl, by rw [HSV.out]; exact HI.out, HBL.out.trans HB3.out⟩
    · have k1 : (k == 0) = false := beq_eq_false_iff_ne.2 k0
      rw [if_neg k0] at HSV
      clear k0
      go_enter Try.func22, Try.ntmps22
      go_wp2_with (first | (go_at_call 26; refine HC.out.mono ?_; rintro e w' ⟨rfl, rfl⟩) | (go_at_call 37; refine HF.out.mono ?_; rintro e w3 ⟨rfl, hI, hb⟩; have HI := Aside0.mk hI; have HB3 := Aside0.mk hb; clear hI hb))
      go_ret
      exact ⟨rfl, by rw [HSV.out]; exact HI.out, HBL.out.trans HB3.out⟩
end Go.Proofs.Ytflponipbdgkeaa.G
