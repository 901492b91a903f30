/-
  The line, from lists of numbers to the plain heap: it holds just those who wait; who stands first is the one who comes next.
-/
import Derived.Test.YtacenlcdlopjbaaHServe
import Derived.Test.YtacenlcdlopjbaaCHeap
import Derived.Test.YtacenlcdlopjbaaQUsers
import Derived.Test.YtacenlcdlopjbaaG0
namespace Go.Proofs.Ytacenlcdlopjbaa.G
open Go.RowKit Go.Proofs.YtacenlcdlopjbaaW.PrintWords Go.Proofs.YtacenlcdlopjbaaW.PrintLast Go.Proofs.YtacenlcdlopjbaaW.PrintMore C
set_option linter.unusedVariables false

def uK (us : List S31) (i : Nat) : Int := (rd_T31 us i).f1
def sK (us : List S31) (i : Nat) : Int := (rd_T31 us i).f0
def wK (us : List S31) (i : Nat) : Int := (rd_T31 us i).f2
abbrev ltU (us : List S31) : Nat → Nat → Bool := ltK (uK us) (sK us)
def okAll (us : List S31) : Prop := ∀ u, u ∈ us → okU u
theorem rdU_oob (us : List S31) (i : Nat) (h : us.length ≤ i) : rd_T31 us i = z31 := by
  unfold rd_T31
  rw [List.getD_eq_getElem?_getD, Int.toNat_natCast, List.getElem?_eq_none h]
  rfl
theorem okAll.at_ {us : List S31} (h : okAll us) {i : Nat} (hi : i < us.length) : okU (rd_T31 us i) := by
  rw [rdU_nat us i hi]
  exact h _ (List.getElem_mem _)
theorem okAll.bound {us : List S31} (h : okAll us) (i : Nat) : (0 ≤ sK us i ∧ sK us i ≤ 10) ∧ (0 ≤ uK us i ∧ uK us i ≤ 10000) := by
  unfold sK uK
  by_cases hi : i < us.length
  · have := h.at_ hi
    unfold okU at this
    omega
  · rw [rdU_oob us i (by omega)]
    exact ⟨⟨by decide, by decide⟩, ⟨by decide, by decide⟩⟩
theorem okAll.waits {us : List S31} (h : okAll us) (i : Nat) : 0 < wK us i → i < us.length ∧ 0 < sK us i := by
  intro hw
  by_cases hi : i < us.length
  · have := h.at_ hi
    unfold okU at this
    exact ⟨hi, by unfold sK; omega⟩
  · unfold wK at hw
    rw [rdU_oob us i (by omega)] at hw
    exact absurd hw (by decide)
theorem mul_bound {a b : Int} (ha : 0 ≤ a ∧ a ≤ 10000) (hb : 0 ≤ b ∧ b ≤ 10) : 0 ≤ a * b ∧ a * b ≤ 100000 := by
  have h1 := Int.mul_nonneg ha.1 hb.1
  have h2 : a * b ≤ 10000 * 10 := Int.mul_le_mul ha.2 hb.2 hb.1 (by decide)
  omega
theorem lessR_eq {us : List S31} (h : okAll us) (a b : Nat) : lessR us a b = ltU us a b := by
  have h1 := mul_bound (h.bound a).2 (h.bound b).1
  have h2 := mul_bound (h.bound b).2 (h.bound a).1
  have e : lessD us a b = uK us a * sK us b - uK us b * sK us a := by
    unfold lessD
    show wrap64 (wrap64 (uK us a * sK us b) - wrap64 (uK us b * sK us a)) = _
    rw [w64 (x := uK us a * sK us b) (by omega) (by omega), w64 (x := uK us b * sK us a) (by omega) (by omega), w64 (by omega) (by omega)]
  unfold lessR ltU ltK
  rw [e]
  by_cases c : uK us a * sK us b - uK us b * sK us a = 0
  · rw [if_pos c, if_neg (by simpa using c)]
    exact decide_eq_decide.2 (by omega)
  · rw [if_neg c, if_pos c]

def castL (l : List Nat) : List Int := l.map (fun (n : Nat) => (n : Int))
theorem castL_length (l : List Nat) : (castL l).length = l.length := by simp [castL]
theorem rd_castL (l : List Nat) (i : Nat) : rd (castL l) (i : Int) = (at_ l i : Int) := by
  unfold rd at_ castL
  rw [List.getD_eq_getElem?_getD, List.getD_eq_getElem?_getD, Int.toNat_natCast, List.getElem?_map]
  cases l[i]? <;> rfl
theorem castL_set (l : List Nat) (i x : Nat) : castL (l.set i x) = (castL l).set i (x : Int) := by
  unfold castL
  rw [List.map_set]
theorem swapI_castL (l : List Nat) (i j : Nat) : swapI (castL l) i j = castL (swapL l i j) := by
  unfold swapI swapL
  rw [castL_set, castL_set, rd_castL, rd_castL]
theorem upI_castL {us : List S31} (h : okAll us) : ∀ (f : Nat) (l : List Nat) (j : Nat), upI us f (castL l) j = castL (upL (ltU us) f l j)
  | 0, l, j => rfl
  | f + 1, l, j => by
    unfold upI upL
    rw [rd_castL, rd_castL, lessR_eq h]
    show (if par j = j ∨ ltU us (at_ l j) (at_ l (par j)) = false then castL l else upI us f (swapI (castL l) (par j) j) (par j)) = _
    by_cases e : j = 0
    · rw [if_pos e, if_pos (.inl (by unfold par; omega))]
    · rw [if_neg e]
      cases hl : ltU us (at_ l j) (at_ l (par j)) with
      | true =>
        rw [if_pos rfl, if_neg (by intro hh; rcases hh with hh | hh; (unfold par at hh; omega); cases hh), swapI_castL, upI_castL h f]
      | false => rw [if_pos (show par j = j ∨ false = false from .inr rfl), if_neg (by simp)]
theorem childI_castL {us : List S31} (h : okAll us) (n : Nat) (l : List Nat) (i : Nat) : childI us n (castL l) i = child (ltU us) l i n := by
  unfold childI child
  rw [rd_castL, rd_castL, lessR_eq h]
theorem downI_castL {us : List S31} (h : okAll us) (n : Nat) : ∀ (f : Nat) (l : List Nat) (i : Nat), downI us n f (castL l) i = castL (downL (ltU us) f l i n)
  | 0, l, i => rfl
  | f + 1, l, i => by
    unfold downI downL
    rw [childI_castL h, rd_castL, rd_castL, lessR_eq h]
    by_cases e : n ≤ 2 * i + 1
    · rw [if_pos e, if_pos (.inl e)]
    · rw [if_neg e]
      cases hl : ltU us (at_ l (child (ltU us) l i n)) (at_ l i) with
      | true =>
        rw [if_pos rfl, if_neg (by intro hh; rcases hh with hh | hh; (exact e hh); cases hh), swapI_castL, downI_castL h n f]
      | false => rw [if_pos (show n ≤ 2 * i + 1 ∨ false = false from .inr rfl), if_neg (by simp)]

/-- Who waits of the first i. -/
abbrev Waits (us : List S31) (i : Nat) (x : Nat) : Prop := x < i ∧ 0 < wK us x
theorem strictU {us : List S31} (h : okAll us) (i : Nat) : StrictTotal (ltU us) (Waits us i) := ltK_strict _ _ (fun a ha => (h.waits a ha.2).2)
theorem pushI_right {us : List S31} (h : okAll us) : ∀ i, i ≤ us.length → ∃ l, pushI us i = castL l ∧ Right (ltU us) (Waits us i) l
  | 0, _ => ⟨[], rfl, Right.nil (fun x hx => absurd hx.1 (Nat.not_lt_zero _))⟩
  | i + 1, hi => by
    obtain ⟨l, e, hr⟩ := pushI_right h i (by omega)
    by_cases hw : 0 < (rd_T31 us i).f2
    · refine ⟨upL (ltU us) l.length (l ++ [i]) l.length, ?_, Right.push (x := i) (strictU h (i + 1)) hr (fun hx => absurd hx.1 (Nat.lt_irrefl _)) (fun y => ?_)⟩
      · rw [pushI_yes hw, e, castL_length, ← upI_castL h]
        unfold castL
        simp
      · constructor
        · rintro ⟨h1, h2⟩
          by_cases e2 : y = i
          · exact .inr e2
          · exact .inl ⟨by omega, h2⟩
        · rintro (⟨h1, h2⟩ | rfl)
          · exact ⟨by omega, h2⟩
          · exact ⟨by omega, hw⟩
    · refine ⟨l, by rw [pushI_no hw, e], hr.heap, hr.nodup, fun x => (hr.mem x).trans ?_⟩
      constructor
      · rintro ⟨h1, h2⟩
        exact ⟨by omega, h2⟩
      · rintro ⟨h1, h2⟩
        refine ⟨?_, h2⟩
        by_cases e2 : x = i
        · subst e2
          exact absurd h2 hw
        · omega

/-- Who comes next, -1 for nobody. -/
def nextN (us : List S31) : Option Nat := nextGo (uK us) (sK us) (wK us) us.length
theorem nextN_lt {us : List S31} (h : okAll us) {a : Nat} (ha : nextN us = some a) : a < us.length ∧ 0 < wK us a := by
  have := nextGo_some (fun i hi => (h.waits i hi).2) ha
  exact ⟨this.1, this.2.1⟩
theorem rd_set_eq {us : List S31} {a : Nat} (ha : a < us.length) (x : S31) : rd_T31 (us.set a x) (a : Int) = x := by
  unfold rd_T31
  rw [List.getD_eq_getElem?_getD, Int.toNat_natCast, List.getElem?_set, if_pos rfl, if_pos ha]
  rfl
theorem rd_set_ne {us : List S31} {a i : Nat} (hne : i ≠ a) (x : S31) : rd_T31 (us.set a x) (i : Int) = rd_T31 us (i : Int) := by
  unfold rd_T31
  rw [List.getD_eq_getElem?_getD, Int.toNat_natCast, List.getElem?_set, if_neg (fun e => hne e.symm), List.getD_eq_getElem?_getD]
theorem servU_ne {us : List S31} {a i : Nat} {time : Int} (hne : i ≠ a) : rd_T31 (servU us a time) (i : Int) = rd_T31 us (i : Int) := rd_set_ne hne _
theorem servU_length (us : List S31) (a : Nat) (time : Int) : (servU us a time).length = us.length := by simp [servU]
theorem servU_at {us : List S31} {a : Nat} {time : Int} (ha : a < us.length) : rd_T31 (servU us a time) (a : Int) = ⟨(rd_T31 us a).f0, if (rd_T31 us a).f1 + time ≤ 10000 then (rd_T31 us a).f1 + time else 10000, (rd_T31 us a).f2 - 1⟩ := rd_set_eq ha _
theorem okAll.serv {us : List S31} (h : okAll us) {a : Nat} {time : Int} (ht : 1 ≤ time ∧ time ≤ 20) (ha : a < us.length) (hw : 0 < wK us a) : okAll (servU us a time) := by
  intro u hu
  unfold servU at hu
  rcases List.mem_or_eq_of_mem_set hu with hu | rfl
  · exact h u hu
  · have := h.at_ ha
    unfold wK at hw
    unfold okU at this ⊢
    simp only
    split <;> omega
theorem servI_right {us : List S31} (h : okAll us) {l : List Nat} {n : Nat} {time : Int} (ht : 1 ≤ time ∧ time ≤ 20) (hl : l.length = n + 1) (hr : Right (ltU us) (Waits us us.length) l) :
    ∃ l', servI us (at_ l 0) time n (castL l) = castL l' ∧ Right (ltU (servU us (at_ l 0) time)) (Waits (servU us (at_ l 0) time) (servU us (at_ l 0) time).length) l' := by
  have h0 := (hr.mem (at_ l 0)).1 (mem_of_at (by omega))
  have hok := h.serv ht h0.1 h0.2
  have hwa : wK (servU us (at_ l 0) time) (at_ l 0) = wK us (at_ l 0) - 1 := by
    unfold wK
    rw [servU_at h0.1]
  have hwn : ∀ x, x ≠ at_ l 0 → wK (servU us (at_ l 0) time) x = wK us x := fun x hx => by
    unfold wK
    rw [servU_ne hx]
  have hlt : ∀ x y, x ≠ at_ l 0 → y ≠ at_ l 0 → ltU (servU us (at_ l 0) time) x y = ltU us x y := fun x y hx hy => by
    unfold ltU ltK uK sK
    rw [servU_ne hx, servU_ne hy]
  have hst : StrictTotal (ltU (servU us (at_ l 0) time)) (Waits us us.length) := ltK_strict _ _ (fun a ha => by
    have hb := (h.waits a ha.2)
    by_cases e : a = at_ l 0
    · rw [e]
      unfold sK at hb ⊢
      rw [servU_at h0.1]
      rw [e] at hb
      exact hb.2
    · unfold sK at hb ⊢
      rw [servU_ne e]
      exact hb.2)
  rw [servU_length]
  unfold servI
  by_cases e : (rd_T31 us (at_ l 0)).f2 = 1
  · rw [if_pos e]
    refine ⟨(downL (ltU (servU us (at_ l 0) time)) n (swapL l 0 n) 0 n).take n, ?_, Right.pop hl hst hr hlt (fun y => ?_)⟩
    · rw [swapI_castL, downI_castL hok]
      unfold castL
      rw [List.map_take]
    · by_cases ey : y = at_ l 0
      · rw [ey]
        unfold Waits
        rw [hwa]
        unfold wK
        rw [e]
        simp
      · unfold Waits
        rw [hwn y ey]
        exact ⟨fun hh => ⟨hh, ey⟩, fun hh => hh.1⟩
  · rw [if_neg e]
    refine ⟨downL (ltU (servU us (at_ l 0) time)) (n + 1) l 0 (n + 1), by rw [downI_castL hok], ?_⟩
    have hx := Right.fix hst hr hlt
    rw [hl] at hx
    refine ⟨hx.heap, hx.nodup, fun y => (hx.mem y).trans ?_⟩
    by_cases ey : y = at_ l 0
    · rw [ey]
      unfold Waits
      rw [hwa]
      have := h0.2
      unfold wK at this ⊢
      constructor
      · rintro ⟨h1, h2⟩
        exact ⟨h1, by omega⟩
      · rintro ⟨h1, h2⟩
        exact ⟨h1, by omega⟩
    · unfold Waits
      rw [hwn y ey]

/-- A *line of these users that is right. -/
def IsReady (ok : Nat → Prop) (b : Nat) (w : World) (L : Nat) (us : List S31) : Prop := ∃ l, IsLine ok b w L us (castL l) ∧ Right (ltU us) (Waits us us.length) l
theorem Right.len_le {lt : Nat → Nat → Bool} {us : List S31} {l : List Nat} (h : Right lt (Waits us us.length) l) : l.length ≤ us.length := nodup_le h.nodup (fun x hx => ((h.mem x).1 hx).1)
theorem Right.whoIn {lt : Nat → Nat → Bool} {us : List S31} {l : List Nat} (h : Right lt (Waits us us.length) l) : WhoIn us (castL l) := fun x hx => by
  unfold castL at hx
  obtain ⟨y, hy, rfl⟩ := List.mem_map.1 hx
  have := ((h.mem y).1 hy).1
  omega
theorem lineOf_ready (A0 : Option Addr) (c0 : Nat) (us : List S31) (w : World) (hr0 : Kd.C k31 w A0 us.length us) (hok : okAll us) (hlen : us.length ≤ 900) :
    Calls Try.prog 27 #[.slice A0 us.length c0] w fun e w' => ∃ L, e = .returned (.pointer (some ⟨L, 0, none⟩)) ∧ IsReady (fun _ => True) w.heap.size w' L us ∧ Below w.heap.size w w' := by
  refine (lineOf_calls A0 c0 us w hr0 hlen).mono ?_
  rintro e w' ⟨L, rfl, hI, hb⟩
  obtain ⟨l, el, hr⟩ := pushI_right hok us.length (Nat.le_refl _)
  exact ⟨L, rfl, ⟨l, el ▸ hI, hr⟩, hb⟩
set_option maxHeartbeats 4000000 in
set_option maxRecDepth 1000000 in
theorem serve_none {ok : Nat → Prop} {b L : Nat} {us : List S31} {w : World} (h : IsReady ok b w L us) (hn : nextN us = none) (hok : okAll us) (time : Int) :
    Calls Try.prog 28 #[.pointer (some ⟨L, 0, none⟩), .int .i64 time] w fun e w' => e = .returned (.int .i64 (-1)) ∧ w' = w := by
  obtain ⟨l, hI, hr⟩ := h
  have hl : (castL l).length = 0 := by
    rw [castL_length]
    rcases Nat.eq_zero_or_pos l.length with h0 | h0
    · exact h0
    · have := hr.next (fun i hi => (hok.waits i hi).2) h0
      unfold nextN at hn
      rw [hn] at this
      cases this
  have HC := Aside0.mk (len_n hI hl)
  clear hI hr hl hn hok
  go_enter Try.func28, Try.ntmps28
  go_wp2_with (first | (go_at_call 35; refine HC.out.mono ?_; rintro e w' ⟨rfl, rfl⟩))
  go_ret
  exact ⟨rfl, rfl⟩
theorem serve_some {ok : Nat → Prop} {b L : Nat} {us : List S31} {w : World} (h : IsReady ok b w L us) {a : Nat} (hn : nextN us = some a) (hok : okAll us) (hlen : us.length ≤ 900) (hb : b ≤ w.heap.size) (time : Int) (ht : 1 ≤ time ∧ time ≤ 20) :
    Calls Try.prog 28 #[.pointer (some ⟨L, 0, none⟩), .int .i64 time] w fun e w' => e = .returned (.int .i64 a) ∧ IsReady ok b w' L (servU us a time) ∧ Bel ok b w w' := by
  obtain ⟨l, hI, hr⟩ := h
  have hle := Right.len_le hr
  rcases Nat.eq_zero_or_pos l.length with h0 | h0
  · have := hr.next_none h0
    unfold nextN at hn
    rw [hn] at this
    cases this
  · obtain ⟨n, hn1⟩ : ∃ n, l.length = n + 1 := ⟨l.length - 1, by omega⟩
    have e := hr.next (fun i hi => (hok.waits i hi).2) h0
    unfold nextN at hn
    rw [hn] at e
    obtain rfl := Option.some.inj e
    have h1 := (hr.mem (at_ l 0)).1 (mem_of_at (by omega))
    have h2 := hok.at_ h1.1
    unfold okU at h2
    have h3 := h1.2
    unfold wK at h3
    refine (serve_calls hI (Right.whoIn hr) hb n (by rw [castL_length, hn1]) (by omega) (at_ l 0) (rd_castL l 0) time ht ⟨by omega, by omega⟩ ⟨by omega, by omega⟩).mono ?_
    rintro e w' ⟨rfl, hI', hb'⟩
    obtain ⟨l', e1, hr'⟩ := servI_right hok ht hn1 hr
    exact ⟨rfl, ⟨l', e1 ▸ hI', hr'⟩, hb'⟩
end Go.Proofs.Ytacenlcdlopjbaa.G
