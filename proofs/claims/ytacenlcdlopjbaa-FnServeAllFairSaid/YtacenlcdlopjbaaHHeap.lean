/-
  container/heap by hand, over a *line: Push, Pop, Fix.
-/
import Derived.Test.YtacenlcdlopjbaaHPush
import Derived.Test.YtacenlcdlopjbaaHDown
import Derived.Test.YtacenlcdlopjbaaG0
namespace Go.Proofs.Ytacenlcdlopjbaa.G
open Go.RowKit Go.Proofs.YtacenlcdlopjbaaW.PrintWords Go.Proofs.YtacenlcdlopjbaaW.PrintLast Go.Proofs.YtacenlcdlopjbaaW.PrintMore
set_option linter.unusedVariables false
set_option linter.unusedSimpArgs false

theorem downI_length (us : List S31) (n : Nat) : ∀ (f : Nat) (l : List Int) (i : Nat), (downI us n f l i).length = l.length
  | 0, l, i => rfl
  | f + 1, l, i => by
    unfold downI
    split
    · rfl
    · rw [downI_length us n f, swapI_length]
theorem childI_lt {us : List S31} {n : Nat} {l : List Int} {i : Nat} (h : 2 * i + 1 < n) : childI us n l i < n := by
  unfold childI
  split <;> omega
theorem WhoIn.down {us : List S31} {n : Nat} : ∀ (f : Nat) {l : List Int} (i : Nat), WhoIn us l → n ≤ l.length → i < l.length → WhoIn us (downI us n f l i)
  | 0, l, i, h, _, _ => h
  | f + 1, l, i, h, hn, hi => by
    unfold downI
    by_cases hc : n ≤ 2 * i + 1 ∨ lessR us (rd l (childI us n l i : Nat)) (rd l i) = false
    · rw [if_pos hc]
      exact h
    · rw [if_neg hc]
      have h1 : 2 * i + 1 < n := by
        rcases Nat.lt_or_ge (2 * i + 1) n with h1 | h1
        · exact h1
        · exact absurd (.inl h1) hc
      have h2 := childI_lt (us := us) (l := l) h1
      exact WhoIn.down f _ (h.swap hi (by omega)) (by rw [swapI_length]; exact hn) (by rw [swapI_length]; omega)
theorem IsLine.swap0 {ok : Nat → Prop} {b L : Nat} {us : List S31} {who : List Int} {w : World} (h : IsLine ok b w L us who) (k : Nat) (hk : k < who.length) :
    Calls Try.prog 66 #[.pointer (some ⟨L, 0, none⟩), .int .i64 0, .int .i64 k] w fun e w' => e = .returned (.tuple #[]) ∧ IsLine ok b w' L us (swapI who 0 k) ∧ Bel ok b w w' :=
  h.swap 0 k (by omega) hk
theorem down0_calls {ok : Nat → Prop} {b L : Nat} {us : List S31} {who : List Int} {w : World} (h : IsLine ok b w L us who) (hr : WhoIn us who) (hb : b ≤ w.heap.size) (hlen : who.length ≤ 1000) (n : Nat) (hn : n ≤ who.length) :
    Calls Try.prog 46 #[.iface 44 (.pointer (some ⟨L, 0, none⟩)), .int .i64 0, .int .i64 n] w fun e w' => (∃ r : Bool, e = .returned (.bool r)) ∧ IsLine ok b w' L us (downI us n n who 0) ∧ Bel ok b w w' :=
  down_calls h hr hb hlen 0 n (by omega) hn
theorem up0_calls {ok : Nat → Prop} {b L : Nat} {us : List S31} {who : List Int} {w : World} (h : IsLine ok b w L us who) (hr : WhoIn us who) (hb : b ≤ w.heap.size) (hlen : who.length ≤ 1000) (hj : 0 < who.length) :
    Calls Try.prog 45 #[.iface 44 (.pointer (some ⟨L, 0, none⟩)), .int .i64 0] w fun e w' => e = .returned (.tuple #[]) ∧ IsLine ok b w' L us who ∧ Bel ok b w w' :=
  up_calls h hr hb hlen 0 hj
set_option maxHeartbeats 8000000 in
set_option maxRecDepth 1000000 in
theorem heapPush_calls {ok : Nat → Prop} {b L : Nat} {us : List S31} {who : List Int} {w : World} (h : IsLine ok b w L us who) (hfr : ∀ k, w.heap.size ≤ k → ok k) (hr : WhoIn us who) (hb : b ≤ w.heap.size) (n : Nat) (hn : who.length = n) (hlen : n ≤ 999) (x : Int) (hx : 0 ≤ x ∧ x < us.length) :
    Calls Try.prog 40 #[.iface 44 (.pointer (some ⟨L, 0, none⟩)), .iface 3 (.int .i64 x)] w fun e w' => e = .returned (.tuple #[]) ∧ IsLine ok b w' L us (upI us n (who ++ [x]) n) ∧ Bel ok b w w' := by
  have nl := fun (a : Addr) (w : World) => (show (nilAhead 188 44 (.pointer (some a)) "Push").run Try.prog w = .ok (some false) w by kernel_rfl)
  have ml := fun (a : Addr) (w : World) => (show (method 188 44 (.pointer (some a)) "Push").run Try.prog w = .ok (65, .pointer (some a)) w by kernel_rfl)
  have ns := fun (a : Addr) (w : World) => (show (nilAhead 188 44 (.pointer (some a)) "Len").run Try.prog w = .ok (some false) w by kernel_rfl)
  have ms := fun (a : Addr) (w : World) => (show (method 188 44 (.pointer (some a)) "Len").run Try.prog w = .ok (35, .pointer (some a)) w by kernel_rfl)
  obtain ⟨m, hm⟩ : ∃ m, m = n + 1 := ⟨_, rfl⟩
  have e1 : wrap64 ((m : Int) - 1) = (n : Int) := by rw [w64 (by omega) (by omega)]; omega
  have HI := Aside0.mk h
  have HW := Aside0.mk (show WhoIn us (who ++ [x]) from fun y hy => by
    rcases List.mem_append.1 hy with hy | hy
    · exact hr y hy
    · rw [List.mem_singleton] at hy
      rw [hy]
      exact hx)
  have HB := Aside0.mk hb
  have HN := Aside0.mk (show (who ++ [x]).length = m by simp; omega)
  have HQ := Aside0.mk (show who.length ≤ 1000 by omega)
  have HFR := Aside0.mk hfr
  clear hfr
  have HM := Aside0.mk (show m ≤ 1000 ∧ n < m by omega)
  clear h hr hb hn hx hm hlen
  go_enter Try.func40, Try.ntmps40
  go_wp2_with (first | (go_at_call 65; refine (HI.out.push HFR.out HB.out HQ.out x).mono ?_; rintro e w' ⟨rfl, hI, hb⟩; have HI1 := Aside0.mk hI; have HB1 := Aside0.mk hb; clear hI hb) | (go_at_call 35; refine (len_n HI1.out HN.out).mono ?_; rintro e w' ⟨rfl, rfl⟩) | (go_at_call 45; refine (up_calls HI1.out HW.out (Nat.le_trans HB.out HB1.out.size) (by rw [HN.out]; exact HM.out.1) n (by rw [HN.out]; exact HM.out.2)).mono ?_; rintro e w' ⟨rfl, hI2, hb2⟩; have HI2 := Aside0.mk hI2; have HB2 := Aside0.mk hb2; clear hI2 hb2))
  go_end0
  exact ⟨rfl, HI2.out, HB1.out.trans HB2.out⟩
set_option maxHeartbeats 8000000 in
set_option maxRecDepth 1000000 in
theorem heapPop_calls {ok : Nat → Prop} {b L : Nat} {us : List S31} {who : List Int} {w : World} (h : IsLine ok b w L us who) (hr : WhoIn us who) (hb : b ≤ w.heap.size) (n : Nat) (hn : who.length = n + 1) (hlen : n ≤ 999) :
    Calls Try.prog 41 #[.iface 44 (.pointer (some ⟨L, 0, none⟩))] w fun e w' => (∃ v, e = .returned v) ∧ IsLine ok b w' L us ((downI us n n (swapI who 0 n) 0).take n) ∧ Bel ok b w w' := by
  have nl := fun (a : Addr) (w : World) => (show (nilAhead 188 44 (.pointer (some a)) "Pop").run Try.prog w = .ok (some false) w by kernel_rfl)
  have ml := fun (a : Addr) (w : World) => (show (method 188 44 (.pointer (some a)) "Pop").run Try.prog w = .ok (64, .pointer (some a)) w by kernel_rfl)
  have ns := fun (a : Addr) (w : World) => (show (nilAhead 188 44 (.pointer (some a)) "Len").run Try.prog w = .ok (some false) w by kernel_rfl)
  have ms := fun (a : Addr) (w : World) => (show (method 188 44 (.pointer (some a)) "Len").run Try.prog w = .ok (35, .pointer (some a)) w by kernel_rfl)
  have nt := fun (a : Addr) (w : World) => (show (nilAhead 188 44 (.pointer (some a)) "Swap").run Try.prog w = .ok (some false) w by kernel_rfl)
  have mt := fun (a : Addr) (w : World) => (show (method 188 44 (.pointer (some a)) "Swap").run Try.prog w = .ok (66, .pointer (some a)) w by kernel_rfl)
  obtain ⟨m, hm⟩ : ∃ m, m = n + 1 := ⟨_, rfl⟩
  have e1 : wrap64 ((m : Int) - 1) = (n : Int) := by rw [w64 (by omega) (by omega)]; omega
  have HI := Aside0.mk h
  have HW := Aside0.mk (hr.swap (i := 0) (k := n) (by omega) (by omega))
  have HB := Aside0.mk hb
  have HN := Aside0.mk (show who.length = m by omega)
  have HK := Aside0.mk (show n < who.length by omega)
  have HS := Aside0.mk (show (swapI who 0 n).length = n + 1 by rw [swapI_length]; exact hn)
  have HD := Aside0.mk (show (downI us n n (swapI who 0 n) 0).length = n + 1 by rw [downI_length, swapI_length]; exact hn)
  have HL := Aside0.mk (show n ≤ 1000 by omega)
  have HL1 := Aside0.mk (show n + 1 ≤ 1000 ∧ n ≤ n + 1 by omega)
  clear h hr hb hn hm hlen
  go_enter Try.func41, Try.ntmps41
  go_wp2_with (first | (go_at_call 35; refine (len_n HI.out HN.out).mono ?_; rintro e w' ⟨rfl, rfl⟩) | (go_at_call 66; refine (HI.out.swap0 n HK.out).mono ?_; rintro e w' ⟨rfl, hI, hb⟩; have HI1 := Aside0.mk hI; have HB1 := Aside0.mk hb; clear hI hb) | (go_at_call 46; refine (down0_calls HI1.out HW.out (Nat.le_trans HB.out HB1.out.size) (by rw [HS.out]; exact HL1.out.1) n (by rw [HS.out]; exact HL1.out.2)).mono ?_; rintro e w' ⟨⟨rb, rfl⟩, hI2, hb2⟩; have HI2 := Aside0.mk hI2; have HB2 := Aside0.mk hb2; clear hI2 hb2) | (go_at_call 64; refine (HI2.out.pop n HD.out HL.out).mono ?_; rintro e w' ⟨rfl, hI3, hb3⟩; have HI3 := Aside0.mk hI3; have HB3 := Aside0.mk hb3; clear hI3 hb3))
  go_ret
  exact ⟨⟨_, rfl⟩, HI3.out, (HB1.out.trans HB2.out).trans HB3.out⟩
set_option maxHeartbeats 8000000 in
set_option maxRecDepth 1000000 in
theorem heapFix_calls {ok : Nat → Prop} {b L : Nat} {us : List S31} {who : List Int} {w : World} (h : IsLine ok b w L us who) (hr : WhoIn us who) (hb : b ≤ w.heap.size) (n : Nat) (hn : who.length = n) (h0 : 0 < n) (hlen : n ≤ 999) :
    Calls Try.prog 42 #[.iface 44 (.pointer (some ⟨L, 0, none⟩)), .int .i64 0] w fun e w' => e = .returned (.tuple #[]) ∧ IsLine ok b w' L us (downI us n n who 0) ∧ Bel ok b w w' := by
  have ns := fun (a : Addr) (w : World) => (show (nilAhead 188 44 (.pointer (some a)) "Len").run Try.prog w = .ok (some false) w by kernel_rfl)
  have ms := fun (a : Addr) (w : World) => (show (method 188 44 (.pointer (some a)) "Len").run Try.prog w = .ok (35, .pointer (some a)) w by kernel_rfl)
  have HI := Aside0.mk h
  have HW := Aside0.mk hr
  have HD := Aside0.mk (WhoIn.down (n := n) n 0 hr (by omega) (by omega))
  have HB := Aside0.mk hb
  have HN := Aside0.mk hn
  have HL := Aside0.mk (show who.length ≤ 1000 ∧ n ≤ who.length by omega)
  have HDL := Aside0.mk (show (downI us n n who 0).length ≤ 1000 ∧ 0 < (downI us n n who 0).length by rw [downI_length]; omega)
  clear h hr hb hn h0 hlen
  go_enter Try.func42, Try.ntmps42
  go_wp2_with (first | (go_at_call 35; refine (len_n HI.out HN.out).mono ?_; rintro e w' ⟨rfl, rfl⟩) | (go_at_call 46; refine (down0_calls HI.out HW.out HB.out HL.out.1 n HL.out.2).mono ?_; rintro e w' ⟨⟨rb, rfl⟩, hI2, hb2⟩; have HI2 := Aside0.mk hI2; have HB2 := Aside0.mk hb2; clear hI2 hb2; cases rb) | (go_at_call 45; refine (up0_calls HI2.out HD.out (Nat.le_trans HB.out HB2.out.size) HDL.out.1 HDL.out.2).mono ?_; rintro e w' ⟨rfl, hI3, hb3⟩; have HI3 := Aside0.mk hI3; have HB3 := Aside0.mk hb3; clear hI3 hb3))
  · go_end0
    exact ⟨rfl, HI3.out, HB2.out.trans HB3.out⟩
  · go_end0
    exact ⟨rfl, HI2.out, HB2.out⟩
end Go.Proofs.Ytacenlcdlopjbaa.G
