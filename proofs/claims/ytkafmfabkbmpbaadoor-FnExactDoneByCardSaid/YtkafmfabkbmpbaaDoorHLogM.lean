/-
 The machine of a log: plain model, its block.
-/
import Derived.Test.YtkafmfabkbmpbaaDoorHGOf
import Derived.Test.YtkafmfabkbmpbaaDoorG0
namespace Go.Proofs.YtkafmfabkbmpbaaDoor.G
open Go.RowKit Go.Proofs.YtkafmfabkbmpbaaDoorW.PrintWords Go.Proofs.YtkafmfabkbmpbaaDoorW.PrintLast Go.Proofs.YtkafmfabkbmpbaaDoorW.PrintMore C
set_option linter.unusedVariables false
set_option linter.unusedSimpArgs false

/-- Who has begun, who is over, when each began, when each was over. -/
structure Mst where
 bg : Nat
 ov : Nat
 be : Nat → Int
 cl : Nat → Int
def Mst.ini : Mst := ⟨0, 0, fun _ => 0, fun _ => 0⟩
def upd (f : Nat → Int) (t : Nat) (v : Int) : Nat → Int := fun k => if k = t then v else f k
theorem upd_at (f : Nat → Int) (t : Nat) (v : Int) : upd f t v t = v := if_pos rfl
theorem upd_ne (f : Nat → Int) {t k : Nat} (h : k ≠ t) (v : Int) : upd f t v k = f k := if_neg h
def stepM (s : Mst) (e : S46) : Mst := if e.f2 = true then ⟨s.bg, s.ov ||| 2 ^ e.f1.toNat, s.be, upd s.cl e.f1.toNat e.f0⟩ else ⟨s.bg ||| 2 ^ e.f1.toNat, s.ov, upd s.be e.f1.toNat e.f0, s.cl⟩
def rngM (n : Nat) (e : S46) : Bool := decide (0 ≤ e.f0 ∧ e.f0 ≤ 200) && decide (0 ≤ e.f1 ∧ e.f1 ≤ (n : Int) - 1)
def fitM (l0 : List S47) (s : Mst) (e : S46) : Bool := if e.f2 = true then s.bg.testBit e.f1.toNat && (!s.ov.testBit e.f1.toNat && decide (e.f0 = s.be e.f1.toNat + (rd_T47 l0 e.f1).f0)) else !s.bg.testBit e.f1.toNat && decide (andNot ((ndm l0).getD e.f1.toNat 0) s.ov = 0)
def okM (l0 : List S47) (s : Mst) (e : S46) : Bool := rngM l0.length e && fitM l0 s e
structure OkS (n : Nat) (s : Mst) : Prop where
 bg : s.bg < 2 ^ n
 ov : s.ov < 2 ^ n
 be : ∀ t, 0 ≤ s.be t ∧ s.be t ≤ 200
theorem OkS.ini (n : Nat) : OkS n Mst.ini := ⟨Nat.two_pow_pos n, Nat.two_pow_pos n, fun _ => ⟨Int.le_refl _, (by decide : (0 : Int) ≤ 200)⟩⟩
theorem rng_of {n : Nat} {e : S46} (h : rngM n e = true) : (0 ≤ e.f0 ∧ e.f0 ≤ 200) ∧ ∃ t : Nat, e.f1 = (t : Int) ∧ t < n := by
 unfold rngM at h
 simp only [Bool.and_eq_true, decide_eq_true_eq] at h
 exact ⟨h.1, e.f1.toNat, by omega, by omega⟩
theorem or_bit_lt {n m t : Nat} (hm : m < 2 ^ n) (ht : t < n) : m ||| 2 ^ t < 2 ^ n := Nat.or_lt_two_pow hm (Nat.pow_lt_pow_right (by decide) ht)
theorem OkS.step {n : Nat} {s : Mst} (h : OkS n s) {e : S46} (hr : rngM n e = true) : OkS n (stepM s e) := by
 obtain ⟨h1, t, h2, h3⟩ := rng_of hr
 unfold stepM
 have e1 : e.f1.toNat = t := by omega
 rw [e1]
 split
 ·exact ⟨h.bg, or_bit_lt h.ov h3, h.be⟩
 ·refine ⟨or_bit_lt h.bg h3, h.ov, fun k => ?_⟩
  show 0 ≤ upd _ _ _ k ∧ upd _ _ _ k ≤ 200
  unfold upd
  split
  ·exact h1
  ·exact h.be k
/-- The machine's cells. -/
def mc (g : Nat) (s : Mst) : Array Value := #[.pointer (some ⟨g, 0, none⟩), .int .u16 (s.bg : Nat), .int .u16 (s.ov : Nat), .int .i64 (s.be 0), .int .i64 (s.be 1), .int .i64 (s.be 2), .int .i64 (s.be 3), .int .i64 (s.be 4), .int .i64 (s.be 5), .int .i64 (s.be 6), .int .i64 (s.be 7), .int .i64 (s.cl 0), .int .i64 (s.cl 1), .int .i64 (s.cl 2), .int .i64 (s.cl 3), .int .i64 (s.cl 4), .int .i64 (s.cl 5), .int .i64 (s.cl 6), .int .i64 (s.cl 7)]
def IsM (W : World) (M g : Nat) (s : Mst) : Prop := W.heap[M]? = some (.cells (mc g s) 61 (0, 0))
theorem lt8 {P : Nat → Prop} (h0 : P 0) (h1 : P 1) (h2 : P 2) (h3 : P 3) (h4 : P 4) (h5 : P 5) (h6 : P 6) (h7 : P 7) {t : Nat} (ht : t < 8) : P t := by
 match t, ht with
 | 0, _ => exact h0
 | 1, _ => exact h1
 | 2, _ => exact h2
 | 3, _ => exact h3
 | 4, _ => exact h4
 | 5, _ => exact h5
 | 6, _ => exact h6
 | 7, _ => exact h7
theorem mc_be (g : Nat) (s : Mst) {t : Nat} (ht : t < 8) : (mc g s)[3 + t]? = some (.int .i64 (s.be t)) := lt8 (P := fun t => (mc g s)[3 + t]? = some (.int .i64 (s.be t))) rfl rfl rfl rfl rfl rfl rfl rfl ht
theorem mc_cl (g : Nat) (s : Mst) {t : Nat} (ht : t < 8) : (mc g s)[11 + t]? = some (.int .i64 (s.cl t)) := lt8 (P := fun t => (mc g s)[11 + t]? = some (.int .i64 (s.cl t))) rfl rfl rfl rfl rfl rfl rfl rfl ht
theorem mc_setbg (g : Nat) (s : Mst) (v : Nat) : (mc g s).setIfInBounds 1 (.int .u16 (v : Nat)) = mc g ⟨v, s.ov, s.be, s.cl⟩ := rfl
theorem mc_setov (g : Nat) (s : Mst) (v : Nat) : (mc g s).setIfInBounds 2 (.int .u16 (v : Nat)) = mc g ⟨s.bg, v, s.be, s.cl⟩ := rfl
theorem mc_setbe (g : Nat) (s : Mst) {t : Nat} (ht : t < 8) (v : Int) : (mc g s).setIfInBounds (3 + t) (.int .i64 v) = mc g ⟨s.bg, s.ov, upd s.be t v, s.cl⟩ := lt8 (P := fun t => (mc g s).setIfInBounds (3 + t) (.int .i64 v) = mc g ⟨s.bg, s.ov, upd s.be t v, s.cl⟩) rfl rfl rfl rfl rfl rfl rfl rfl ht
theorem mc_setcl (g : Nat) (s : Mst) {t : Nat} (ht : t < 8) (v : Int) : (mc g s).setIfInBounds (11 + t) (.int .i64 v) = mc g ⟨s.bg, s.ov, s.be, upd s.cl t v⟩ := lt8 (P := fun t => (mc g s).setIfInBounds (11 + t) (.int .i64 v) = mc g ⟨s.bg, s.ov, s.be, upd s.cl t v⟩) rfl rfl rfl rfl rfl rfl rfl rfl ht
theorem IsM.setbg {W : World} {M g : Nat} {s : Mst} (h : IsM W M g s) (v : Nat) : IsM (W.setCell ⟨M, 1, none⟩ (.int .u16 (v : Nat))) M g ⟨v, s.ov, s.be, s.cl⟩ := blk_put h 1 _ (mc_setbg g s v)
theorem IsM.setov {W : World} {M g : Nat} {s : Mst} (h : IsM W M g s) (v : Nat) : IsM (W.setCell ⟨M, 2, none⟩ (.int .u16 (v : Nat))) M g ⟨s.bg, v, s.be, s.cl⟩ := blk_put h 2 _ (mc_setov g s v)
theorem IsM.setbe {W : World} {M g : Nat} {s : Mst} (h : IsM W M g s) {t : Nat} (ht : t < 8) (v : Int) : IsM (W.setCell ⟨M, 3 + t, none⟩ (.int .i64 v)) M g ⟨s.bg, s.ov, upd s.be t v, s.cl⟩ := blk_put h _ _ (mc_setbe g s ht v)
theorem IsM.setcl {W : World} {M g : Nat} {s : Mst} (h : IsM W M g s) {t : Nat} (ht : t < 8) (v : Int) : IsM (W.setCell ⟨M, 11 + t, none⟩ (.int .i64 v)) M g ⟨s.bg, s.ov, s.be, upd s.cl t v⟩ := blk_put h _ _ (mc_setcl g s ht v)
/-- Only the machine and what is new may have changed. -/
structure KM (M : Nat) (W W' : World) : Prop where
 below : Below M W W'
 off : ∀ k, k < W.heap.size → k ≠ M → W'.heap[k]? = W.heap[k]?
theorem KM.of_below {M : Nat} {W W' : World} (hM : M < W.heap.size) (h : Below W.heap.size W W') : KM M W W' := ⟨h.mono (by omega), fun k hk _ => h.block k hk⟩
theorem KM.trans {M : Nat} {W W1 W2 : World} (h : KM M W W1) (k : KM M W1 W2) : KM M W W2 := ⟨h.below.trans k.below, fun i hi hn => (k.off i (Nat.lt_of_lt_of_le hi h.below.size) hn).trans (h.off i hi hn)⟩
theorem KM.set {M : Nat} {W W' : World} (h : KM M W W') (o : Nat) (v : Value) : KM M W (W'.setCell ⟨M, o, none⟩ v) := ⟨h.below.setCell (p := ⟨M, o, none⟩) (Nat.le_refl _) v, fun k hk hn => (Below.heap_setCell _ _ _ k hn).trans (h.off k hk hn)⟩
theorem KM.drewN {M : Nat} {W W' : World} (h : KM M W W') (n : Nat) : KM M W (W'.drewN n) := ⟨pw_below_drewN h.below n, h.off⟩
theorem KM.drawn {M : Nat} {W W1 W2 : World} (h : KM M W W1) (k : Drawn0 W1 W2) : KM M W W2 := by
 obtain ⟨n, rfl⟩ := k.out
 exact h.drewN n
theorem IsM.below {W W' : World} {M g : Nat} {s : Mst} (h : IsM W M g s) (hb : Below W.heap.size W W') : IsM W' M g s := blk_below h hb
theorem calm_wpQ {P : Program} {c : Code} {Q : Exit → Act → World → Prop} {a : Act} {w : World} (h : c.wp P (Calm (fun a w => Q .normal a w)) a w) : c.wp P Q a w := wp_mono h (fun e a' w' hq => by cases e <;> first | exact hq | exact hq.elim)
theorem IsM.drawn {W W' : World} {M g : Nat} {s : Mst} (h : IsM W M g s) (hd : Drawn0 W W') : IsM W' M g s := h.below hd.below
theorem drawn_size {W W' : World} (hd : Drawn0 W W') : W'.heap.size = W.heap.size := by rw [drawn_heap hd]
theorem q_of {P : Program} {f : FuncId} {args : Array Value} {w : World} {n : Nat} {v : Value}
  (h : Calls P f args (w.drewN n) fun e w' => e = .returned v ∧ Drawn0 (w.drewN n) w') : Calls P f args (w.drewN n) fun e w'' => e = .returned v ∧ ∃ m, w'' = w.drewN m := Calls.quiet_of (h.mono fun _ _ ⟨a, b⟩ => ⟨a, b.out⟩)
theorem q_of2 {P : Program} {f : FuncId} {args : Array Value} {w : World} {m n : Nat} {v : Value}
  (h : Calls P f args (w.drewN (m + n)) fun e w' => e = .returned v ∧ Drawn0 (w.drewN (m + n)) w') : Calls P f args (w.drewN (m + n)) fun e w'' => e = .returned v ∧ ∃ k, w'' = (w.drewN m).drewN k := h.mono fun _ _ ⟨a, b⟩ => ⟨a, by
 obtain ⟨k, hk⟩ := b.out
 exact ⟨n + k, by rw [hk, World.drewN_drewN, World.drewN_drewN, Nat.add_assoc]⟩⟩
end Go.Proofs.YtkafmfabkbmpbaaDoor.G
