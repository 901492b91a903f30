/-
 Several texts in one: HIn, HAll, HRange, HList, HBits.
-/
import Derived.Test.YtkafmfabkbmpbaaDoorQOk
import Derived.RangeFuncNested
import Derived.RangeFuncBound
import Derived.RangeFuncBox
import Derived.RangeFuncCalls
import Derived.RangeFuncLeaves
import Derived.Shelf.Abstract
import Derived.WalkKit
import Derived.OwnWalkIn
import Derived.TacticsInMore
import Derived.LoopNIn
import Derived.LoopIn
import Derived.BigRegionIn
import Derived.Test.YtkafmfabkbmpbaaDoorCG
import Derived.Deep.DeepMust
import Derived.WalkSpells
import Derived.Test.YtkafmfabkbmpbaaDoorXMake
import Derived.Test.YtkafmfabkbmpbaaDoorG0
import Derived.Test.YtkafmfabkbmpbaaDoorG10
/-! From the plain walk to the walk within a round of a loop over an iterator: what holds of an operation, of a region in its order, of a region that draws its order holds there too. -/
namespace Go.Proofs.YtkafmfabkbmpbaaDoor.G
open Go.RowKit Go.Proofs.YtkafmfabkbmpbaaDoorW.PrintWords Go.Proofs.YtkafmfabkbmpbaaDoorW.PrintLast Go.Proofs.YtkafmfabkbmpbaaDoorW.PrintMore
set_option linter.unusedVariables false

section
variable {P : Program} {md : Region.Mode} {ops : Array Oper} {Q : Exit → Act → World → Prop} {S : World → Prop} {ds : List Nat} {oi : Oper} {v : Value} {fuel : Nat} {l : Array Bool} {a a' : Act} {w : World}
/-- An operation that yields in every world, taken first: by program alone. -/
theorem pureN (i N : Nat) (l' : Array Bool) (h : wpAnyLast P md ops Q S ds fuel l' a' w) (hi : ops[i]? = some oi := by rfl) (hN : oi.dst = some N := by rfl) (hc : anyB md ops l l' i = true := by kernel_rfl)
  (hQ : ∀ c a w, Q (.panic c) (a.put oi.dst v) w → Q (.panic c) a w := by exact fun _ _ _ h => h) (hy : Yields P ops oi v a := by refine Or.inl ⟨by rfl, ?_⟩; intro w'; go_simp; with_reducible rfl)
  (ha : a.put (some N) v = a' := by simp only [Act.put, List.setIfInBounds_toArray, List.set_cons_zero, List.set_cons_succ, i64_w, i32_w]; rfl) : wpAnyLast P md ops Q S ds (fuel + 1) l a w :=
 pure_ l' hi hN hc hQ hy ha h
theorem pureF (i N : Nat) (l' : Array Bool) (hi : ops[i]? = some oi) (hy : Yields P ops oi v a) (h : wpAnyLast P md ops Q S ds fuel l' a' w) (hN : oi.dst = some N := by rfl) (hc : anyB md ops l l' i = true := by kernel_rfl)
  (hQ : ∀ c a w, Q (.panic c) (a.put oi.dst v) w → Q (.panic c) a w := by exact fun _ _ _ h => h)
  (ha : a.put (some N) v = a' := by simp only [Act.put, List.setIfInBounds_toArray, List.set_cons_zero, List.set_cons_succ, i64_w, i32_w]; rfl) : wpAnyLast P md ops Q S ds (fuel + 1) l a w :=
 pure_ l' hi hN hc hQ hy ha h
theorem takeN (i N : Nat) (l' : Array Bool) (hS : S w) (hi : ops[i]? = some oi) (hy : YieldsIf P ops S oi v a) (h : wpAnyLast P md ops Q S ds fuel l' a' w) (hN : oi.dst = some N := by rfl) (hc : takeB md ops ds l l' i = true := by kernel_rfl)
  (hQ : ∀ c a w, Q (.panic c) (a.put oi.dst v) w → Q (.panic c) a w := by exact fun _ _ _ h => h)
  (ha : a.put (some N) v = a' := by simp only [Act.put, List.setIfInBounds_toArray, List.set_cons_zero, List.set_cons_succ, i64_w, i32_w]; rfl) : wpAnyLast P md ops Q S ds (fuel + 1) l a w :=
 take_ l' hi hN hc hQ hy hS ha h
/-- The act written out. -/
theorem normN (h : wpAnyLast P md ops Q S ds fuel l a' w) (ha : a = a' := by show Act.put _ _ _ = _; simp only [Act.put, List.setIfInBounds_toArray, List.set_cons_zero, List.set_cons_succ, i64_w, i32_w]; rfl) : wpAnyLast P md ops Q S ds fuel l a w := norm_ ha h
end
/-- Results that lie in cells. -/
theorem results_c1 {P : Program} {fn : Func} {p : Tmp} {ty : TypeId} (h : fn.results = #[.cell p ty]) {tmps : Array Value} {ad : Addr} (hp : tmps.getD p undef = .pointer (some ad)) {w : World} {v : Value} (hl : (loadVar ty ad).run P w = .ok v w) : (results fn tmps).run P w = .ok v w := by
 have hp' : tmps[p]?.getD undef = .pointer (some ad) := by simpa using hp
 simp [results, h, hp', asAddr, hl]
theorem results_c3 {P : Program} {fn : Func} {p q r : Tmp} {t u x : TypeId} (h : fn.results = #[.cell p t, .cell q u, .cell r x]) {tmps : Array Value} {a b c : Addr} (hp : tmps.getD p undef = .pointer (some a)) (hq : tmps.getD q undef = .pointer (some b)) (hr : tmps.getD r undef = .pointer (some c)) {w : World} {v1 v2 v3 : Value}
  (h1 : (loadVar t a).run P w = .ok v1 w) (h2 : (loadVar u b).run P w = .ok v2 w) (h3 : (loadVar x c).run P w = .ok v3 w) : (results fn tmps).run P w = .ok (.tuple #[v1, v2, v3]) w := by
 have hp' : tmps[p]?.getD undef = .pointer (some a) := by simpa using hp
 have hq' : tmps[q]?.getD undef = .pointer (some b) := by simpa using hq
 have hr' : tmps[r]?.getD undef = .pointer (some c) := by simpa using hr
 simp [results, h, hp', hq', hr', asAddr, h1, h2, h3]
theorem keepsFrom_refl (B : Nat) (W : World) : KeepsFrom B W W := ⟨Nat.le_refl _, fun _ _ _ ho _ => ho⟩
/-- The fence of a round of loop l. -/
abbrev RF (l : Nat) : Fence := Fence.wide.inRound l
section
variable {P : Program} {l n : Nat} {Q : Exit → Act → World → Prop}
theorem upon_in {o : Oper} {a : Act} {K : Act → World → Prop} : ∀ {r : Result Next}, o.upon P a K Q r → o.uponIn (RF l) n P a K Q r
 | .ok (.value v) w', h => h
 | .ok .skip w', h => h
 | .ok (.defer d) w', h => h
 | .ok (.enter f args) w', h => ⟨(fun h0 => by cases h0), CallsIn.inRound l (callsIn_wide.2 h)⟩
 | .ok (.row row args) w', h => ⟨(fun h0 => by cases h0), fun c cs _ => let ⟨v, w2, r, s⟩ := h c cs; ⟨v, w2, r, stepsIn_wide.2 s⟩⟩
 | .ok (.round ..) w', h => h.elim
 | .halt (.panic v) w', h => h
theorem oper_in {o : Oper} {a : Act} {w : World} {K : Act → World → Prop} (hd : ∀ c, o.op ≠ .defer c) (h : o.wp P a w K Q) : o.wpIn (RF l) n P a w K Q := by
 refine ⟨fun _ _ => trivial, ?_⟩
 rw [show (RF l).round = some l from rfl, Oper.semAt_some l _ _ hd]
 exact upon_in h
variable {ops : Array Oper} {md : Region.Mode}
theorem wpOp_in (hd : ∀ (i : Nat) (o : Oper), ops[i]? = some o → ∀ c, o.op ≠ .defer c) (hQ : ¬ LetsOut Q) {i : Nat} {K K' : Act → World → Prop} {a : Act} {w : World} (hk : ∀ a w, K a w → K' a w) (h : wpOp P ops Q i K a w) : wpOpIn (RF l) n P ops Q i K' a w := by
 unfold wpOp at h
 unfold wpOpIn
 cases ho : ops[i]? with
 | none =>
  rw [ho] at h
  exact hk _ _ h
 | some o =>
  rw [ho] at h
  simp only at h ⊢
  by_cases hw : Region.wanted o (yielded ops a.tmps) = true
  ·rw [if_pos hw] at h ⊢
   exact Oper.wpIn_mono hk (oper_in (hd i o ho) (h.resolve_right (fun hh => hQ hh.2)))
  ·rw [if_neg hw] at h ⊢
   exact ⟨fun _ _ => trivial, hk _ _ h⟩
theorem wpAny_in (hd : ∀ (i : Nat) (o : Oper), ops[i]? = some o → ∀ c, o.op ≠ .defer c) (hQ : ¬ LetsOut Q) : ∀ (fuel : Nat) (listed : Array Bool) (a : Act) (w : World), wpAny P md ops Q fuel listed a w → wpAnyIn (RF l) n P md ops Q fuel listed a w
 | 0, _, _, _, h => h
 | fuel + 1, listed, a, w, h => ⟨h.1, fun i hi => wpOp_in hd hQ (fun a w => wpAny_in hd hQ fuel _ a w) (h.2 i hi)⟩
/-- No operation defers a call. -/
def noDefer (ops : Array Oper) : Bool := ops.all (fun o => match o.op with | .defer _ => false | _ => true)
theorem noDefer_spec (h : noDefer ops = true) : ∀ (i : Nat) (o : Oper), ops[i]? = some o → ∀ c, o.op ≠ .defer c := by
 intro i o ho c hc
 unfold noDefer at h
 rw [Array.all_eq_true] at h
 obtain ⟨hi, rfl⟩ := Array.getElem?_eq_some_iff.1 ho
 have := h i hi
 rw [hc] at this
 simp at this
/-- A region that draws its order, in a round: by the words of the plain walk. -/
theorem startIn_ {S : World → Prop} {ds : List Nat} {id k : Nat} {a : Act} {w : World} (la : Array Bool) (hd : noDefer ops = true) (hQ : ¬ LetsOut Q) (hm : P.follows .mixedOrders = true) (hn : ops.size = k) (hl : Array.replicate k false = la) (hS : S w.drew)
  (h : S w.drew → wpAnyLast P .any ops Q S ds k la a w.drew) : (Code.region id ops true).wpIn (RF l) n P Q a w := by
 subst hn
 subst hl
 exact wpIn_region_any hm (wpAny_in (noDefer_spec hd) hQ _ _ _ _ (wpAny_of_last _ _ _ _ (h hS)))
theorem wpList_in (hQ : ¬ LetsOut Q) : ∀ (rest : List Oper) (a : Act) (w : World), (∀ o, o ∈ rest → ∀ c, o.op ≠ .defer c) → wpList P ops Q rest a w → wpListIn (RF l) n P ops Q rest a w
 | [], _, _, _, h => h
 | o :: rest, a, w, hd, h => by
  unfold wpList at h
  unfold wpListIn
  by_cases hw : Region.wanted o (yielded ops a.tmps) = true
  ·rw [if_pos hw] at h ⊢
   exact Oper.wpIn_mono (fun a w => wpList_in hQ rest a w (fun o ho => hd o (List.mem_cons_of_mem _ ho))) (oper_in (hd o List.mem_cons_self) (h.resolve_right (fun hh => hQ hh.2)))
  ·rw [if_neg hw] at h ⊢
   exact ⟨fun _ _ => trivial, wpList_in hQ rest _ _ (fun o ho => hd o (List.mem_cons_of_mem _ ho)) h⟩
/-- A region in its own order, in a round. -/
theorem regionIn_ {id : Nat} {a : Act} {w : World} (hd : noDefer ops = true) (hQ : ¬ LetsOut Q) (h : wpList P ops Q ops.toList a w) : (Code.region id ops false).wpIn (RF l) n P Q a w := by
 refine wpIn_region_list (wpList_in hQ _ _ _ (fun o ho => ?_) h)
 obtain ⟨i, hi⟩ := List.getElem?_of_mem ho
 exact noDefer_spec hd i o (by rw [← hi, Array.getElem?_toList])
end
/-- Marks of loops over iterators, none of which holds a call: each its own block, from b on. -/
def Marks (b : Nat) (w : World) : List Deferred → Prop
 | [] => True
 | d :: ds => ∃ D, d.target = .collected D ∧ b ≤ D ∧ w.heap[D]? = some (.deferred (some [])) ∧ (∀ d' D', d' ∈ ds → d'.target = .collected D' → D' ≠ D) ∧ Marks b w ds
theorem Marks.move {b : Nat} {w w' : World} : ∀ {ds : List Deferred}, Marks b w ds → (∀ k, w.heap[k]? = some (.deferred (some [])) → (∃ d, d ∈ ds ∧ d.target = .collected k) → w'.heap[k]? = some (.deferred (some []))) → Marks b w' ds
 | [], _, _ => trivial
 | d :: ds, ⟨D, h1, h2, h3, h4, h5⟩, hm => ⟨D, h1, h2, hm D h3 ⟨d, List.mem_cons_self, h1⟩, h4, h5.move (fun k hk ⟨d', hd', e⟩ => hm k hk ⟨d', List.mem_cons_of_mem _ hd', e⟩)⟩
/-- A function leaves through its marks: what is said of its end may not hang on blocks that are no cells. -/
theorem leaves_marks {P : Program} {n : Nat} {fn : Func} {tmps : Array Value} {R : Ending → World → Prop} {b : Nat} : ∀ (ds : List Deferred) (w : World), Marks b w ds →
  (∀ w', w.heap.size = w'.heap.size → (∀ k, w'.heap[k]? = w.heap[k]? ∨ (b ≤ k ∧ ∃ x, w.heap[k]? = some (.deferred x))) → w'.os = w.os → w'.tape = w.tape → w'.output = w.output → LeavesInM Fence.wide n P fn tmps R [] .returning w') →
  LeavesInM Fence.wide n P fn tmps R ds .returning w
 | [], w, _, h => h w rfl (fun _ => .inl rfl) rfl rfl rfl
 | d :: ds, w, ⟨D, h1, h2, h3, h4, h5⟩, h => by
  refine ⟨by simp, .inl ⟨D, _, h1, run_takeDeferred h3, ?_⟩⟩
  have hgr := grownBy_putObj' w D (.deferred none)
  have hsz : (w.putObj D (.deferred none)).heap.size = w.heap.size := by simp
  refine leaves_marks ds _ (h5.move (fun k hk hd => ?_)) (fun w' e1 e2 e3 e4 e5 => h w' (by omega) (fun k => ?_) (e3.trans hgr.os) (e4.trans hgr.tape) (e5.trans hgr.output))
  ·obtain ⟨d', hd', e⟩ := hd
   rw [World.putObj_heap_other (h4 d' k hd' e)]
   exact hk
  ·by_cases e : k = D
   ·subst e
    exact .inr ⟨h2, _, h3⟩
   ·rcases e2 k with e6 | ⟨e6, x, e7⟩
    ·exact .inl (e6.trans (World.putObj_heap_other e))
    ·exact .inr ⟨e6, x, by rw [World.putObj_heap_other e] at e7; exact e7⟩
end Go.Proofs.YtkafmfabkbmpbaaDoor.G
/-! The sets by hand: bits.TrailingZeros16 over its table; the iterator over a set's numbers. -/
namespace Go.Proofs.YtkafmfabkbmpbaaDoor.G
open Go.RowKit Go.Proofs.YtkafmfabkbmpbaaDoorW.PrintWords Go.Proofs.YtkafmfabkbmpbaaDoorW.PrintLast Go.Proofs.YtkafmfabkbmpbaaDoorW.PrintMore C
set_option linter.unusedVariables false
set_option linter.unusedSimpArgs false

/-- The table of bits.TrailingZeros16, as its initialiser lays it. -/
def deB : List Nat := [0, 1, 28, 2, 29, 14, 24, 3, 30, 22, 20, 15, 25, 17, 4, 8, 31, 27, 13, 23, 21, 19, 16, 7, 26, 12, 18, 6, 11, 5, 10, 9]
def Tab (w : World) : Prop := ∀ j, j < 32 → w.cell? ⟨0, j, none⟩ = some (.int .u8 (deB.getD j 0 : Nat))
theorem Tab.below {b : Nat} {w w' : World} (h : Tab w) (hb : Below b w w') (h0 : 0 < b) : Tab w' := fun j hj => (hb.cell (p := ⟨0, j, none⟩) h0).trans (h j hj)
theorem neg_and {m v : Nat} (h0 : m ≠ 0) (hm : m < 65536) (hlow : m &&& (65536 - m) = v) : Go.bits .and .u16 (m : Int) (IntKind.u16.wrap (-(m : Int))) = (v : Int) := by
 have hv : v ≤ m := by rw [← hlow]; exact Nat.and_le_left
 have e : IntKind.u16.wrap (-(m : Int)) = ((65536 - m : Nat) : Int) := by
  rw [IntKind.wrap_u16]
  omega
 rw [e]
 have hm' : m % 2 ^ IntKind.u16.bits = m := Nat.mod_eq_of_lt (by show m < 2 ^ 16; omega)
 have hn' : (65536 - m) % 2 ^ IntKind.u16.bits = 65536 - m := Nat.mod_eq_of_lt (by show 65536 - m < 2 ^ 16; omega)
 simp only [Go.bits, BitVec.ofInt_natCast, BitVec.toNat_and, BitVec.toNat_ofNat, hm', hn', hlow]
 rw [IntKind.wrap_u16]
 omega
theorem deB_at : ∀ i, i < 16 → deB.getD (2 ^ i * 125613361 % 4294967296 / 134217728) 0 = i ∧ 2 ^ i * 125613361 % 4294967296 / 134217728 < 32 ∧ 2 ^ i < 65536 := by decide
set_option maxHeartbeats 4000000 in
set_option maxRecDepth 1000000 in
theorem tz16_calls {m : Nat} (h0 : m ≠ 0) (hm : m < 65536) {i : Nat} (hi : i < 16) (hlow : m &&& (65536 - m) = 2 ^ i) {w : World} (ht : Tab w) :
  Calls Tryd.prog 46 #[.int .u16 m] w fun e w' => e = .returned (.int .i64 i) ∧ w' = w := by
 have e0 : ((m : Int) == 0) = false := beq_eq_false_iff_ne.2 (by omega)
 obtain ⟨h1, h2, h3⟩ := deB_at i hi
 obtain ⟨v, hv⟩ : ∃ v, v = 2 ^ i := ⟨_, rfl⟩
 rw [← hv] at hlow h1 h2 h3
 have e1 := neg_and h0 hm hlow
 obtain ⟨q, hq⟩ : ∃ q, q = v * 125613361 % 4294967296 / 134217728 := ⟨_, rfl⟩
 rw [← hq] at h1 h2
 have e2 : (v : Int) % 4294967296 * 125613361 % 4294967296 / 134217728 = (q : Int) := by
  rw [Int.emod_eq_of_lt (a := (v : Int)) (by omega) (by omega), hq, Int.natCast_ediv, Int.natCast_emod, Int.natCast_mul]
  rfl
 have hc := ht q h2
 rw [h1] at hc
 have q1 : (q : Int) < 32 := by omega
 clear h1 hq hv hlow ht h0 hm h3
 go_enter Tryd.func46, Tryd.ntmps46
 go_wp2
 go_ret
 exact ⟨rfl, rfl⟩

attribute [local go_sem] Oper.semAt_some
open Go.Shelf in
set_option maxHeartbeats 4000000 in
set_option maxRecDepth 1000000 in
theorem all_calls (m : Int) (w : World) : Calls Tryd.prog 31 #[.int .u16 m] w fun e w' => e = .returned (.func (.func 45) #[] #[.pointer (some ⟨w.heap.size, 0, none⟩)]) ∧ w' = w.alloc (.cells #[.int .u16 m] 55) := by
 go_enter Tryd.func31, Tryd.ntmps31
 go_wp2
 go_ret
 exact ⟨rfl, rfl⟩
theorem and_pred {r : Nat} (h0 : r ≠ 0) (hr : r < 65536) : Go.bits .and .u16 (r : Int) ((r : Int) - 1) = ((r &&& (r - 1) : Nat) : Int) := by
 have e : (r : Int) - 1 = ((r - 1 : Nat) : Int) := by omega
 rw [e]
 have h1 : r &&& (r - 1) ≤ r := Nat.and_le_left
 have hm' : r % 2 ^ IntKind.u16.bits = r := Nat.mod_eq_of_lt (by show r < 2 ^ 16; omega)
 have hn' : (r - 1) % 2 ^ IntKind.u16.bits = r - 1 := Nat.mod_eq_of_lt (by show r - 1 < 2 ^ 16; omega)
 simp only [Go.bits, BitVec.ofInt_natCast, BitVec.toNat_and, BitVec.toNat_ofNat, hm', hn']
 rw [IntKind.wrap_u16]
 omega
theorem and_pred_lt {r : Nat} (h0 : r ≠ 0) : r &&& (r - 1) < r := by
 have : r &&& (r - 1) ≤ r - 1 := Nat.and_le_right
 omega
/-- What a set holds. -/
abbrev El (m : Nat) : Type := { x : Nat // x ∈ elems m }
set_option maxHeartbeats 4000000 in
set_option maxRecDepth 1000000 in
theorem all1_in (n : Nat) (hn : 1 ≤ n) (l Bn n₀ : Nat) (m : Nat) (hm : m < 65536) (J Jx : List (El m) → World → Prop)
  (hY : ∀ pre x W, J pre W → pre.length < 17 → YieldAt Fence.wide (n - 1) Tryd.prog l #[.int .i64 (x.1 : Nat)] W fun e W' => (e = .returned (.bool true) ∧ J (pre ++ [x]) W' ∧ Below n₀ W W') ∨ (e = .returned (.bool false) ∧ Jx (pre ++ [x]) W'))
  (W : World) (hBn : W.cell? ⟨Bn, 0, none⟩ = some (.int .u16 m)) (hT : Tab W) (hn0 : 0 < n₀) (h0 : J [] W) :
  CallsIn Fence.wide n Tryd.prog 45 #[.func (.yield l) #[] #[], .pointer (some ⟨Bn, 0, none⟩)] W fun e W' => (∃ v, e = .returned v) ∧
   ((∃ ys : List (El m), ys.map (·.1) = elems m ∧ J ys W') ∨ (∃ pre : List (El m), pre.map (·.1) <+: elems m ∧ Jx pre W')) := by
 refine callsIn_of_wp Tryd.func45 rfl trivial ?_ rfl
 simp only [Tryd.ntmps45, List.size_toArray, List.length_cons, List.length_nil, Nat.reduceAdd, Nat.reduceSub, Array.replicate_succ, Array.replicate_zero, List.push_toArray, List.append_toArray, List.nil_append, List.cons_append]
 gi_wp2
 gi_loopw [3] (fun p wr => ∃ (pre : List (El m)) (r : Nat), p = .int .u16 r ∧ Aside0 (elems m = pre.map (·.1) ++ elems r ∧ r < 65536 ∧ pre.length + (elems r).length ≤ 16) ∧ Aside0 (Tab wr) ∧ J pre wr) (fun p _ => (intOf p).toNat)
 case atStart => exact ⟨[], m, rfl, ⟨rfl, hm, by have := elems_len m; simpa using this⟩, ⟨hT⟩, h0⟩
 case round =>
  obtain ⟨pre, r, rfl, HR, HT, hJ⟩ := hrel
  by_cases hr0 : r = 0
  ·subst hr0
   have HX := Aside0.mk (show elems m = pre.map (·.1) by have := HR.out.1; rwa [elems_zero, List.append_nil] at this)
   gi_wp2
   go_end0
   exact ⟨⟨_, rfl⟩, .inl ⟨pre, HX.out.symm, hJ⟩⟩
  ·obtain ⟨i, hi, hlow, hel, _⟩ := low_bit hr0 HR.out.2.1
   have hmem : i ∈ elems m := by rw [HR.out.1, hel]; simp
   have hpl : pre.length < 17 := by have := HR.out.2.2; omega
   obtain ⟨fn, tmps, assign, body, hy, hR⟩ := hY pre ⟨i, hmem⟩ wr hJ hpl
   dsimp only at hy
   have HTZ := Aside0.mk (tz16_calls hr0 HR.out.2.1 hi hlow HT.out)
   have e0 : ((r : Int) == 0) = false := beq_eq_false_iff_ne.2 (by omega)
   have e1 : ((r : Int) != 0) = true := bne_iff_ne.2 (by omega)
   have e3 := and_pred hr0 HR.out.2.1
   have b0 : 1 ≤ (r : Int) := by omega
   have b1 : (r : Int) < 65536 := by have := HR.out.2.1; omega
   obtain ⟨r', hr'⟩ : ∃ r', r' = r &&& (r - 1) := ⟨_, rfl⟩
   rw [← hr'] at e3
   have HR' := Aside0.mk (show elems m = (pre ++ [(⟨i, hmem⟩ : El m)]).map (·.1) ++ elems r' ∧ r' < 65536 ∧ (pre ++ [(⟨i, hmem⟩ : El m)]).length + (elems r').length ≤ 16 ∧ r' < r from ⟨HR.out.1.trans (by rw [hel, hr']; simp), by have := and_pred_lt hr0; have := HR.out.2.1; omega, by have := HR.out.2.2; rw [hel] at this; rw [hr']; simp at this ⊢; omega, by rw [hr']; exact and_pred_lt hr0⟩)
   clear hr0 hlow hel hr' hpl
   gi_wp2_with (refine ⟨trivial, ?_⟩; gi_at_call 46; refine (callsIn_wide.2 HTZ.out).mono ?_; rintro e w' ⟨rfl, rfl⟩)
   refine hR.mono ?_
   rintro e W3 (⟨rfl, hJ3, hk3⟩ | ⟨rfl, hJx3⟩)
   ·have HT3 := Aside0.mk (HT.out.below hk3 hn0)
    gi_wp2
    go_roundw
    case rel => exact ⟨pre ++ [⟨i, hmem⟩], r', rfl, ⟨HR'.out.1, HR'.out.2.1, HR'.out.2.2.1⟩, HT3, hJ3⟩
    case measure =>
     have := HR'.out.2.2.2
     simp [intOf]
     omega
   ·gi_wp2
    refine bodyPost_ret (results_none rfl _ _ _) rfl ?_
    exact ⟨⟨_, rfl⟩, .inr ⟨pre ++ [⟨i, hmem⟩], ⟨elems r', HR'.out.1.symm⟩, hJx3⟩⟩
end Go.Proofs.YtkafmfabkbmpbaaDoor.G
/-! 'for k := range s.all() { .. }': one law for the caller, over the set's numbers. -/
namespace Go.Proofs.YtkafmfabkbmpbaaDoor.G
open Go.RowKit Go.Proofs.YtkafmfabkbmpbaaDoorW.PrintWords Go.Proofs.YtkafmfabkbmpbaaDoorW.PrintLast Go.Proofs.YtkafmfabkbmpbaaDoorW.PrintMore C
set_option linter.unusedVariables false
set_option linter.unusedSimpArgs false

theorem cell_blk {w : World} {g t : Nat} {cs : Array Value} (h : w.heap[g]? = some (.cells cs t (0, 0))) (j : Nat) : w.cell? ⟨g, j, none⟩ = cs[j]? := by
 simp [World.cell?, h]
theorem al_new (W : World) (t : Nat) (cs : Array Value) : (W.alloc (.cells cs t (0, 0))).heap[W.heap.size]? = some (.cells cs t (0, 0)) := by
 show (W.heap.push _)[W.heap.size]? = _
 simp
theorem al_old {W : World} {k : Nat} {o o' : Obj} (h : W.heap[k]? = some o') : (W.alloc o).heap[k]? = some o' := by
 have hk := (Array.getElem?_eq_some_iff.1 h).1
 show (W.heap.push _)[k]? = _
 rw [Array.getElem?_push_lt hk, ← h, Array.getElem?_eq_getElem hk]
/-- What holds of cells alone abides the turn of a block that is none. -/
theorem R_ownFrom {α : Type} {d : Kd α} {e b B : Nat} {ok : Nat → Prop} {v : Value} {xs : List α} {W W' : World} {row : Option Nat} (h : d.R e W b ok v xs) (hg : W.grownBy W' row) (hr : ∀ r, row = some r → B ≤ r ∧ ∃ o : Obj, W.heap[r]? = some o ∧ o.isCells = false) : d.R e W' b ok v xs :=
 Kd.R_mono (Kd.R_grown (Kd.R_bound h) hg (fun k hk e => by
  obtain ⟨_, _, _, q, _, cells, hc⟩ := hk
  obtain ⟨o, ho, hn⟩ := (hr k e.symm).2
  rw [hc] at ho
  cases ho
  cases hn)) (fun _ hk => hk.1)
theorem blk_ownFrom {B L t : Nat} {cs : Array Value} {fz : Nat × Nat} {W W' : World} {row : Option Nat} (h : W.heap[L]? = some (.cells cs t fz)) (hg : W.grownBy W' row) (hr : ∀ r, row = some r → B ≤ r ∧ ∃ o : Obj, W.heap[r]? = some o ∧ o.isCells = false) : W'.heap[L]? = some (.cells cs t fz) := by
 refine (hg.block L (Array.getElem?_eq_some_iff.1 h).1 (fun e => ?_)).trans h
 obtain ⟨o, ho, hn⟩ := (hr L e.symm).2
 rw [h] at ho
 cases ho
 cases hn
theorem below_ownFrom {b B : Nat} {w0 W W' : World} {row : Option Nat} (h : Below b w0 W) (hb0 : b ≤ w0.heap.size) (hbB : b ≤ B) (hg : W.grownBy W' row) (hr : ∀ r, row = some r → B ≤ r ∧ ∃ o : Obj, W.heap[r]? = some o ∧ o.isCells = false) : Below b w0 W' :=
 h.grown hg (Nat.le_trans hb0 h.size) (fun k e => Nat.le_trans hbB (hr k e).1)
theorem keepsFrom_below {B : Nat} {W W1 : World} (h : Below W.heap.size W W1) : KeepsFrom B W W1 := ⟨h.size, fun k o _ ho _ => (h.block k (Array.getElem?_eq_some_iff.1 ho).1).trans ho⟩
theorem keepsFrom_grown {α : Type} {d : Kd α} {e b B : Nat} {ok : Nat → Prop} {v : Value} {xs : List α} {W W1 : World} (h : d.R e W b ok v xs) (hg : W.grownBy W1 v.ownBlock) : KeepsFrom B W W1 :=
 ⟨hg.size, fun k o _ ho hc => (hg.block k (Array.getElem?_eq_some_iff.1 ho).1 (fun e => by
  obtain ⟨cells, ht⟩ := Kd.R_typed h k e.symm
  rw [ho] at ht
  cases ht
  cases hc)).trans ho⟩
theorem keepsFrom_set {B : Nat} {W W1 : World} (h : KeepsFrom B W W1) (p : Addr) (v : Value) : KeepsFrom B W (W1.setCell p v) := h.trans ((KeepsOthers.setCell _ _ _).from _)
theorem keepsFrom_drewN {B : Nat} {W W1 : World} (h : KeepsFrom B W W1) (m : Nat) : KeepsFrom B W (W1.drewN m) := h.trans ⟨Nat.le_refl _, fun _ _ _ ho _ => ho⟩

/-- The whole law: a body may leave by a jump. -/
theorem wp_rangeX {m Bs b : Nat} {g : Operand} {ps : Array Tmp} {assign body : Code} {Q : Exit → Act → World → Prop} {a : Act} {w : World}
  (hm : m < 65536) (hg : a.eval g = .func (.func 45) #[] #[.pointer (some ⟨Bs, 0, none⟩)]) (hBs : w.cell? ⟨Bs, 0, none⟩ = some (.int .u16 m)) (hT : Tab w) (hb0 : 0 < b) (hb : b ≤ w.heap.size) (hps : ps.size = 1)
  (I : List Nat → World → Prop) (Ix : Code → List Nat → World → Prop) (hI : OwnFrom w.heap.size I) (hIx : ∀ c, OwnFrom w.heap.size (Ix c)) (h0 : I [] w) (a₁ : Nat → Act)
  (hassign : ∀ (l x : Nat) (W : World) (K : Act → World → Prop), K (a₁ x) W → assign.wpIn (RF l) 5 Tryd.prog (Exit.then K (fun _ _ _ => False)) { tmps := (ps.zip #[.int .i64 (x : Nat)]).foldl (fun t (p, v) => t.setIfInBounds p v) a.tmps, defers := [] } W)
  (hbody : ∀ (l : Nat) (pre : List Nat) (x : Nat) (W : World), x ∈ elems m → pre.length < 17 → I pre W → body.wpIn (RF l) 5 Tryd.prog (ownPostG w.heap.size (Below b) I Ix (pre ++ [x]) W) (a₁ x) W)
  (hdone : ∀ (D : Nat) (W : World), w.heap.size ≤ D → I (elems m) W → W.heap[D]? = some (.deferred (some [])) → Q .normal { a with defers := { target := .collected D, args := #[] } :: a.defers } W)
  (hstop : ∀ (D : Nat) (c : Code) (pre : List Nat) (W : World), w.heap.size ≤ D → pre <+: elems m → Ix c pre W → W.heap[D]? = some (.deferred (some [])) → c.wp Tryd.prog Q { a with defers := { target := .collected D, args := #[] } :: a.defers } W) :
  (Code.rangeFunc g ps assign body).wp Tryd.prog Q a w := by
 refine (wpIn_wide (n := 7)).1 ?_
 refine wpIn_rangeFunc_ownG (F := Fence.wide) (n := 7) rfl (by omega) hg trivial (enters_of Tryd.func45 (by kernel_rfl) rfl) (α := El m) (encs := fun x => #[.int .i64 (x.1 : Nat)]) (Kp := Below b) (S := fun ys => ys.map (·.1) = elems m) (Sp := fun pre => pre.map (·.1) <+: elems m) (N := 17) (w0 := w) ?seq
  belowK_t (belowK_b hb) (Below.refl _ _) (fun _ => hps.symm) (fun (pre : List (El m)) W => I (pre.map (fun y : El m => y.1)) W) (fun c (pre : List (El m)) W => Ix c (pre.map (fun y : El m => y.1)) W) (fun (s : List (El m)) W W' row hs hg hr => hI (s.map (fun y : El m => y.1)) W W' row hs hg hr) (fun c (s : List (El m)) W W' row hs hg hr => hIx c (s.map (fun y : El m => y.1)) W W' row hs hg hr) h0 (fun x => a₁ x.1)
  (fun l x W K hK => hassign l x.1 W K hK) ?body ?done ?stop
 case seq =>
  intro l J Jx W hW _ _ hY hJ
  have hlt : Bs < w.heap.size := World.block_lt_of_cell? w _ hBs
  exact all1_in _ (by omega) l Bs b m hm J Jx (fun pre x W hJ hl => hY pre x W hJ hl) W ((hW.cell (p := ⟨Bs, 0, none⟩) hlt).trans hBs) (hT.below hW (by omega)) hb0 hJ
 case body =>
  intro l pre x W hI' hl
  refine wpIn_mono (hbody l (pre.map (·.1)) x.1 W x.2 (by simpa using hl) hI') (fun e a' W' h => ?_)
  have em : (pre ++ [x]).map (fun y : El m => y.1) = pre.map (fun y : El m => y.1) ++ [x.1] := by simp
  cases e <;> simp only [ownPostG] at h ⊢ <;> first | (rw [em]; exact h) | exact h
 case done =>
  intro D xs W hD hS hI' hK
  exact hdone D W hD (hS ▸ hI') hK
 case stop =>
  intro D c pre W hD hS hIx' hK
  exact wpIn_wide.2 (hstop D c _ W hD hS hIx' hK)
/-- A body that goes on to the end. -/
theorem wp_range {m Bs b : Nat} {g : Operand} {ps : Array Tmp} {assign body : Code} {Q : Exit → Act → World → Prop} {a : Act} {w : World}
  (hm : m < 65536) (hg : a.eval g = .func (.func 45) #[] #[.pointer (some ⟨Bs, 0, none⟩)]) (hBs : w.cell? ⟨Bs, 0, none⟩ = some (.int .u16 m)) (hT : Tab w) (hb0 : 0 < b) (hb : b ≤ w.heap.size) (hps : ps.size = 1)
  (I : List Nat → World → Prop) (hI : OwnFrom w.heap.size I) (h0 : I [] w) (a₁ : Nat → Act)
  (hassign : ∀ (l x : Nat) (W : World) (K : Act → World → Prop), K (a₁ x) W → assign.wpIn (RF l) 5 Tryd.prog (Exit.then K (fun _ _ _ => False)) { tmps := (ps.zip #[.int .i64 (x : Nat)]).foldl (fun t (p, v) => t.setIfInBounds p v) a.tmps, defers := [] } W)
  (hbody : ∀ (l : Nat) (pre : List Nat) (x : Nat) (W : World), x ∈ elems m → pre.length < 17 → I pre W → body.wpIn (RF l) 5 Tryd.prog (ownPostG w.heap.size (Below b) I (fun _ _ _ => False) (pre ++ [x]) W) (a₁ x) W)
  (hdone : ∀ (D : Nat) (W : World), w.heap.size ≤ D → I (elems m) W → W.heap[D]? = some (.deferred (some [])) → Q .normal { a with defers := { target := .collected D, args := #[] } :: a.defers } W) :
  (Code.rangeFunc g ps assign body).wp Tryd.prog Q a w :=
 wp_rangeX hm hg hBs hT hb0 hb hps I (fun _ _ _ => False) hI (fun _ _ _ _ _ h _ _ => h) h0 a₁ hassign hbody hdone (fun _ _ _ _ _ _ h _ => h.elim)
end Go.Proofs.YtkafmfabkbmpbaaDoor.G
/-! (set).list by hand. -/
namespace Go.Proofs.YtkafmfabkbmpbaaDoor.G
open Go.RowKit Go.Proofs.YtkafmfabkbmpbaaDoorW.PrintWords Go.Proofs.YtkafmfabkbmpbaaDoorW.PrintLast Go.Proofs.YtkafmfabkbmpbaaDoorW.PrintMore C
set_option linter.unusedVariables false
set_option linter.unusedSimpArgs false
attribute [local go_sem] Oper.semAt_some

def castL (l : List Nat) : List Int := l.map (fun (n : Nat) => (n : Int))
theorem castL_snoc (l : List Nat) (x : Nat) : castL (l ++ [x]) = castL l ++ [(x : Int)] := by simp [castL]
theorem castL_length (l : List Nat) : (castL l).length = l.length := by simp [castL]
/-- A function that holds loops over iterators: its body, by the plain walk. -/
theorem enter_marks {P : Program} {f : FuncId} {fn : Func} {c : Code} {args : Array Value} {w : World} {R : Ending → World → Prop} (hf : P.funcs[f]? = some fn) (hb : fn.body = some c)
  (h : c.wp P (bodyPostM Fence.wide 7 P fn R) { tmps := args ++ Array.replicate (fn.ntmps - args.size) undef, defers := [] } w) : Calls P f args w R :=
 (callsIn_wide (n := 7)).1 (callsIn_of_wp_marks hf hb trivial (wpIn_wide.2 h) rfl)
/-- What the marks leave. -/
def Left (b : Nat) (w w' : World) : Prop := w.heap.size = w'.heap.size ∧ (∀ k, w'.heap[k]? = w.heap[k]? ∨ (b ≤ k ∧ ∃ x, w.heap[k]? = some (.deferred x))) ∧ w'.os = w.os ∧ w'.tape = w.tape ∧ w'.output = w.output
theorem leave_ {P : Program} {fn : Func} {R : Ending → World → Prop} {b : Nat} {a : Act} {w : World} (hm : Marks b w a.defers) (h : ∀ w', Left b w w' → ∃ v, (results fn a.tmps).run P w' = .ok v w' ∧ R (.returned v) w') : bodyPostM Fence.wide 7 P fn R .ret a w :=
 leaves_marks a.defers w hm (fun w' e1 e2 e3 e4 e5 => h w' ⟨e1, e2, e3, e4, e5⟩)
theorem Left.below {b : Nat} {w0 w w' : World} (h : Left b w w') (hb : Below b w0 w) : Below b w0 w' :=
 ⟨h.2.2.1.trans hb.os, h.2.2.2.1.trans hb.tape, h.2.2.2.2.trans hb.output, by rw [← h.1]; exact hb.size, fun k hk => by
  rcases h.2.1 k with e | ⟨hbk, _⟩
  ·exact e.trans (hb.block k hk)
  ·omega⟩
theorem Left.R {α : Type} {d : Kd α} {e b b' : Nat} {ok : Nat → Prop} {v : Value} {xs : List α} {w w' : World} (h : Left b w w') (hR : d.R e w b' ok v xs) : d.R e w' b' ok v xs :=
 Kd.R_mono (Kd.R_move (Kd.R_bound hR) (fun k hk => by
  obtain ⟨_, _, _, q, _, cells, hc⟩ := hk
  rcases h.2.1 k with e | ⟨_, x, hx⟩
  ·exact e
  ·rw [hc] at hx
   cases hx)) (fun _ hk => hk.1)
theorem Left.cell {b : Nat} {w w' : World} (h : Left b w w') {p : Addr} {v : Value} (hc : w.cell? p = some v) : w'.cell? p = some v := by
 obtain ⟨o, ho, hcs⟩ := cells_of_cell hc
 refine (World.cell?_of_block ?_).trans hc
 rcases h.2.1 p.block with e | ⟨_, x, hx⟩
 ·exact e
 ·rw [ho] at hx
  cases hx
  cases hcs
theorem Marks.one {b D : Nat} {w : World} (hD : b ≤ D) (hK : w.heap[D]? = some (.deferred (some []))) : Marks b w [{ target := .collected D, args := #[] }] :=
 ⟨D, rfl, hD, hK, (fun _ _ h => by cases h), trivial⟩
set_option maxHeartbeats 4000000 in
set_option maxRecDepth 1000000 in
theorem list_calls {m : Nat} (hm : m < 65536) {w : World} (ht : Tab w) (h0 : 0 < w.heap.size) :
  Calls Tryd.prog 33 #[.int .u16 m] w fun e w' => ∃ v0_ : Value, e = .returned v0_ ∧ Kd.R (Kd.int .i64) 3 w' w.heap.size (fun _ => True) v0_ (castL (elems m)) ∧ Below w.heap.size w w' := by
 have HT := Aside0.mk ht
 have H0 := Aside0.mk h0
 have HB := Aside0.mk (Below.refl w.heap.size w)
 clear ht h0
 refine enter_marks Tryd.func33 rfl ?_
 simp only [Tryd.ntmps33, List.size_toArray, List.length_cons, List.length_nil, Nat.reduceAdd, Nat.reduceSub, Array.replicate_succ, Array.replicate_zero, List.push_toArray, List.append_toArray, List.nil_append, List.cons_append]
 go_wp2_with (first | ((with_reducible refine gate_dst (N := 5) rfl ?_); refine Kd.R_makeCap (Kd.int .i64) (w0 := w) w.heap.size 3 rfl (N := 5) rfl 26 _ _ rfl 8 rfl rfl Tryd.underlying26 (.int .i64 0) 8 info3 rfl (by decide) (by omega) 0 (ok := fun _ => True) (okp := fun _ => True) rfl (fun _ hk => hk) trivial (by decide) (by decide) (Below.refl _ _) (Nat.le_refl _) ?_; intro v5 w5 ho hb _ _; have HO := Aside0.mk ho; have HB5 := Aside0.mk hb; obtain ⟨A5, c5, e5⟩ := Kd.R_slice ho; subst e5; clear ho hb) | (go_at_call 31; refine (all_calls m _).mono ?_; rintro e w' ⟨rfl, rfl⟩))
 have hsz5 := HB5.out.size
 have hx6 := al_old (o := .cells #[.int .u16 (m : Nat)] 55) (al_new w5 26 #[.slice A5 0 c5])
 have hs6 := (Boxed.new (w5.alloc (.cells #[.slice A5 0 c5] 26)) 55 (.int .u16 (m : Nat))).cell
 rw [World.size_alloc] at hs6
 have HO6 := Aside0.mk (Kd.R_alloc (Kd.R_alloc HO.out (.cells #[.slice A5 0 c5] 26)) (.cells #[.int .u16 (m : Nat)] 55))
 have HB6 := Aside0.mk ((HB5.out.alloc hsz5 (.cells #[.slice A5 0 c5] 26)).alloc (by simp; omega) (.cells #[.int .u16 (m : Nat)] 55))
 generalize (w5.alloc (.cells #[.slice A5 0 c5] 26)).alloc (.cells #[.int .u16 (m : Nat)] 55) = w6 at hx6 hs6 HO6 HB6 ⊢
 obtain ⟨Bx, hBx⟩ : ∃ Bx, w5.heap.size = Bx := ⟨_, rfl⟩
 rw [hBx] at hx6 hs6 hsz5 ⊢
 clear hBx HO HB5
 have hsz6 := HB6.out.size
 refine wp_range hm rfl hs6 (HT.out.below HB6.out H0.out) H0.out hsz6 rfl
  (fun pre W => ∃ v, W.heap[Bx]? = some (.cells #[v] 26 (0, 0)) ∧ Kd.R (Kd.int .i64) 3 W w.heap.size (fun _ => True) v (castL pre) ∧ Below w.heap.size w W)
  (fun s W W' row hs hg hr => by
   obtain ⟨v, h1, h2, h3⟩ := hs
   exact ⟨v, blk_ownFrom h1 hg hr, R_ownFrom h2 hg hr, below_ownFrom h3 (Nat.le_refl _) hsz6 hg hr⟩)
  ⟨_, hx6, HO6.out, HB6.out⟩
  (fun x => { tmps := #[.int .u16 (m : Nat), undef, .slice none 0 0, .pointer (some ⟨Bx, 0, none⟩), .int .i64 (x : Nat), .slice A5 0 c5, .int .u16 (m : Nat), .func (.func 45) #[] #[.pointer (some ⟨Bx + 1, 0, none⟩)], .int .i64 (x : Nat), undef, undef, undef, undef, undef, undef, undef], defers := [] }) ?assign ?body ?done
 case assign =>
  intro l x W K hK
  gi_wp2
  exact hK
 case body =>
  rintro l pre x W hx hpl ⟨v, h1, h2, h3⟩
  have hc : W.cell? ⟨Bx, 0, none⟩ = some v := by rw [cell_blk h1]; rfl
  have hne := Kd.R_ne h2 h1 (by decide)
  have hlen : ((castL pre).length + 1) * 8 ≤ 140737488355328 := by rw [castL_length]; omega
  have hBlt := (Array.getElem?_eq_some_iff.1 h1).1
  have H1 := Aside0.mk h1
  have H2 := Aside0.mk h2
  have H3 := Aside0.mk h3
  clear h1 h2 h3 hpl hx
  refine wpIn_block (regionIn_ (by kernel_rfl) (by rintro ⟨a, w, h⟩; exact h) ?_)
  go_wp2_with (first | ((with_reducible refine gate_builtin (b := .append) (xs := #[.tmp 9, .tmp 11]) rfl ?_); at_builtin; go_must (refine Kd.R_append (Kd.int .i64) (w0 := W) w.heap.size rfl (.tmp 9) (.tmp 11) 26 3 (.int .i64 0) 8 rfl Tryd.underlying26 info3 rfl (by decide) (by omega) v (castL pre) (x : Int) [.int .i64 (x : Nat)] (fun _ => True) (fun _ => False) rfl rfl rfl (fun _ hk => hk.elim) (fun _ _ => trivial) H2.out (Below.refl _ _) (below_size H3.out) hlen ?_; intro v2 w7 ho hb hg hat; have hb7 := (hg.block Bx hBlt hne).trans H1.out; have hc7 : w7.cell? ⟨Bx, 0, none⟩ = some v := (by rw [cell_blk hb7]; rfl); have hf7 : w7.frozen? ⟨Bx, 0, none⟩ = false := blk_frozen hb7 _; have HO7 := Aside0.mk ho; have HG7 := Aside0.mk hg; have HB7 := Aside0.mk hb; have H7 := Aside0.mk hb7; obtain ⟨A7, c7, e7⟩ := Kd.R_slice ho; subst e7; clear ho hb hg hat hb7)))
  exact ⟨keepsFrom_set (keepsFrom_grown H2.out HG7.out) _ _, HB7.out.setCell (p := ⟨Bx, 0, none⟩) hsz5 _, _, (blk_set H7.out 0 _).trans rfl, by rw [castL_snoc]; have := Kd.R_set HO7.out H7.out (by decide) 0 (.slice A7 ((castL pre).length + 1) c7); simpa using this, (H3.out.trans HB7.out).setCell (p := ⟨Bx, 0, none⟩) hsz5 _⟩
 case done =>
  rintro D W hD ⟨v, h1, h2, h3⟩ hK
  have hc : W.cell? ⟨Bx, 0, none⟩ = some v := by rw [cell_blk h1]; rfl
  obtain ⟨A8, c8, e8⟩ := Kd.R_slice h2
  have hlen8 : (castL (elems m)).length ≤ 16 := by rw [castL_length]; exact elems_len m
  subst e8
  have H2 := Aside0.mk h2
  have HB := Aside0.mk h3
  have HL8 := Aside0.mk hlen8
  have HK := Aside0.mk hK
  have HD := Aside0.mk (Nat.le_trans hsz6 hD)
  clear h1 h2 h3 hlen8 hK hD HO6 HB6 hx6 hs6 hsz6
  go_wp2_with (first | ((with_reducible refine gate_dst (N := 13) rfl ?_); refine Kd.R_lit (Kd.int .i64) _ 3 ?hg (N := 13) ?hd (xs := ([] : List Int)) (inner := []) (ok := fun _ => True) (okp := fun _ => True) ?hr ?hp (fun _ hk => hk) trivial (Below.refl _ _) (Nat.le_refl _) (by simp) ?_; (case hd => rfl); (case hg => rfl); (case hr => first | (go_simp; done) | (go_simp; rfl)); (case hp => exact (Reps.none _ _)); intro v131 w9 ho4 hb hg_ hnew_; clear hg_ hnew_; have hc9 : w9.cell? ⟨Bx, 0, none⟩ = some (.slice A8 (castL (elems m)).length c8) := (hb.cell (World.block_lt_of_cell? _ _ hc)).trans hc; have n0_ := Aside0.mk (Kd.R_lower ho4 (below_size HB.out)); have n1_ := Aside0.mk (below_step HB.out hb); have n2_ := Aside0.mk (Kd.R_below H2.out hb); have n3_ := Aside0.mk ((hb.block D (Array.getElem?_eq_some_iff.1 HK.out).1).trans HK.out); clear HB H2 HK hc; have HO := n0_; have HB := n1_; have H2 := n2_; have HK := n3_; clear n0_ n1_ n2_ n3_ hb ho4) | ((with_reducible refine gate_builtin (b := .append) (xs := #[.tmp 13, .tmp 14]) rfl ?_); at_builtin; go_must (refine Kd.R_append_rows (Kd.int .i64) (w0 := w) w.heap.size rfl (.tmp 13) (.tmp 14) 26 3 (.int .i64 0) 8 rfl Tryd.underlying26 info3 rfl (by decide) (by omega) v131 [] (castL (elems m)) _ _ _ (fun _ => True) (fun _ => False) rfl rfl ?aO ?aR (fun _ _ h => h) (fun _ h => h.elim) ?aF ?aB ?aS ?aL ?_; (case aR => exact (Kd.R_reads' H2.out).2.2); (case aB => exact HB.out); (case aF => exact (fun _ _ => trivial)); (case aO => exact HO.out); (case aS => exact (below_size HB.out)); (case aL => have := HL8.out; simp; omega); intro v134 w10 ho hb hg hat; have hne : some D ≠ v131.ownBlock := (fun e => by obtain ⟨cells, ht⟩ := Kd.R_typed HO.out D e.symm; rw [HK.out] at ht; cases ht); have n0_ := Aside0.mk hb; have n1_ := Aside0.mk ho; have n2_ := Aside0.mk ((hg.block D (Array.getElem?_eq_some_iff.1 HK.out).1 hne).trans HK.out); clear HB HO HK hne; have HB := n0_; have HO135 := n1_; have HK := n2_; clear n0_ n1_ n2_ ho hb hg hat)))
  refine leave_ (Marks.one HD.out HK.out) (fun w' hw => ?_)
  exact ⟨_, results_tmp rfl _ _ _, v134, rfl, hw.R HO135.out, hw.below HB.out⟩
end Go.Proofs.YtkafmfabkbmpbaaDoor.G
/-! Sets as numbers, by the words of the printed functions; rows of sets as raw cells. -/
namespace Go.Proofs.YtkafmfabkbmpbaaDoor.G
open Go.RowKit Go.Proofs.YtkafmfabkbmpbaaDoorW.PrintWords Go.Proofs.YtkafmfabkbmpbaaDoorW.PrintLast Go.Proofs.YtkafmfabkbmpbaaDoorW.PrintMore C
set_option linter.unusedVariables false
set_option linter.unusedSimpArgs false

theorem u16_nat {a : Nat} (h : a < 65536) : IntKind.u16.wrap (a : Int) = (a : Int) := by rw [IntKind.wrap_u16]; omega
theorem or16 {a b : Nat} (ha : a < 65536) (hb : b < 65536) : Go.bits .or .u16 (a : Int) (b : Int) = ((a ||| b : Nat) : Int) := by
 have hm' : a % 2 ^ IntKind.u16.bits = a := Nat.mod_eq_of_lt (by show a < 2 ^ 16; omega)
 have hn' : b % 2 ^ IntKind.u16.bits = b := Nat.mod_eq_of_lt (by show b < 2 ^ 16; omega)
 have hx := Nat.or_lt_two_pow (n := 16) (x := a) (y := b) ha hb
 simp only [Go.bits, BitVec.ofInt_natCast, BitVec.toNat_or, BitVec.toNat_ofNat, hm', hn']
 exact u16_nat hx
theorem shl16 {k : Nat} (hk : k < 16) : shl .u16 1 (k : Int) = ((2 ^ k : Nat) : Int) := by
 unfold shl
 have h2 : (2 : Nat) ^ k < 2 ^ 16 := Nat.pow_lt_pow_right (by decide) hk
 have e : min (k : Int).toNat IntKind.u16.bits = k := by
  show min (k : Int).toNat 16 = k
  omega
 rw [e, Int.one_mul, show (2 : Int) ^ k = ((2 ^ k : Nat) : Int) by simp]
 exact u16_nat h2
theorem with_eq {x k : Nat} (hx : x < 65536) (hk : k < 16) : impl_set_with.f (x : Int) (k : Int) = some ((x ||| 2 ^ k : Nat) : Int) := by
 unfold impl_set_with.f
 rw [if_pos (by omega), shl16 hk, or16 hx (Nat.pow_lt_pow_right (by decide) hk : (2 : Nat) ^ k < 2 ^ 16)]
theorem everything_eq {n : Nat} (hn : n ≤ 8) : impl_everything.f (n : Int) = some ((2 ^ n - 1 : Nat) : Int) := by
 unfold impl_everything.f
 have h1 := Nat.two_pow_pos n
 have h2 : 2 ^ n ≤ 2 ^ 8 := Nat.pow_le_pow_right (by decide) hn
 rw [if_pos (by omega), shl16 (by omega)]
 congr 1
 rw [show ((2 ^ n : Nat) : Int) - 1 = ((2 ^ n - 1 : Nat) : Int) by omega]
 exact u16_nat (by omega)
/-- A row of sets, as cells. -/
def cs (l : List Nat) : Array Value := (l.map (fun (x : Nat) => Value.int .u16 (x : Nat))).toArray
theorem cs_get {l : List Nat} {j : Nat} (hj : j < l.length) : (cs l)[j]? = some (.int .u16 (l.getD j 0 : Nat)) := by
 simp [cs, List.getElem?_eq_getElem hj, List.getD_eq_getElem?_getD]
theorem cs_set (l : List Nat) (j v : Nat) : (cs l).setIfInBounds j (.int .u16 (v : Nat)) = cs (l.set j v) := by
 simp [cs, List.map_set]
theorem cs_zero (n : Nat) : madeCells (Value.int .u16 0).cells (n * 1) = cs (List.replicate n 0) := by
 rw [Nat.mul_one]
 apply Array.ext
 ·simp [cs, size_madeCells]
 ·intro i h1 h2
  simp [cs, madeCells, Value.cells, Nat.mod_one]
theorem raw_C {l : List Nat} {W : World} {P : Nat} (h : W.heap[P]? = some (.cells (cs l) 55 (0, 0))) (hl : l.length ≤ 8) : Kd.C (Kd.int .u16) W (some ⟨P, 0, none⟩) l.length (castL l) := by
 refine ⟨by simp [castL], by omega, fun _ => ⟨_, rfl, fun j p hj => ⟨[.int .u16 p], rfl, rfl, fun i u hu => ?_⟩⟩⟩
 have hi : i = 0 := by
  cases i with
  | zero => rfl
  | succ i => simp at hu
 subst hi
 obtain rfl : Value.int .u16 p = u := by simpa using hu
 obtain ⟨hjl, hp⟩ := List.getElem?_eq_some_iff.1 hj
 have hjl' : j < l.length := by simpa [castL] using hjl
 show W.cell? ((⟨P, 0, none⟩ : Addr).add (j * 1 + 0)) = _
 rw [Addr.add_lit, cell_blk h, show 0 + (j * 1 + 0) = j by omega, cs_get hjl']
 have hp' : ((l[j] : Nat) : Int) = p := by simpa [castL] using hp
 rw [← hp', List.getD_eq_getElem?_getD, List.getElem?_eq_getElem hjl']
 rfl
theorem blk_ne {W : World} {a b t t' : Nat} {c c' : Array Value} {f f' : Nat × Nat} (h : W.heap[a]? = some (.cells c t f)) (h' : W.heap[b]? = some (.cells c' t' f')) (ht : t ≠ t') : a ≠ b := by
 rintro rfl
 rw [h] at h'
 injection h' with h'
 injection h' with _ h2 _
 exact ht h2
theorem Left.blk {b : Nat} {w w' : World} (h : Left b w w') {k t : Nat} {c : Array Value} {f : Nat × Nat} (hc : w.heap[k]? = some (.cells c t f)) : w'.heap[k]? = some (.cells c t f) := by
 rcases h.2.1 k with e | ⟨_, x, hx⟩
 ·exact e.trans hc
 ·rw [hc] at hx
  cases hx
theorem al_at {W : World} {k t : Nat} {c : Array Value} (h : k = W.heap.size) : (W.alloc (.cells c t (0, 0))).heap[k]? = some (.cells c t (0, 0)) := by
 subst h
 exact al_new W t c
theorem rd_castL (l : List Nat) (i : Nat) : rd (castL l) (i : Int) = ((l.getD i 0 : Nat) : Int) := by
 rw [rd_nat, castL, List.getD_eq_getElem?_getD, List.getElem?_map, List.getD_eq_getElem?_getD]
 cases l[i]? <;> rfl
/-- What is known of a graph while its sets are computed: raw blocks. -/
structure GSt (b : Nat) (W : World) (Bx Bg Pb Pa : Nat) (cg : Array Value) (bl ab : List Nat) : Prop where
 x : W.heap[Bx]? = some (.cells #[.pointer (some ⟨Bg, 0, none⟩)] 58 (0, 0))
 g : W.heap[Bg]? = some (.cells cg 80 (0, 0))
 bb : W.heap[Pb]? = some (.cells (cs bl) 55 (0, 0))
 aa : W.heap[Pa]? = some (.cells (cs ab) 55 (0, 0))
 ne : Pb ≠ Pa
 lo : b ≤ Bx ∧ b ≤ Bg ∧ b ≤ Pb ∧ b ≤ Pa
theorem GSt.ownFrom {b : Nat} {W W' : World} {Bx Bg Pb Pa : Nat} {cg : Array Value} {bl ab : List Nat} (h : GSt b W Bx Bg Pb Pa cg bl ab) {B : Nat} {row : Option Nat} (hg : W.grownBy W' row) (hr : ∀ r, row = some r → B ≤ r ∧ ∃ o : Obj, W.heap[r]? = some o ∧ o.isCells = false) : GSt b W' Bx Bg Pb Pa cg bl ab :=
 ⟨blk_ownFrom h.x hg hr, blk_ownFrom h.g hg hr, blk_ownFrom h.bb hg hr, blk_ownFrom h.aa hg hr, h.ne, h.lo⟩
theorem GSt.below {b : Nat} {W W' : World} {Bx Bg Pb Pa : Nat} {cg : Array Value} {bl ab : List Nat} (h : GSt b W Bx Bg Pb Pa cg bl ab) (hb : Below W.heap.size W W') : GSt b W' Bx Bg Pb Pa cg bl ab :=
 ⟨(hb.block _ (Array.getElem?_eq_some_iff.1 h.x).1).trans h.x, (hb.block _ (Array.getElem?_eq_some_iff.1 h.g).1).trans h.g, (hb.block _ (Array.getElem?_eq_some_iff.1 h.bb).1).trans h.bb, (hb.block _ (Array.getElem?_eq_some_iff.1 h.aa).1).trans h.aa, h.ne, h.lo⟩
theorem GSt.left {b b' : Nat} {W W' : World} {Bx Bg Pb Pa : Nat} {cg : Array Value} {bl ab : List Nat} (h : GSt b W Bx Bg Pb Pa cg bl ab) (hb : Left b' W W') : GSt b W' Bx Bg Pb Pa cg bl ab :=
 ⟨hb.blk h.x, hb.blk h.g, hb.blk h.bb, hb.blk h.aa, h.ne, h.lo⟩
theorem GSt.setB {b : Nat} {W : World} {Bx Bg Pb Pa : Nat} {cg : Array Value} {bl ab : List Nat} (h : GSt b W Bx Bg Pb Pa cg bl ab) (i v : Nat) : GSt b (W.setCell ⟨Pb, i, none⟩ (.int .u16 (v : Nat))) Bx Bg Pb Pa cg (bl.set i v) ab :=
 ⟨(Below.heap_setCell _ _ _ Bx (blk_ne h.x h.bb (by decide))).trans h.x, (Below.heap_setCell _ _ _ Bg (blk_ne h.g h.bb (by decide))).trans h.g, by rw [← cs_set]; exact blk_set h.bb i _, (Below.heap_setCell _ _ _ Pa (fun e => h.ne e.symm)).trans h.aa, h.ne, h.lo⟩
theorem GSt.setA {b : Nat} {W : World} {Bx Bg Pb Pa : Nat} {cg : Array Value} {bl ab : List Nat} (h : GSt b W Bx Bg Pb Pa cg bl ab) (i v : Nat) : GSt b (W.setCell ⟨Pa, i, none⟩ (.int .u16 (v : Nat))) Bx Bg Pb Pa cg bl (ab.set i v) :=
 ⟨(Below.heap_setCell _ _ _ Bx (blk_ne h.x h.aa (by decide))).trans h.x, (Below.heap_setCell _ _ _ Bg (blk_ne h.g h.aa (by decide))).trans h.g, (Below.heap_setCell _ _ _ Pb h.ne).trans h.bb, by rw [← cs_set]; exact blk_set h.aa i _, h.ne, h.lo⟩
end Go.Proofs.YtkafmfabkbmpbaaDoor.G
