/-
 Several texts in one: RLift, RTab, RTask.
-/
import Derived.Test.YtkafmfabkbmpbaaDoorG0
import Derived.Deep.Slices
import Derived.Deep.Strs
import Derived.Lib.SmallJoins
import Derived.ChangeArms
import Derived.DataReads
import Derived.Test.YtkafmfabkbmpbaaDoorRows
import Derived.Test.YtkafmfabkbmpbaaDoorHR
import Derived.Lib.LaidTab
/-! From an argument that reads as data to the lists that the printed functions speak of. -/
namespace Go.Proofs.YtkafmfabkbmpbaaDoor.G
open Go.RowKit Go.Deep Go.Proofs.YtkafmfabkbmpbaaDoorW.PrintWords

theorem lift_row {α : Type} [Inhabited α] {H : Type} {enc : TypeId × Value → H} {P : Program} {w : World} {held : Bool} {t e : TypeId} {fuel : Nat} {a : Option Addr} {len cap : Nat} {x : DataW H × List MemPlace}
  (d : Kd α) (ht : P.underlying t = some (.slice e)) (hc : P.cellsOf e = d.sz)
  (rd : ∀ (n : Nat) (cs : List Value) (y : DataW H × List MemPlace), DataW.trod enc P w 0 (fun _ => true) held n e cs = some y → ∃ p : α, d.K w p cs)
  (h : DataW.trod enc P w 0 (fun _ => true) held fuel t [.slice a len cap] = some x) : ∃ xs : List α, len = xs.length ∧ xs.length ≤ cap ∧ d.C w a xs.length xs := by
 rcases open_slice ht h with ⟨hcs, _⟩ | ⟨a', len', cap', m, n, D, Pl, hcs, _, hl, hm, hmm, _, hel⟩
 ·simp only [List.cons.injEq, Value.slice.injEq, and_true] at hcs
  obtain ⟨rfl, rfl, rfl⟩ := hcs
  exact ⟨[], rfl, Nat.le_refl _, rfl, by simp, fun h => absurd h (by simp)⟩
 ·simp only [List.cons.injEq, Value.slice.injEq, and_true] at hcs
  obtain ⟨rfl, rfl, rfl⟩ := hcs
  have hmc : m = cap := by simpa using hmm
  obtain ⟨f, hf⟩ := choose_lt (n := len) (p := fun i (p : α) => ∃ cs', w.cells? 0 (a'.add (i * P.cellsOf e)) (P.cellsOf e) = some cs' ∧ d.K w p cs') (by
   intro i hi
   obtain ⟨cs', h1, h2⟩ := hel i (by omega)
   obtain ⟨p, hp⟩ := rd n cs' _ h2
   exact ⟨p, cs', h1, hp⟩)
  have hlen : ((List.range len).map f).length = len := by simp
  refine ⟨(List.range len).map f, hlen.symm, by rw [hlen]; exact hl, rfl, ?_, fun _ => ⟨a', rfl, fun j p hj => ?_⟩⟩
  ·rw [hlen]
   unfold maxLen at hm
   omega
  ·obtain ⟨hj1, hj2⟩ := List.getElem?_eq_some_iff.1 hj
   rw [hlen] at hj1
   rw [List.getElem_map, List.getElem_range] at hj2
   obtain ⟨cs', h1, hK⟩ := hf j hj1
   obtain ⟨_, _, hcell⟩ := World.cells?_some h1
   rw [← hj2]
   refine ⟨cs', d.K_len hK, hK, fun i u hu => ?_⟩
   have hi : i < P.cellsOf e := by
    have := (List.getElem?_eq_some_iff.1 hu).1
    have := d.K_len hK
    omega
   have := hcell i hi
   rw [Deep.add_add, hc] at this
   rw [this, hu]
theorem lift_int {H : Type} {enc : TypeId × Value → H} {P : Program} {w : World} {held : Bool} {e : TypeId} {k : IntKind} (he : P.underlying e = some (.int k)) (n : Nat) (cs : List Value) (y : DataW H × List MemPlace)
  (h : DataW.trod enc P w 0 (fun _ => true) held n e cs = some y) : ∃ p : Int, (Kd.int k).K w p cs := by
 obtain ⟨z, rfl, _, _⟩ := DataW.trod_int he h
 exact ⟨z, rfl⟩
theorem C_len {α : Type} {d : Kd α} {w : World} {A : Option Addr} {n : Nat} {xs : List α} (h : d.C w A n xs) : xs.length ≤ 9223372036854775807 := by
 have := h.1
 have := h.2.1
 omega
/-- Each element of a row that is read has its cells. -/
theorem C_each {α : Type} {d : Kd α} {w : World} {A : Option Addr} {n : Nat} {xs : List α} (h : d.C w A n xs) : ∀ x, x ∈ xs → ∃ cs, d.K w x cs := by
 intro x hx
 have hl : 0 < n := by
  have := List.length_pos_of_mem hx
  have := h.1
  omega
 obtain ⟨ad, _, hc⟩ := h.2.2 hl
 obtain ⟨j, hj⟩ := List.getElem?_of_mem hx
 obtain ⟨c, _, hK, _⟩ := hc j x hj
 exact ⟨c, hK⟩
end Go.Proofs.YtkafmfabkbmpbaaDoor.G
/-! From the row's condition to the table of bits.TrailingZeros16. -/
namespace Go.Proofs.YtkafmfabkbmpbaaDoor.G
open Go.RowKit

theorem tabName : Tryd.prog.globalNamed "math/bits.deBruijn32tab" = some 0 := by kernel_rfl
theorem tabType : (Tryd.prog.globals[0]?).map (·.type) = some 88 := by kernel_rfl
theorem tab_of_laid {W : World} (h : laidMet Tryd.prog [("math/bits.deBruijn32tab", Rows.laid_math_bits_deBruijn32tab)] W) : Tab W := by
 have h' : laidMet Tryd.prog (("math/bits.deBruijn32tab", Lib.tabData .u8 (deB.map (fun (n : Nat) => (n : Int)))) :: []) W := h
 have ht := Lib.tabIs_of_head tabName tabType Tryd.underlying88 Tryd.underlying5 (by kernel_rfl) (by kernel_rfl) h'
 intro j hj
 rw [World.var?_cell tabName ht j]
 have hj' : j < deB.length := hj
 simp [List.getElem?_eq_getElem hj', List.getD_eq_getElem?_getD]
end Go.Proofs.YtkafmfabkbmpbaaDoor.G
/-! Arguments that are slices of structs: what an element reads as. -/
namespace Go.Proofs.YtkafmfabkbmpbaaDoor.G
open Go.RowKit Go.Deep Go.Proofs.YtkafmfabkbmpbaaDoorW.PrintWords

theorem cellsOfInt : Tryd.prog.cellsOf 3 = 1 := by kernel_rfl
set_option maxRecDepth 1000000 in
theorem cellsOfInts : Tryd.prog.cellsOf 26 = 1 := by kernel_rfl
set_option maxRecDepth 1000000 in
theorem lift_ints {H : Type} {enc : TypeId × Value → H} {w : World} {held : Bool} {n : Nat} {c : Value} {y : DataW H × List MemPlace} (h : DataW.trod enc Tryd.prog w 0 (fun _ => true) held n 26 [c] = some y) : ∃ (A : Option Addr) (cap : Nat) (xs : List Int), c = .slice A xs.length cap ∧ xs.length ≤ cap ∧ (Kd.int .i64).C w A xs.length xs := by
 rcases open_slice Tryd.underlying26 h with ⟨hcs, _⟩ | ⟨a, len, cap, m, k, D, Pl, hcs, _⟩
 ·obtain rfl : c = .slice none 0 0 := by simpa using hcs
  exact ⟨none, 0, [], rfl, Nat.le_refl _, rfl, by simp, fun h => absurd h (by simp)⟩
 ·obtain rfl : c = .slice (some a) len cap := by simpa using hcs
  obtain ⟨xs, e1, e2, e3⟩ := lift_row (Kd.int .i64) Tryd.underlying26 (by kernel_rfl) (lift_int Tryd.underlying3) h
  subst e1
  exact ⟨_, _, xs, rfl, e2, e3⟩
instance : Inhabited S44 := ⟨z44⟩
set_option maxRecDepth 1000000 in
theorem rdT44 {H : Type} {enc : TypeId × Value → H} {w : World} {held : Bool} (n : Nat) (cs : List Value) (y : DataW H × List MemPlace)
  (h : DataW.trod enc Tryd.prog w 0 (fun _ => true) held n 44 cs = some y) : ∃ p : S44, k44.K w p cs := by
 obtain ⟨y0, y1, y2, y3, m, _, hl, h0, h1, h2, h3⟩ := Go.Joins.trod_struct4 Tryd.underlying44 h
 have hl' : cs.length = 4 := hl.trans (by kernel_rfl)
 match cs, hl' with
 | [c0, c1, c2, c3], _ =>
  simp only [cellsOfInt, cellsOfInts, List.drop, List.take] at h0 h1 h2 h3
  obtain ⟨a0, e0, _⟩ := DataW.trod_int Tryd.underlying3 h0
  obtain ⟨A1, cap1, xs, e1, l1, g1⟩ := lift_ints h1
  obtain ⟨a2, e2, _⟩ := DataW.trod_int Tryd.underlying3 h2
  obtain ⟨a3, e3, _⟩ := DataW.trod_int Tryd.underlying3 h3
  simp only [List.cons.injEq, and_true] at e0 e2 e3
  subst e0 e1 e2 e3
  exact ⟨⟨a0, xs, a2, a3⟩, k44_mk w ⟨a0, xs, a2, a3⟩ l1 g1⟩
theorem okT44 {w : World} {A : Option Addr} {n : Nat} {xs : List S44} (h : k44.C w A n xs) : ∀ t, t ∈ xs → t.f1.length ≤ 9223372036854775807 := by
 intro t ht
 obtain ⟨cs, hK⟩ := C_each h t ht
 obtain ⟨A1, c1, _, _, g1⟩ := k44_open hK
 exact g1.2.1
instance : Inhabited S50 := ⟨z50⟩
theorem cellsOfBool : Tryd.prog.cellsOf 4 = 1 := by kernel_rfl
theorem rdT50 {H : Type} {enc : TypeId × Value → H} {w : World} {held : Bool} (n : Nat) (cs : List Value) (y : DataW H × List MemPlace)
  (h : DataW.trod enc Tryd.prog w 0 (fun _ => true) held n 50 cs = some y) : ∃ p : S50, k50.K w p cs := by
 obtain ⟨y0, y1, y2, m, _, hl, h0, h1, h2⟩ := trod_struct3 Tryd.underlying50 h
 have hl' : cs.length = 3 := hl.trans (by kernel_rfl)
 match cs, hl' with
 | [c0, c1, c2], _ =>
  simp only [cellsOfInt, cellsOfBool, List.drop, List.take] at h0 h1 h2
  obtain ⟨a0, e0, _⟩ := DataW.trod_int Tryd.underlying3 h0
  obtain ⟨a1, e1, _⟩ := DataW.trod_int Tryd.underlying3 h1
  obtain ⟨a2, e2, _⟩ := DataW.trod_bool Tryd.underlying4 h2
  simp only [List.cons.injEq, and_true] at e0 e1 e2
  subst e0 e1 e2
  exact ⟨⟨a0, a1, a2⟩, k50_mk w _⟩
end Go.Proofs.YtkafmfabkbmpbaaDoor.G
