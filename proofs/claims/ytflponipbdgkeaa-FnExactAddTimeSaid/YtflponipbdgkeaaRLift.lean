/-
  From an argument that reads as data to the lists that the printed functions speak of.
-/
import Derived.Test.YtflponipbdgkeaaG0
import Derived.Deep.Slices
import Derived.Deep.Strs
import Derived.Lib.SmallJoins
import Derived.ChangeArms
import Derived.DataReads
namespace Go.Proofs.Ytflponipbdgkeaa.G
open Go.RowKit Go.Deep Go.Proofs.YtflponipbdgkeaaW.PrintWords

theorem lift_row {α : Type} [Inhabited α] {H : Type} {enc : TypeId × Value → H} {P : Program} {w : World} {held : Bool} {t e : TypeId} {fuel : Nat} {a : Option Addr} {len cap : Nat} {x : DataW H × List MemPlace}
    (d : Kd α) (ht : P.underlying t = some (.slice e)) (hc : P.cellsOf e = d.sz)
    (rd : ∀ (n : Nat) (cs : List Value) (y : DataW H × List MemPlace), DataW.trod enc P w 0 (fun _ => true) held n e cs = some y → ∃ p : α, d.K w p cs)
    (h : DataW.trod enc P w 0 (fun _ => true) held fuel t [.slice a len cap] = some x) : ∃ xs : List α, len = xs.length ∧ xs.length ≤ cap ∧ d.C w a xs.length xs := by
  rcases open_slice ht h with ⟨hcs, _⟩ | ⟨a', len', cap', m, n, D, Pl, hcs, _, hl, hm, hmm, _, hel⟩
  · simp only [List.cons.injEq, Value.slice.injEq, and_true] at hcs
    obtain ⟨rfl, rfl, rfl⟩ := hcs
    exact ⟨[], rfl, Nat.le_refl _, rfl, by simp, fun h => absurd h (by simp)⟩
  · simp only [List.cons.injEq, Value.slice.injEq, and_true] at hcs
    obtain ⟨rfl, rfl, rfl⟩ := hcs
    have hmc : m = cap := by simpa using hmm
    obtain ⟨f, hf⟩ := choose_lt (n := len) (p := fun i (p : α) => ∃ cs', w.cells? 0 (a'.add (i * P.cellsOf e)) (P.cellsOf e) = some cs' ∧ d.K w p cs') (by
      intro i hi
      obtain ⟨cs', h1, h2⟩ := hel i (by omega)
      obtain ⟨p, hp⟩ := rd n cs' _ h2
      exact ⟨p, cs', h1, hp⟩)
    have hlen : ((List.range len).map f).length = len := by simp
    refine ⟨(List.range len).map f, hlen.symm, by rw [hlen]; exact hl, rfl, ?_, fun _ => ⟨a', rfl, fun j p hj => ?_⟩⟩
    · rw [hlen]
      unfold maxLen at hm
      omega
    · obtain ⟨hj1, hj2⟩ := List.getElem?_eq_some_iff.1 hj
      rw [hlen] at hj1
      rw [List.getElem_map, List.getElem_range] at hj2
      obtain ⟨cs', h1, hK⟩ := hf j hj1
      obtain ⟨_, _, hcell⟩ := World.cells?_some h1
      rw [← hj2]
      refine ⟨cs', d.K_len hK, hK, fun i u hu => ?_⟩
      have hi : i < P.cellsOf e := by
        have := (List.getElem?_eq_some_iff.1 hu).1
        have := d.K_len hK
        omega
      have := hcell i hi
      rw [Deep.add_add, hc] at this
      rw [this, hu]
theorem lift_int {H : Type} {enc : TypeId × Value → H} {P : Program} {w : World} {held : Bool} {e : TypeId} {k : IntKind} (he : P.underlying e = some (.int k)) (n : Nat) (cs : List Value) (y : DataW H × List MemPlace)
    (h : DataW.trod enc P w 0 (fun _ => true) held n e cs = some y) : ∃ p : Int, (Kd.int k).K w p cs := by
  obtain ⟨z, rfl, _, _⟩ := DataW.trod_int he h
  exact ⟨z, rfl⟩
theorem C_len {α : Type} {d : Kd α} {w : World} {A : Option Addr} {n : Nat} {xs : List α} (h : d.C w A n xs) : xs.length ≤ 9223372036854775807 := by
  have := h.1
  have := h.2.1
  omega
/-- Each element of a row that is read has its cells. -/
theorem C_each {α : Type} {d : Kd α} {w : World} {A : Option Addr} {n : Nat} {xs : List α} (h : d.C w A n xs) : ∀ x, x ∈ xs → ∃ cs, d.K w x cs := by
  intro x hx
  have hl : 0 < n := by
    have := List.length_pos_of_mem hx
    have := h.1
    omega
  obtain ⟨ad, _, hc⟩ := h.2.2 hl
  obtain ⟨j, hj⟩ := List.getElem?_of_mem hx
  obtain ⟨c, _, hK, _⟩ := hc j x hj
  exact ⟨c, hK⟩
end Go.Proofs.Ytflponipbdgkeaa.G
