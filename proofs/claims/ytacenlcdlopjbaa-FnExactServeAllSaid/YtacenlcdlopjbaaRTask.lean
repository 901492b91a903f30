/-
  Arguments that are slices of structs: what an element reads as.
-/
import Derived.Test.YtacenlcdlopjbaaRLift
namespace Go.Proofs.Ytacenlcdlopjbaa.G
open Go.RowKit Go.Deep Go.Proofs.YtacenlcdlopjbaaW.PrintWords

theorem cellsOfInt : Try.prog.cellsOf 3 = 1 := by kernel_rfl
instance : Inhabited S49 := ⟨z49⟩
theorem rdT49 {H : Type} {enc : TypeId × Value → H} {w : World} {held : Bool} (n : Nat) (cs : List Value) (y : DataW H × List MemPlace)
    (h : DataW.trod enc Try.prog w 0 (fun _ => true) held n 49 cs = some y) : ∃ p : S49, k49.K w p cs := by
  obtain ⟨y0, y1, y2, m, _, hl, h0, h1, h2⟩ := trod_struct3 Try.underlying49 h
  have hl' : cs.length = 3 := hl.trans (by kernel_rfl)
  match cs, hl' with
  | [c0, c1, c2], _ =>
    simp only [cellsOfInt, List.drop, List.take] at h0 h1 h2
    obtain ⟨a0, e0, _⟩ := DataW.trod_int Try.underlying3 h0
    obtain ⟨a1, e1, _⟩ := DataW.trod_int Try.underlying3 h1
    obtain ⟨a2, e2, _⟩ := DataW.trod_int Try.underlying3 h2
    simp only [List.cons.injEq, and_true] at e0 e1 e2
    subst e0 e1 e2
    exact ⟨⟨a0, a1, a2⟩, k49_mk w _⟩
end Go.Proofs.Ytacenlcdlopjbaa.G
