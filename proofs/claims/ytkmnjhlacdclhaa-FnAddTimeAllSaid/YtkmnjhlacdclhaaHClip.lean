/-
  slices.Clip of ints by hand (a slice expression of three indexes).
-/
import Derived.Test.YtkmnjhlacdclhaaQOk
import Derived.Test.YtkmnjhlacdclhaaG0
namespace Go.Proofs.Ytkmnjhlacdclhaa.G
open Go.RowKit Go.Proofs.YtkmnjhlacdclhaaW.PrintWords
set_option maxHeartbeats 4000000 in
set_option maxRecDepth 100000 in
theorem clip_calls (ad : Addr) (n c : Nat) (hc : n ≤ c) (w : World) :
    Calls Try.prog 28 #[.slice (some ad) n c] w fun e w' => e = .returned (.slice (some ad) n n) ∧ w' = w := by
  have h1 : ¬ (n : Int) < 0 := by omega
  have h2 : ¬ (c : Int) < (n : Int) := by omega
  go_enter Try.func28, Try.ntmps28
  go_wp2
  go_ret
  exact ⟨by simp, rfl⟩
end Go.Proofs.Ytkmnjhlacdclhaa.G
