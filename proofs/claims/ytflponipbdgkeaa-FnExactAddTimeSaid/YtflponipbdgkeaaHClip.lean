/-
  slices.Clip of ints by hand (a slice expression of three indexes).
-/
import Derived.Test.YtflponipbdgkeaaQOk
import Derived.Test.YtflponipbdgkeaaG0
namespace Go.Proofs.Ytflponipbdgkeaa.G
open Go.RowKit Go.Proofs.YtflponipbdgkeaaW.PrintWords
set_option maxHeartbeats 4000000 in
set_option maxRecDepth 100000 in
theorem clip_calls (ad : Addr) (n c : Nat) (hc : n ≤ c) (w : World) :
    Calls Try.prog 32 #[.slice (some ad) n c] w fun e w' => e = .returned (.slice (some ad) n n) ∧ w' = w := by
  have h1 : ¬ (n : Int) < 0 := by omega
  have h2 : ¬ (c : Int) < (n : Int) := by omega
  go_enter Try.func32, Try.ntmps32
  go_wp2
  go_ret
  exact ⟨by simp, rfl⟩
end Go.Proofs.Ytflponipbdgkeaa.G
