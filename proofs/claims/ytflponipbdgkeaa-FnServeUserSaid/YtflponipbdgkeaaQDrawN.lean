/-
  What the generators of users hand out.
-/
import Derived.Test.YtflponipbdgkeaaQNext
import Derived.Test.YtflponipbdgkeaaG0
import Derived.Test.YtflponipbdgkeaaG6
namespace Go.Proofs.Ytflponipbdgkeaa.G
open Go.RowKit Go.Proofs.YtflponipbdgkeaaW.PrintWords C
set_option linter.unusedVariables false

theorem drawServe (l : List Int) (hw : ∀ x, x ∈ l → (Lit.int .u8 x).wf = true) (k : Nat) (hk : 20 ≤ k) : ∃ us t, spec_DrawServeUser.f k l = some (us, t) ∧ us.length ≤ 6 := by
  unfold spec_DrawServeUser.f
  obtain ⟨b, hb, hr⟩ := newReader_ok l hw
  obtain ⟨⟨us, q⟩, hu, hl, hq0, hq1⟩ := anyUsers_ok hr k 0 hk (by omega) (by omega)
  simp only at hq0 hq1
  obtain ⟨⟨t, q2⟩, ht, _⟩ := one_ok hr k q ([1, 5, 20, 0, 21, 10] : List Int) (by omega) hq0 (by omega) (by simp) (by simp)
  exact ⟨us, t, by simp only [hb, Option.bind_some, hu, ht], hl⟩
end Go.Proofs.Ytflponipbdgkeaa.G
