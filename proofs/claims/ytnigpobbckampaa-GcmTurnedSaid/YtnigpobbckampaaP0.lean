/- For the claims: what an argument that fits its type is, as a natural number. -/
import Derived.Test.YtnigpobbckampaaK
namespace Go.Proofs.Ytnigpobbckampaa
set_option linter.unusedSimpArgs false
set_option linter.unusedVariables false

theorem nat_u8 {a : Int} (h : (Lit.int .u8 a).wf = true) : ∃ n : Nat, a = (n : Int) ∧ n < 256 := by
  have h' : 0 ≤ a ∧ a < 256 := by
    simp [Lit.wf] at h
    have h1 : IntKind.u8.min = 0 := by decide
    have h2 : IntKind.u8.max = 255 := by decide
    omega
  exact ⟨a.toNat, by omega, by omega⟩

end Go.Proofs.Ytnigpobbckampaa
