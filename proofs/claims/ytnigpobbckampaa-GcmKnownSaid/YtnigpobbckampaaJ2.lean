/- The document's ciphers of the law's keys. -/
import Derived.Test.YtnigpobbckampaaZ6
import Derived.Test.YtnigpobbckampaaH4
import Derived.Test.YtnigpobbckampaaH8
namespace Go.Proofs.Ytnigpobbckampaa
open Go.RowKit
set_option linter.unusedSimpArgs false
set_option linter.unusedVariables false

theorem newk20_any (v : Value) (n : Nat) (f : Nat → Nat) (w : World) (hv : RdF w v (16 + 16 * (n % 2)) f) :
    Calls Try.prog 20 #[v] w fun e w' => ∃ b, e = .returned (.tuple #[.pointer (some ⟨b, 0, none⟩), .int .i64 0]) ∧ CphR w' b (Kn n) (ksn n f) ∧ Ext w w' := by
  unfold Kn ksn
  rcases Nat.mod_two_eq_zero_or_one n with h | h
  · rw [if_pos h, if_pos h]
    rw [h] at hv
    exact (refnew4_any v f w hv).mono fun e w' ⟨b, h1, h2, _, h3⟩ => ⟨b, h1, h2, h3⟩
  · rw [if_neg (by omega), if_neg (by omega)]
    rw [h] at hv
    exact (refnew8_any v f w hv).mono fun e w' ⟨b, h1, h2, _, h3⟩ => ⟨b, h1, h2, h3⟩
end Go.Proofs.Ytnigpobbckampaa
