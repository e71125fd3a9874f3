/- Bring: walked. -/
import Derived.Test.YtnigpobbckampaaK
namespace Go.Proofs.Ytnigpobbckampaa
set_option linter.unusedSimpArgs false
set_option linter.unusedVariables false
open Go.RowKit

theorem tmod_emod (x : Int) (n : Nat) (h0 : 0 < n) : -(n : Int) < x.tmod n ∧ x.tmod n < n ∧ (x.tmod n) % n = x % n := by
  have hn : (0 : Int) < n := by omega
  refine ⟨Int.lt_tmod_of_pos x hn, Int.tmod_lt_of_pos x hn, ?_⟩
  have h := Int.mul_tdiv_add_tmod x n
  conv => rhs; rw [← h]
  rw [Int.mul_add_emod_self_left]

set_option maxRecDepth 100000 in
set_option maxHeartbeats 1000000 in
theorem bring_any (x : Int) (n : Nat) (h0 : 0 < n) (hn : n ≤ 1000) (w : World) :
    Calls Try.prog 35 #[.int .i64 x, .int .i64 n] w fun e w' => e = .returned (.int .i64 (((x % (n : Int)).toNat : Nat) : Int)) ∧ w = w' := by
  obtain ⟨h1, h2, h3⟩ := tmod_emod x n h0
  have hm0 : 0 ≤ x % (n : Int) := Int.emod_nonneg _ (by omega)
  have hm1 : x % (n : Int) < n := Int.emod_lt_of_pos _ (by omega)
  go_enter Try.func35, Try.ntmps35
  go_wp2
  · go_ret
    have h4 : x.tmod n < 0 := by assumption
    have h5 : (x.tmod n + n) % n = x.tmod n + n := Int.emod_eq_of_lt (by omega) (by omega)
    rw [Int.add_emod_right, h3] at h5
    have h6 : (((x % (n : Int)).toNat : Nat) : Int) = x.tmod n + n := by omega
    exact ⟨by rw [h6]; rfl, rfl⟩
  · go_ret
    have h4 : 0 ≤ x.tmod n := by assumption
    have h5 : (x.tmod n) % n = x.tmod n := Int.emod_eq_of_lt (by omega) (by omega)
    rw [h3] at h5
    have h6 : (((x % (n : Int)).toNat : Nat) : Int) = x.tmod n := by omega
    exact ⟨by rw [h6]; rfl, rfl⟩

end Go.Proofs.Ytnigpobbckampaa
