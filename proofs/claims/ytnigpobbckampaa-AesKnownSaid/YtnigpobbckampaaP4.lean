/- AesBytes, walked. -/
import Derived.Test.YtnigpobbckampaaW0
import Derived.Test.YtnigpobbckampaaG0
namespace Go.Proofs.Ytnigpobbckampaa
set_option linter.unusedSimpArgs false
set_option linter.unusedVariables false
open Go.RowKit

set_option maxRecDepth 100000 in
set_option maxHeartbeats 1000000 in
theorem bytes_any (a b : Nat) (ha : a < 256) (hb : b < 256) (w : World) : Calls Try.prog 4 #[.int .u8 a, .int .u8 b] w fun e w' => e = .returned (.bool true) ∧ Ext w w' := by
  go_enter Try.func4, Try.ntmps4
  go_wp2_with fail
  refine (mul_ext a b ha hb _).mono ?_
  rintro e w1 ⟨rfl, hx1⟩
  go_wp2_with fail
  refine (refmul_ext a b ha hb _).mono ?_
  rintro e w2 ⟨rfl, hx2⟩
  go_wp2_with fail
  refine (inv_any a ha _).mono ?_
  rintro e w3 ⟨rfl, hx3⟩
  go_wp2_with fail
  refine (refinv_ext a ha _).mono ?_
  rintro e w4 ⟨rfl, hx4⟩
  go_wp2_with fail
  refine (box_any a ha _).mono ?_
  rintro e w5 ⟨rfl, hx5⟩
  go_wp2_with fail
  refine (refBox_any a ha _).mono ?_
  rintro e w6 ⟨rfl, hx6⟩
  go_wp2_with fail
  refine (works_any _).mono ?_
  rintro e w7 ⟨rfl, hx7⟩
  go_wp2_with fail
  go_ret
  exact ⟨rfl, (((((hx1.trans hx2).trans hx3).trans hx4).trans hx5).trans hx6).trans hx7⟩

end Go.Proofs.Ytnigpobbckampaa
