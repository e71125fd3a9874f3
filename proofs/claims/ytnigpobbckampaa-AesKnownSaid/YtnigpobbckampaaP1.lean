/- AesField, walked. -/
import Derived.Test.YtnigpobbckampaaW0
import Derived.Test.YtnigpobbckampaaO
namespace Go.Proofs.Ytnigpobbckampaa
set_option linter.unusedSimpArgs false
set_option linter.unusedVariables false
open Go.RowKit

set_option maxRecDepth 100000 in
set_option maxHeartbeats 1000000 in
theorem field_any (a b c : Nat) (ha : a < 256) (hb : b < 256) (hc : c < 256) (w : World) : Calls Try.prog 5 #[.int .u8 a, .int .u8 b, .int .u8 c] w fun e w' => e = .returned (.bool true) ∧ Ext w w' := by
  have e1 := Lib.hid (mulP_comm b a hb ha)
  have e2 := Lib.hid (mulP_assoc a b c ha hb hc)
  have e3 := Lib.hid (mulP_right a b c)
  have e4 := Lib.hid (mulP_one a ha)
  have e5 := Lib.hid (mulP_zero a ha)
  have hab := mulP_lt a b ha
  have hbc := mulP_lt b c hb
  have hac := mulP_lt a c ha
  go_enter Try.func5, Try.ntmps5
  go_wp2_with fail
  refine (mul_ext a b ha hb _).mono ?_
  rintro e w1 ⟨rfl, hx1⟩
  go_wp2_with fail
  refine (mul_ext b a hb ha _).mono ?_
  rintro e w2 ⟨rfl, hx2⟩
  rw [e1.out]
  go_wp2_with fail
  refine (mul_ext (mulP a b) c hab hc _).mono ?_
  rintro e w3 ⟨rfl, hx3⟩
  rw [e2.out]
  go_wp2_with fail
  refine (mul_ext b c hb hc _).mono ?_
  rintro e w4 ⟨rfl, hx4⟩
  go_wp2_with fail
  refine (mul_ext a (mulP b c) ha hbc _).mono ?_
  rintro e w5 ⟨rfl, hx5⟩
  go_wp2_with fail
  rw [u8_xor_nat _ _ hb hc]
  refine (mul_ext a (b ^^^ c) ha (xor_lt hb hc) _).mono ?_
  rintro e w6 ⟨rfl, hx6⟩
  rw [e3.out]
  go_wp2_with fail
  refine (mul_ext a c ha hc _).mono ?_
  rintro e w7 ⟨rfl, hx7⟩
  have hX := u8_xor_nat _ _ hab hac
  go_wp2_with fail
  refine (mul_ext a 1 ha (by omega) _).mono ?_
  rintro e w8 ⟨rfl, hx8⟩
  rw [e4.out]
  go_wp2_with fail
  refine (mul_ext a 0 ha (by omega) _).mono ?_
  rintro e w9 ⟨rfl, hx9⟩
  rw [e5.out]
  clear hX
  have hX := Lib.hid ((((((((hx1.trans hx2).trans hx3).trans hx4).trans hx5).trans hx6).trans hx7).trans hx8).trans hx9)
  clear hx1 hx2 hx3 hx4 hx5 hx6 hx7 hx8 hx9
  by_cases h0 : a = 0
  · have h0' : ¬ ((a : Nat) : Int) ≠ 0 := by omega
    go_wp2_with fail
    refine (works_any _).mono ?_
    rintro e w10 ⟨rfl, hx10⟩
    go_wp2_with fail
    go_ret
    exact ⟨rfl, hX.out.trans hx10⟩
  · have h0' : ((a : Nat) : Int) ≠ 0 := by omega
    have e6 := Lib.hid (mulP_inv a ha h0)
    have e7 := Lib.hid (invP_invP a ha)
    have hz : (((mulP a b : Nat) : Int) == 0) = (((b : Nat) : Int) == 0) := by
      have h := mulP_zero_iff a b ha hb h0
      by_cases hb0 : b = 0
      · rw [h.2 hb0, hb0]
      · have h1 : mulP a b ≠ 0 := fun hh => hb0 (h.1 hh)
        rw [beq_eq_false_iff_ne.2 (by omega), beq_eq_false_iff_ne.2 (by omega)]
    have hi := invP_lt a
    go_wp2_with fail
    refine (inv_any a ha _).mono ?_
    rintro e w10 ⟨rfl, hx10⟩
    go_wp2_with fail
    refine (mul_ext a (invP a) ha hi _).mono ?_
    rintro e w11 ⟨rfl, hx11⟩
    rw [e6.out]
    go_wp2_with fail
    refine (inv_any a ha _).mono ?_
    rintro e w12 ⟨rfl, hx12⟩
    go_wp2_with fail
    refine (inv_any (invP a) hi _).mono ?_
    rintro e w13 ⟨rfl, hx13⟩
    rw [e7.out]
    go_wp2_with fail
    refine (works_any _).mono ?_
    rintro e w14 ⟨rfl, hx14⟩
    go_wp2_with fail
    go_ret
    exact ⟨rfl, ((((hX.out.trans hx10).trans hx11).trans hx12).trans hx13).trans hx14⟩

end Go.Proofs.Ytnigpobbckampaa
