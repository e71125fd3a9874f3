/- Contracts of the byte functions of package aes: double, turn, Mul. -/
import Derived.Test.YtnigpobbckampaaK
import Derived.Test.YtnigpobbckampaaM
import Derived.Deep.QuietTactic
import Derived.BigQuiet
namespace Go.Proofs.Ytnigpobbckampaa
set_option linter.unusedSimpArgs false
set_option linter.unusedVariables false
open Go.RowKit

theorem neg_bit (x : Nat) (h : x ≤ 1) : (-(x : Int)) % 256 = ((if x = 0 then 0 else 255 : Nat) : Int) := by
  have : x = 0 ∨ x = 1 := by omega
  rcases this with rfl | rfl <;> simp

set_option maxHeartbeats 400000 in
theorem double_any (a : Nat) (ha : a < 256) (w : World) :
    Calls Try.prog 49 #[.int .u8 a] w fun e w' => e = .returned (.int .u8 ((dbl a : Nat) : Int)) ∧ w = w' := by
  go_enter Try.func49, Try.ntmps49
  go_wp2
  go_ret
  refine ⟨ret_u8 ?_, rfl⟩
  have e1 : ((a : Int) / 128) = ((a / 128 : Nat) : Int) := by omega
  have e2 : ((a : Int) * 2 % 256) = ((a * 2 % 256 : Nat) : Int) := by omega
  rw [e1, e2, neg_bit _ (by omega)]
  have e3 : (27 : Int) = ((27 : Nat) : Int) := rfl
  rw [e3, u8_and_nat _ _ (by omega) (by split <;> omega), u8_xor_nat _ _ (by omega) (Nat.lt_of_le_of_lt Nat.and_le_left (by omega))]
  congr 1
  unfold dbl
  congr 1
  by_cases h : a < 128
  · rw [if_pos h, if_pos (by omega)]; rfl
  · rw [if_neg h, if_neg (by omega)]; rfl

theorem double_ext (a : Nat) (ha : a < 256) (w : World) :
    Calls Try.prog 49 #[.int .u8 a] w fun e w' => e = .returned (.int .u8 ((dbl a : Nat) : Int)) ∧ Ext w w' :=
  (double_any a ha w).mono fun _ _ ⟨he, hw⟩ => ⟨he, hw ▸ Ext.refl _⟩

set_option maxHeartbeats 400000 in
theorem turn_any (a n : Nat) (ha : a < 256) (hn : n ≤ 8) (w : World) :
    Calls Try.prog 68 #[.int .u8 a, .int .i64 n] w fun e w' => e = .returned (.int .u8 ((rot a n : Nat) : Int)) ∧ ∃ n, w' = w.drewN n := by
  go_enter Try.func68, Try.ntmps68
  go_wp2
  go_quiet (fail)
  go_wp2
  go_ret
  refine ⟨ret_u8 ?_, _, rfl⟩
  have e1 : ((a : Int) / 2 ^ (8 - n)) = ((a / 2 ^ (8 - n) : Nat) : Int) := by simp
  have e2 : ((a : Int) * 2 ^ n % 256) = ((a * 2 ^ n % 256 : Nat) : Int) := by simp
  rw [e1, e2, u8_or_nat _ _ (by omega) (Nat.lt_of_le_of_lt (Nat.div_le_self _ _) ha)]
  rfl

theorem turn_int (a : Nat) (n : Int) (ha : a < 256) (h0 : 0 ≤ n) (h8 : n ≤ 8) (w : World) :
    Calls Try.prog 68 #[.int .u8 a, .int .i64 n] w fun e w' => e = .returned (.int .u8 ((rot a n.toNat : Nat) : Int)) ∧ ∃ n, w' = w.drewN n := by
  obtain ⟨m, rfl⟩ : ∃ m : Nat, n = m := ⟨n.toNat, by omega⟩
  exact turn_any a m ha (by omega) w

theorem and_bit (a x : Nat) (ha : a < 256) (hx : x ≤ 1) : bits .and .u8 (a : Int) ((-(x : Int)) % 256) = ((if x = 1 then a else 0 : Nat) : Int) := by
  rw [neg_bit x hx, u8_and_nat _ _ ha (by split <;> omega)]
  have : x = 0 ∨ x = 1 := by omega
  rcases this with rfl | rfl
  · simp
  · simp only [if_neg (show ¬ (1 = 0) by decide), if_true]
    congr 1
    exact (Nat.and_two_pow_sub_one_eq_mod a 8).trans (Nat.mod_eq_of_lt ha)

set_option maxHeartbeats 400000 in
theorem mul_any (a0 b0 : Nat) (ha0 : a0 < 256) (hb0 : b0 < 256) (w : World) :
    Calls Try.prog 26 #[.int .u8 a0, .int .u8 b0] w fun e w' => e = .returned (.int .u8 ((mulP a0 b0 : Nat) : Int)) ∧ w = w' := by
  go_enter Try.func26, Try.ntmps26
  go_wp2
  go_loop [0, 1, 4] (fun va vb vo => ∃ n a b o : Nat, va = .int .u8 a ∧ vb = .int .u8 b ∧ vo = .int .u8 o ∧ a < 256 ∧ b < 256 ∧ o < 256 ∧ b < 2 ^ n ∧ Hid (mulL n a b o = mulP a0 b0)) (fun _ vb _ => (intOf vb).toNat)
  case atStart => exact ⟨8, a0, b0, 0, rfl, rfl, rfl, ha0, hb0, by omega, by omega, rfl⟩
  case round =>
    obtain ⟨n, a, b, o, rfl, rfl, rfl, ha, hb, ho, hbn, H⟩ := hrel
    have HB : Hid (b < 2 ^ n) := hbn
    clear hbn
    go_wp2_with (go_at_call 49; refine (double_any _ ha _).mono ?_; rintro e w' ⟨rfl, rfl⟩)
    · have hb0 : 0 < b := by assumption
      go_round
      case rel =>
        cases n with
        | zero => have := HB.out; simp at this; omega
        | succ n =>
          have h2 : b / 2 < 2 ^ n := by have := HB.out; rw [Nat.pow_succ] at this; omega
          refine ⟨n, dbl a, b / 2, if b % 2 = 1 then o ^^^ a else o, rfl, by go_num, int_u8 ?_, dbl_lt a, by omega, ?_, h2, H.out⟩
          · have e1 : bits BinOp.and IntKind.u8 (b : Int) 1 = ((b % 2 : Nat) : Int) := by
              rw [show (1 : Int) = ((1 : Nat) : Int) from rfl, u8_and_nat _ _ hb (by omega), nat_mask1]
            rw [e1, and_bit a _ ha (by omega)]
            split
            · rw [u8_xor_nat _ _ ho ha]
            · rw [u8_xor_nat _ _ ho (by omega), Nat.xor_zero]
          · split
            · exact xor_lt ho ha
            · exact ho
      case measure => simp [intOf]; omega
    · have hb0 : ¬ 0 < b := by assumption
      go_ret
      have e : b = 0 := by omega
      subst e
      refine ⟨ret_u8 ?_, rfl⟩
      have := H.out
      rw [mulL_zero] at this
      show ((o : Nat) : Int) = _
      rw [this]

end Go.Proofs.Ytnigpobbckampaa
