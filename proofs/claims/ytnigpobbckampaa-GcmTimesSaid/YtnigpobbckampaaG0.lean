/- The document's bytes: Mul, Inv, box, Box, walked. -/
import Derived.Test.YtnigpobbckampaaK
import Derived.Test.YtnigpobbckampaaO
import Derived.Test.YtnigpobbckampaaA0
import Derived.Laws.DeepNot64
import Derived.BigQuiet
namespace Go.Proofs.Ytnigpobbckampaa
set_option linter.unusedSimpArgs false
set_option linter.unusedVariables false
open Go.RowKit

theorem i64_xor_nat (a b : Nat) (ha : a < 4611686018427387904) (hb : b < 4611686018427387904) : bits .xor .i64 (a : Int) (b : Int) = ((a ^^^ b : Nat) : Int) := by
  have hx : a ^^^ b < 2 ^ 62 := Nat.xor_lt_two_pow (by omega) (by omega)
  have h : ∀ c : Nat, c < 4611686018427387904 → (BitVec.ofInt 64 (c : Int)).toNat = c := fun c hc => by
    rw [BitVec.ofInt_natCast, BitVec.toNat_ofNat]
    exact Nat.mod_eq_of_lt (by omega)
  show IntKind.i64.wrap ((BitVec.ofInt 64 (a : Int) ^^^ BitVec.ofInt 64 (b : Int)).toNat : Int) = _
  rw [BitVec.toNat_xor, h a ha, h b hb]
  generalize a ^^^ b = c at hx
  simp [IntKind.wrap, IntKind.bits, IntKind.signed]
  omega

theorem bit_test (b k : Nat) (hb : b < 256) : (bits .and .u8 ((b : Int) / 2 ^ k) 1 == 1) = decide (b / 2 ^ k % 2 = 1) := by
  have e1 : ((b : Int) / 2 ^ k) = ((b / 2 ^ k : Nat) : Int) := by simp
  have e2 : (1 : Int) = ((1 : Nat) : Int) := rfl
  have h1 : b / 2 ^ k < 256 := Nat.lt_of_le_of_lt (Nat.div_le_self _ _) hb
  rw [e1]
  conv => lhs; rw [e2]
  rw [u8_and_nat _ _ h1 (by omega), Nat.and_one_is_mod]
  by_cases h : b / 2 ^ k % 2 = 1
  · rw [h]; rfl
  · have h0 : b / 2 ^ k % 2 = 0 := by omega
    rw [h0]; rfl

theorem dbl_ref : (List.range 256).all (fun a => (if 255 < 2 * a then (2 * a) ^^^ 283 else 2 * a) == dbl a) = true := by kernel_rfl

set_option maxRecDepth 100000 in
set_option maxHeartbeats 1000000 in
theorem refmul_any (a b : Nat) (ha : a < 256) (hb : b < 256) (w : World) : Calls Try.prog 27 #[.int .u8 a, .int .u8 b] w fun e w' => e = .returned (.int .u8 ((mulP a b : Nat) : Int)) ∧ w = w' := by
  go_enter Try.func27, Try.ntmps27
  go_wp2
  go_loopw [5, 6, 7] (fun x o i wr => ∃ k X O : Nat, k ≤ 8 ∧ x = .int .i64 X ∧ o = .int .i64 O ∧ i = .int .i64 k ∧ X < 256 ∧ O < 256 ∧ mulL (8 - k) X (b / 2 ^ k) O = mulP a b ∧ wr = w) (fun _ _ i _ => 8 - (intOf i).toNat)
  case atStart => exact ⟨0, a, 0, by omega, rfl, rfl, rfl, ha, by omega, by unfold mulP; simp, rfl⟩
  case round =>
    obtain ⟨k, X, O, hk, rfl, rfl, rfl, hX, hO, hm, rfl⟩ := hrel
    by_cases hlt : k < 8
    · have hlt' : (k : Int) < 8 := by omega
      have hs : mulL (8 - k) X (b / 2 ^ k) O = mulL (8 - (k + 1)) (dbl X) (b / 2 ^ (k + 1)) (if b / 2 ^ k % 2 = 1 then O ^^^ X else O) := by
        rw [show 8 - k = (8 - (k + 1)) + 1 by omega]
        simp only [mulL]
        rw [Nat.div_div_eq_div_mul, ← Nat.pow_succ]
      rw [hs] at hm
      have HM := Lib.hid hm
      have hd := List.all_eq_true.1 dbl_ref X (List.mem_range.2 hX)
      simp only [beq_iff_eq] at hd
      have HD := Lib.hid hd
      clear hm hs hd
      have hbt := bit_test b k hb
      have hd2 := dbl_lt X
      by_cases hc : b / 2 ^ k % 2 = 1
      · have h1 : (bits .and .u8 ((b : Int) / 2 ^ k) 1 == 1) = true := by rw [hbt, hc]; rfl
        rw [if_pos hc] at HM
        have hx : bits .xor .i64 ((O : Nat) : Int) ((X : Nat) : Int) = ((O ^^^ X : Nat) : Int) := i64_xor_nat O X (by omega) (by omega)
        have HXO := xor_lt hO hX
        clear hbt
        by_cases h2 : 255 < 2 * X
        · have h2' : 255 < 2 * (X : Int) := by omega
          rw [if_pos h2] at HD
          have hy : bits .xor .i64 (2 * (X : Int)) 283 = ((2 * X ^^^ 283 : Nat) : Int) := i64_xor_nat (2 * X) 283 (by omega) (by omega)
          have HY := Lib.hid hy
          clear hy
          go_wp2_with fail
          go_roundw
          case rel => exact ⟨k + 1, dbl X, O ^^^ X, by omega, by rw [HY.out, HD.out], rfl, by go_num, hd2, HXO, HM.out, trivial⟩
          case measure => simp [intOf]; omega
        · have h2' : 2 * (X : Int) ≤ 255 := by omega
          rw [if_neg h2] at HD
          go_wp2_with fail
          go_roundw
          case rel => exact ⟨k + 1, dbl X, O ^^^ X, by omega, by rw [← HD.out]; go_num, rfl, by go_num, hd2, HXO, HM.out, trivial⟩
          case measure => simp [intOf]; omega
      · have h1 : (bits .and .u8 ((b : Int) / 2 ^ k) 1 == 1) = false := by rw [hbt]; exact decide_eq_false hc
        rw [if_neg hc] at HM
        clear hbt
        by_cases h2 : 255 < 2 * X
        · have h2' : 255 < 2 * (X : Int) := by omega
          rw [if_pos h2] at HD
          have hy : bits .xor .i64 (2 * (X : Int)) 283 = ((2 * X ^^^ 283 : Nat) : Int) := i64_xor_nat (2 * X) 283 (by omega) (by omega)
          have HY := Lib.hid hy
          clear hy
          go_wp2_with fail
          go_roundw
          case rel => exact ⟨k + 1, dbl X, O, by omega, by rw [HY.out, HD.out], rfl, by go_num, hd2, hO, HM.out, trivial⟩
          case measure => simp [intOf]; omega
        · have h2' : 2 * (X : Int) ≤ 255 := by omega
          rw [if_neg h2] at HD
          go_wp2_with fail
          go_roundw
          case rel => exact ⟨k + 1, dbl X, O, by omega, by rw [← HD.out]; go_num, rfl, by go_num, hd2, hO, HM.out, trivial⟩
          case measure => simp [intOf]; omega
    · obtain rfl : k = 8 := by omega
      have hlt' : ¬ ((8 : Nat) : Int) < 8 := by omega
      have hm' : O = mulP a b := by
        simp only [Nat.sub_self, mulL] at hm
        exact hm
      subst hm'
      clear hm
      have ho : ((mulP a b : Nat) : Int) % 256 = ((mulP a b : Nat) : Int) := by omega
      go_wp2_with fail
      go_ret
      exact ⟨rfl, rfl⟩

theorem refmul_ext (a b : Nat) (ha : a < 256) (hb : b < 256) (w : World) : Calls Try.prog 27 #[.int .u8 a, .int .u8 b] w fun e w' => e = .returned (.int .u8 ((mulP a b : Nat) : Int)) ∧ Ext w w' :=
  (refmul_any a b ha hb w).mono fun _ _ ⟨h1, h2⟩ => ⟨h1, h2 ▸ Ext.refl _⟩

set_option maxRecDepth 100000 in
set_option maxHeartbeats 1000000 in
theorem refinv_any (a : Nat) (ha : a < 256) (w : World) : Calls Try.prog 29 #[.int .u8 a] w fun e w' => e = .returned (.int .u8 ((invP a : Nat) : Int)) ∧ w = w' := by
  have hi0 : invP 0 = 0 := by rw [invP_look 0 (by omega)]; kernel_rfl
  have HI0 := Lib.hid hi0
  clear hi0
  go_enter Try.func29, Try.ntmps29
  go_wp2
  go_loopw [3] (fun i wr => ∃ k : Nat, 1 ≤ k ∧ k ≤ 256 ∧ i = .int .i64 k ∧ (∀ j, 1 ≤ j → j < k → mulP a j ≠ 1) ∧ wr = w) (fun i _ => 256 - (intOf i).toNat)
  case atStart => exact ⟨1, by omega, by omega, rfl, fun j h1 h2 => by omega, rfl⟩
  case round =>
    obtain ⟨k, h1k, hk, rfl, hno, rfl⟩ := hrel
    have HN := Lib.hid hno
    clear hno
    by_cases hlt : k < 256
    · have hlt' : (k : Int) < 256 := by omega
      have hkm : (k : Int) % 256 = (k : Int) := by omega
      go_wp2_with fail
      refine (refmul_any a k ha hlt _).mono ?_
      rintro e w1 ⟨rfl, rfl⟩
      by_cases hm : mulP a k = 1
      · have HU := Lib.hid (inv_unique a k ha hlt hm)
        have hm' : (((mulP a k : Nat) : Int) == 1) = true := by rw [hm]; rfl
        clear hm
        go_wp2_with fail
        go_ret
        exact ⟨by rw [← HU.out]; rfl, rfl⟩
      · have hm' : (((mulP a k : Nat) : Int) == 1) = false := beq_eq_false_iff_ne.2 (by omega)
        have HM := Lib.hid hm
        clear hm
        go_wp2_with fail
        go_roundw
        case rel =>
          refine ⟨k + 1, by omega, by omega, by go_num, fun j h1 h2 => ?_, trivial⟩
          by_cases hj : j = k
          · rw [hj]; exact HM.out
          · exact HN.out j h1 (by omega)
        case measure => simp [intOf]; omega
    · obtain rfl : k = 256 := by omega
      have hlt' : ¬ ((256 : Nat) : Int) < 256 := by omega
      have ha0 : a = 0 := by
        refine Classical.byContradiction fun h0 => ?_
        have hi := mulP_inv a ha h0
        have hne : invP a ≠ 0 := fun he => by rw [he, mulP_zero a ha] at hi; cases hi
        exact HN.out (invP a) (by omega) (invP_lt a) hi
      subst ha0
      go_wp2_with fail
      go_ret
      exact ⟨by rw [HI0.out]; rfl, rfl⟩

/-- The box's sum after i turns. -/
def boxQ (y : Nat) : Nat → Nat
  | 0 => y ^^^ 99
  | i + 1 => boxQ y i ^^^ rot y (i + 1)
theorem boxQ_lt (y : Nat) (hy : y < 256) : ∀ i, boxQ y i < 256
  | 0 => xor_lt hy (by omega)
  | i + 1 => xor_lt (boxQ_lt y hy i) (rot_lt _ _ hy)
theorem boxQ_four (y : Nat) : boxQ y 4 = boxA y := by
  simp only [boxQ, boxA]
  ac_rfl

set_option maxRecDepth 100000 in
set_option maxHeartbeats 1000000 in
theorem refbox_any (y : Nat) (hy : y < 256) (w : World) : Calls Try.prog 56 #[.int .u8 y] w fun e w' => e = .returned (.int .u8 ((boxA y : Nat) : Int)) ∧ Ext w w' := by
  go_enter Try.func56, Try.ntmps56
  have h99 : bits .xor .u8 ((y : Nat) : Int) 99 = ((boxQ y 0 : Nat) : Int) := u8_xor_nat y 99 hy (by omega)
  go_wp2
  go_loopw [3, 4] (fun o i wr => ∃ k : Nat, 1 ≤ k ∧ k ≤ 5 ∧ o = .int .u8 ((boxQ y (k - 1) : Nat) : Int) ∧ i = .int .i64 k ∧ Ext w wr) (fun _ i _ => 5 - (intOf i).toNat)
  case atStart => exact ⟨1, by omega, by omega, rfl, rfl, Ext.refl _⟩
  case round =>
    clear h99
    obtain ⟨k, h1k, hk, rfl, rfl, hx⟩ := hrel
    by_cases hlt : k < 5
    · have hlt' : (k : Int) < 5 := by omega
      go_wp2_with fail
      go_quiet (fail)
      have hor : bits .or .u8 ((y : Int) * 2 ^ k % 256) ((y : Int) / 2 ^ (8 - k)) = ((rot y k : Nat) : Int) := by
        have e1 : ((y : Int) / 2 ^ (8 - k)) = ((y / 2 ^ (8 - k) : Nat) : Int) := by simp
        have e2 : ((y : Int) * 2 ^ k % 256) = ((y * 2 ^ k % 256 : Nat) : Int) := by simp
        rw [e1, e2, u8_or_nat _ _ (by omega) (Nat.lt_of_le_of_lt (Nat.div_le_self _ _) hy)]
        rfl
      have hq : boxQ y (k - 1) ^^^ rot y k = boxQ y k := by
        obtain ⟨m, rfl⟩ : ∃ m, k = m + 1 := ⟨k - 1, by omega⟩
        rfl
      rw [hor, u8_xor_nat _ _ (boxQ_lt y hy _) (rot_lt _ _ hy), hq]
      clear hor hq
      go_wp2_with fail
      go_roundw
      case rel => exact ⟨k + 1, by omega, by omega, rfl, by go_num, hx.trans (Ext.drewN _ _)⟩
      case measure => simp [intOf]; omega
    · obtain rfl : k = 5 := by omega
      have hlt' : ¬ ((5 : Nat) : Int) < 5 := by omega
      go_wp2_with fail
      go_ret
      exact ⟨by rw [← boxQ_four]; rfl, hx⟩

set_option maxRecDepth 100000 in
set_option maxHeartbeats 1000000 in
theorem refBox_any (a : Nat) (ha : a < 256) (w : World) : Calls Try.prog 31 #[.int .u8 a] w fun e w' => e = .returned (.int .u8 ((boxP a : Nat) : Int)) ∧ Ext w w' := by
  go_enter Try.func31, Try.ntmps31
  go_wp2_with fail
  refine (refinv_any a ha _).mono ?_
  rintro e w1 ⟨rfl, rfl⟩
  go_wp2_with fail
  refine (refbox_any _ (invP_lt a) _).mono ?_
  rintro e w2 ⟨rfl, hx⟩
  go_wp2_with fail
  go_ret
  exact ⟨rfl, hx⟩

theorem refinv_ext (a : Nat) (ha : a < 256) (w : World) : Calls Try.prog 29 #[.int .u8 a] w fun e w' => e = .returned (.int .u8 ((invP a : Nat) : Int)) ∧ Ext w w' :=
  (refinv_any a ha w).mono fun _ _ ⟨h1, h2⟩ => ⟨h1, h2 ▸ Ext.refl _⟩

end Go.Proofs.Ytnigpobbckampaa
