/- Blocks as numbers of 128 bits, their products: plain. -/
import Derived.Test.YtnigpobbckampaaO
namespace Go.Proofs.Ytnigpobbckampaa
set_option linter.unusedSimpArgs false
set_option linter.unusedVariables false

def fold128 : Nat := 299076299051606071403356588563077529600
def nx (X : Nat) : Nat := X / 2 ^^^ (if X % 2 = 1 then fold128 else 0)
def mx (X : Nat) : Nat → Nat
  | 0 => X
  | k + 1 => nx (mx X k)
def acc (X Y : Nat) : Nat → Nat
  | 0 => 0
  | k + 1 => acc X Y k ^^^ (if Y.testBit (127 - k) then mx X k else 0)
def tms (X Y : Nat) : Nat := acc X Y 128

theorem nx_lt {X : Nat} (h : X < 2 ^ 128) : nx X < 2 ^ 128 := by
  refine Nat.xor_lt_two_pow (by omega) ?_
  unfold fold128
  split <;> omega
theorem mx_lt {X : Nat} (h : X < 2 ^ 128) : ∀ k, mx X k < 2 ^ 128
  | 0 => h
  | k + 1 => nx_lt (mx_lt h k)
theorem acc_lt {X : Nat} (Y : Nat) (h : X < 2 ^ 128) : ∀ k, acc X Y k < 2 ^ 128
  | 0 => by simp [acc]
  | k + 1 => by
    refine Nat.xor_lt_two_pow (acc_lt Y h k) ?_
    split
    · exact mx_lt h k
    · omega
theorem tms_lt {X : Nat} (Y : Nat) (h : X < 2 ^ 128) : tms X Y < 2 ^ 128 := acc_lt Y h 128

theorem x4 (a b c d : Nat) : (a ^^^ b) ^^^ (c ^^^ d) = (a ^^^ c) ^^^ (b ^^^ d) := by
  rw [Nat.xor_assoc, Nat.xor_assoc, ← Nat.xor_assoc b c d, ← Nat.xor_assoc c b d, Nat.xor_comm b c]
theorem nx_xor (X Z : Nat) : nx (X ^^^ Z) = nx X ^^^ nx Z := by
  unfold nx
  have h : (X ^^^ Z) % 2 = (X + Z) % 2 := by
    have h1 : (X ^^^ Z) % 2 = (X % 2) ^^^ (Z % 2) := by
      apply Nat.eq_of_testBit_eq
      intro i
      have e : (2 : Nat) = 2 ^ 1 := rfl
      rw [e]
      simp only [Nat.testBit_mod_two_pow, Nat.testBit_xor]
      cases decide (i < 1) <;> simp
    rw [h1]
    rcases Nat.mod_two_eq_zero_or_one X with hx | hx <;> rcases Nat.mod_two_eq_zero_or_one Z with hz | hz <;> rw [hx, hz] <;> simp <;> omega
  have hd : (X ^^^ Z) / 2 = X / 2 ^^^ Z / 2 := by
    have e : (2 : Nat) = 2 ^ 1 := rfl
    apply Nat.eq_of_testBit_eq
    intro i
    rw [e]
    simp only [Nat.testBit_div_two_pow, Nat.testBit_xor]
  rw [h, hd, x4]
  congr 1
  rcases Nat.mod_two_eq_zero_or_one X with hx | hx <;> rcases Nat.mod_two_eq_zero_or_one Z with hz | hz
  · simp [hx, hz, show (X + Z) % 2 = 0 by omega]
  · simp [hx, hz, show (X + Z) % 2 = 1 by omega]
  · simp [hx, hz, show (X + Z) % 2 = 1 by omega]
  · simp [hx, hz, show (X + Z) % 2 = 0 by omega]
theorem nx_zero : nx 0 = 0 := rfl
theorem mx_xor (X Z : Nat) : ∀ k, mx (X ^^^ Z) k = mx X k ^^^ mx Z k
  | 0 => rfl
  | k + 1 => by simp only [mx, mx_xor X Z k, nx_xor]
theorem acc_left (X Z Y : Nat) : ∀ k, acc (X ^^^ Z) Y k = acc X Y k ^^^ acc Z Y k
  | 0 => by simp [acc, nx_zero]
  | k + 1 => by
    simp only [acc, acc_left X Z Y k, mx_xor]
    rw [x4]
    congr 1
    split <;> simp
theorem acc_right (X Y Z : Nat) : ∀ k, acc X (Y ^^^ Z) k = acc X Y k ^^^ acc X Z k
  | 0 => by simp [acc, nx_zero]
  | k + 1 => by
    simp only [acc, acc_right X Y Z k, Nat.testBit_xor]
    rw [x4]
    congr 1
    cases Y.testBit (127 - k) <;> cases Z.testBit (127 - k) <;> simp
theorem tms_left (X Z Y : Nat) : tms (X ^^^ Z) Y = tms X Y ^^^ tms Z Y := acc_left X Z Y 128
theorem tms_right (X Y Z : Nat) : tms X (Y ^^^ Z) = tms X Y ^^^ tms X Z := acc_right X Y Z 128
theorem mx_nx (X : Nat) : ∀ k, mx (nx X) k = nx (mx X k)
  | 0 => rfl
  | k + 1 => by simp only [mx, mx_nx X k]
theorem mx_add (X a : Nat) : ∀ b, mx (mx X a) b = mx X (a + b)
  | 0 => rfl
  | b + 1 => by
    show nx (mx (mx X a) b) = nx (mx X (a + b))
    rw [mx_add X a b]
theorem acc_nx (X Y : Nat) : ∀ k, acc (nx X) Y k = nx (acc X Y k)
  | 0 => by simp [acc, nx_zero]
  | k + 1 => by
    simp only [acc, acc_nx X Y k, nx_xor, mx_nx]
    congr 1
    split
    · rfl
    · exact nx_zero.symm
theorem tms_mx (X Y : Nat) : ∀ j, tms (mx X j) Y = mx (tms X Y) j
  | 0 => rfl
  | j + 1 => by
    show tms (nx (mx X j)) Y = nx (mx (tms X Y) j)
    rw [← tms_mx X Y j]
    exact acc_nx _ Y 128
theorem mx_top : ∀ k, k ≤ 127 → mx (2 ^ 127) k = 2 ^ (127 - k)
  | 0, _ => rfl
  | k + 1, h => by
    show nx (mx (2 ^ 127) k) = _
    rw [mx_top k (by omega), show 127 - k = (127 - (k + 1)) + 1 by omega, Nat.pow_succ]
    unfold nx
    rw [Nat.mul_div_cancel _ (by omega), if_neg (by omega), Nat.xor_zero]
theorem acc_basis (X i : Nat) (hi : i ≤ 127) : ∀ k, k ≤ 128 → acc X (2 ^ i) k = if 127 - i < k then mx X (127 - i) else 0
  | 0, _ => by simp [acc]
  | k + 1, hk => by
    simp only [acc, acc_basis X i hi k (by omega), Nat.testBit_two_pow]
    by_cases h : i = 127 - k
    · have e : 127 - i = k := by omega
      rw [if_neg (show ¬ 127 - i < k by omega), if_pos (show 127 - i < k + 1 by omega), e]
      simp [h]
    · by_cases h2 : 127 - i < k
      · rw [if_pos h2, if_pos (show 127 - i < k + 1 by omega)]
        simp [h]
      · rw [if_neg h2, if_neg (show ¬ 127 - i < k + 1 by omega)]
        simp [h]
theorem tms_basis (X i : Nat) (hi : i ≤ 127) : tms X (2 ^ i) = mx X (127 - i) := by
  unfold tms
  rw [acc_basis X i hi 128 (by omega), if_pos (by omega)]
theorem tms_one (X : Nat) : tms X (2 ^ 127) = X := tms_basis X 127 (by omega)
theorem acc_zero (X : Nat) : ∀ k, acc X 0 k = 0
  | 0 => rfl
  | k + 1 => by simp [acc, acc_zero X k]
theorem tms_zero (X : Nat) : tms X 0 = 0 := acc_zero X 128
theorem tms_comm (X Y : Nat) (hX : X < 2 ^ 128) (hY : Y < 2 ^ 128) : tms X Y = tms Y X := by
  refine lin_ext (n := 128) (f := fun a => tms a Y) (g := fun a => tms Y a) (fun x y _ _ => tms_left x y Y) (fun x y _ _ => tms_right Y x y) (fun i hi => ?_) X hX
  refine lin_ext (n := 128) (f := fun b => tms (2 ^ i) b) (g := fun b => tms b (2 ^ i)) (fun x y _ _ => tms_right _ x y) (fun x y _ _ => tms_left x y _) (fun j hj => ?_) Y hY
  show tms (2 ^ i) (2 ^ j) = tms (2 ^ j) (2 ^ i)
  rw [tms_basis _ j (by omega), tms_basis _ i (by omega)]
  have ei : 2 ^ i = mx (2 ^ 127) (127 - i) := by rw [mx_top _ (by omega)]; congr 1; omega
  have ej : 2 ^ j = mx (2 ^ 127) (127 - j) := by rw [mx_top _ (by omega)]; congr 1; omega
  rw [ei, ej, mx_add, mx_add, Nat.add_comm]
theorem one_tms (X : Nat) (hX : X < 2 ^ 128) : tms (2 ^ 127) X = X := by
  rw [tms_comm _ _ (by omega) hX, tms_one]
theorem tms_assoc (X Y Z : Nat) (hX : X < 2 ^ 128) (hY : Y < 2 ^ 128) (hZ : Z < 2 ^ 128) : tms (tms X Y) Z = tms X (tms Y Z) := by
  refine lin_ext (n := 128) (f := fun b => tms (tms X b) Z) (g := fun b => tms X (tms b Z)) (fun x y _ _ => ?_) (fun x y _ _ => ?_) (fun i hi => ?_) Y hY
  · show tms (tms X (x ^^^ y)) Z = _
    rw [tms_right, tms_left]
  · show tms X (tms (x ^^^ y) Z) = _
    rw [tms_left, tms_right]
  · show tms (tms X (2 ^ i)) Z = tms X (tms (2 ^ i) Z)
    have ei : 2 ^ i = mx (2 ^ 127) (127 - i) := by rw [mx_top _ (by omega)]; congr 1; omega
    rw [tms_basis X i (by omega), tms_mx]
    rw [ei, tms_mx, one_tms Z hZ, tms_comm X _ hX (mx_lt hZ _), tms_mx, tms_comm Z X hZ hX]

/-! ### Bytes -/
/-- n bytes as a number, the highest first. -/
def be (x : Nat → Nat) : Nat → Nat
  | 0 => 0
  | k + 1 => be x k * 256 + x k
/-- The j-th byte of 16. -/
def byP (X j : Nat) : Nat := X / 2 ^ (8 * (15 - j)) % 256

theorem be_congr {x y : Nat → Nat} : ∀ n, (∀ j, j < n → x j = y j) → be x n = be y n
  | 0, _ => rfl
  | n + 1, h => by simp only [be, be_congr n (fun j hj => h j (by omega)), h n (by omega)]
theorem be_lt {x : Nat → Nat} : ∀ n, (∀ j, j < n → x j < 256) → be x n < 2 ^ (8 * n)
  | 0, _ => by simp [be]
  | n + 1, h => by
    have h1 := be_lt n (fun j hj => h j (by omega))
    have h2 := h n (by omega)
    rw [show 8 * (n + 1) = 8 * n + 8 by omega, Nat.pow_add]
    simp only [be]
    omega
theorem be_at {x : Nat → Nat} : ∀ n j, (∀ j, j < n → x j < 256) → j < n → be x n / 2 ^ (8 * (n - 1 - j)) % 256 = x j
  | 0, _, _, h => by omega
  | n + 1, j, hx, h => by
    have h2 := hx n (by omega)
    by_cases e : j = n
    · subst e
      rw [show 8 * (j + 1 - 1 - j) = 0 by omega]
      simp only [be, Nat.pow_zero, Nat.div_one]
      omega
    · have := be_at n j (fun j hj => hx j (by omega)) (by omega)
      rw [show 8 * (n + 1 - 1 - j) = 8 + 8 * (n - 1 - j) by omega, Nat.pow_add, ← Nat.div_div_eq_div_mul]
      rw [show be x (n + 1) / 2 ^ 8 = be x n by simp only [be]; omega]
      exact this
theorem byP_be {x : Nat → Nat} (hx : ∀ j, j < 16 → x j < 256) (j : Nat) (h : j < 16) : byP (be x 16) j = x j := be_at 16 j hx h
theorem byP_lt (X j : Nat) : byP X j < 256 := Nat.mod_lt _ (by omega)
theorem be_byP_k (X : Nat) (hX : X < 2 ^ 128) : ∀ k, k ≤ 16 → be (byP X) k = X / 2 ^ (8 * (16 - k))
  | 0, _ => by
    rw [show 8 * (16 - 0) = 128 by omega]
    simp only [be]
    omega
  | k + 1, h => by
    simp only [be, be_byP_k X hX k (by omega), byP]
    rw [show 8 * (16 - (k + 1)) = 8 * (15 - k) by omega, show 8 * (16 - k) = 8 * (15 - k) + 8 by omega, Nat.pow_add, ← Nat.div_div_eq_div_mul]
    omega
theorem be_byP {X : Nat} (hX : X < 2 ^ 128) : be (byP X) 16 = X := by
  rw [be_byP_k X hX 16 (by omega)]
  simp
theorem byP_xor (X Y j : Nat) : byP (X ^^^ Y) j = byP X j ^^^ byP Y j := by
  unfold byP
  rw [show (256 : Nat) = 2 ^ 8 from rfl]
  apply Nat.eq_of_testBit_eq
  intro i
  simp only [Nat.testBit_mod_two_pow, Nat.testBit_div_two_pow, Nat.testBit_xor]
  cases decide (i < 8) <;> simp
theorem be_xor {x y : Nat → Nat} (hx : ∀ j, j < 16 → x j < 256) (hy : ∀ j, j < 16 → y j < 256) : be (fun j => x j ^^^ y j) 16 = be x 16 ^^^ be y 16 := by
  have h1 := be_lt 16 hx
  have h2 := be_lt 16 hy
  rw [← be_byP (X := be x 16 ^^^ be y 16) (Nat.xor_lt_two_pow h1 h2)]
  exact be_congr 16 fun j hj => by rw [byP_xor, byP_be hx j hj, byP_be hy j hj]
theorem be_inj {x y : Nat → Nat} (hx : ∀ j, j < 16 → x j < 256) (hy : ∀ j, j < 16 → y j < 256) (h : be x 16 = be y 16) (j : Nat) (hj : j < 16) : x j = y j := by
  rw [← byP_be hx j hj, ← byP_be hy j hj, h]
theorem be_split (x : Nat → Nat) (m : Nat) : ∀ n, be x (m + n) = be x m * 2 ^ (8 * n) + be (fun j => x (m + j)) n
  | 0 => by simp [be]
  | n + 1 => by
    show be x (m + n) * 256 + x (m + n) = _
    rw [be_split x m n, show 8 * (n + 1) = 8 * n + 8 by omega, Nat.pow_add, show (2 : Nat) ^ 8 = 256 from rfl]
    simp only [be]
    rw [Nat.add_mul, Nat.mul_assoc]
    omega
theorem be_hi {x : Nat → Nat} (hx : ∀ j, j < 16 → x j < 256) : be x 16 / 18446744073709551616 = be x 8 := by
  have h1 := be_split x 8 8
  have h2 := be_lt (x := fun j => x (8 + j)) 8 (fun j hj => hx _ (by omega))
  simp only [Nat.reduceAdd, Nat.reduceMul, Nat.reducePow] at h1 h2
  omega
theorem be_lo {x : Nat → Nat} (hx : ∀ j, j < 16 → x j < 256) : be x 16 % 18446744073709551616 = be (fun j => x (8 + j)) 8 := by
  have h1 := be_split x 8 8
  have h2 := be_lt (x := fun j => x (8 + j)) 8 (fun j hj => hx _ (by omega))
  simp only [Nat.reduceAdd, Nat.reduceMul, Nat.reducePow] at h1 h2
  omega
end Go.Proofs.Ytnigpobbckampaa
