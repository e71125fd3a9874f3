/- Blocks as numbers of 128 bits, their products: plain. poly: add, next, word, of, times, block, and gcm.Times, walked. poly: next, word, of, block, walked. poly: times, walked. -/
import Derived.Test.YtnigpobbckampaaN
import Derived.Test.YtnigpobbckampaaK
import Derived.Test.YtnigpobbckampaaA0
import Derived.Test.YtnigpobbckampaaL
import Derived.Deep.DeepCutAuto
import Derived.Laws.Bits64
import Derived.Laws.Bits64b
import Derived.Test.YtnigpobbckampaaE0
namespace Go.Proofs.Ytnigpobbckampaa
set_option linter.unusedSimpArgs false
set_option linter.unusedVariables false

def fold128 : Nat := 299076299051606071403356588563077529600
def nx (X : Nat) : Nat := X / 2 ^^^ (if X % 2 = 1 then fold128 else 0)
def mx (X : Nat) : Nat → Nat
  | 0 => X
  | k + 1 => nx (mx X k)
def acc (X Y : Nat) : Nat → Nat
  | 0 => 0
  | k + 1 => acc X Y k ^^^ (if Y.testBit (127 - k) then mx X k else 0)
def tms (X Y : Nat) : Nat := acc X Y 128

theorem nx_lt {X : Nat} (h : X < 2 ^ 128) : nx X < 2 ^ 128 := by
  refine Nat.xor_lt_two_pow (by omega) ?_
  unfold fold128
  split <;> omega
theorem mx_lt {X : Nat} (h : X < 2 ^ 128) : ∀ k, mx X k < 2 ^ 128
  | 0 => h
  | k + 1 => nx_lt (mx_lt h k)
theorem acc_lt {X : Nat} (Y : Nat) (h : X < 2 ^ 128) : ∀ k, acc X Y k < 2 ^ 128
  | 0 => by simp [acc]
  | k + 1 => by
    refine Nat.xor_lt_two_pow (acc_lt Y h k) ?_
    split
    · exact mx_lt h k
    · omega
theorem tms_lt {X : Nat} (Y : Nat) (h : X < 2 ^ 128) : tms X Y < 2 ^ 128 := acc_lt Y h 128

theorem x4 (a b c d : Nat) : (a ^^^ b) ^^^ (c ^^^ d) = (a ^^^ c) ^^^ (b ^^^ d) := by
  rw [Nat.xor_assoc, Nat.xor_assoc, ← Nat.xor_assoc b c d, ← Nat.xor_assoc c b d, Nat.xor_comm b c]
theorem nx_xor (X Z : Nat) : nx (X ^^^ Z) = nx X ^^^ nx Z := by
  unfold nx
  have h : (X ^^^ Z) % 2 = (X + Z) % 2 := by
    have h1 : (X ^^^ Z) % 2 = (X % 2) ^^^ (Z % 2) := by
      apply Nat.eq_of_testBit_eq
      intro i
      have e : (2 : Nat) = 2 ^ 1 := rfl
      rw [e]
      simp only [Nat.testBit_mod_two_pow, Nat.testBit_xor]
      cases decide (i < 1) <;> simp
    rw [h1]
    rcases Nat.mod_two_eq_zero_or_one X with hx | hx <;> rcases Nat.mod_two_eq_zero_or_one Z with hz | hz <;> rw [hx, hz] <;> simp <;> omega
  have hd : (X ^^^ Z) / 2 = X / 2 ^^^ Z / 2 := by
    have e : (2 : Nat) = 2 ^ 1 := rfl
    apply Nat.eq_of_testBit_eq
    intro i
    rw [e]
    simp only [Nat.testBit_div_two_pow, Nat.testBit_xor]
  rw [h, hd, x4]
  congr 1
  rcases Nat.mod_two_eq_zero_or_one X with hx | hx <;> rcases Nat.mod_two_eq_zero_or_one Z with hz | hz
  · simp [hx, hz, show (X + Z) % 2 = 0 by omega]
  · simp [hx, hz, show (X + Z) % 2 = 1 by omega]
  · simp [hx, hz, show (X + Z) % 2 = 1 by omega]
  · simp [hx, hz, show (X + Z) % 2 = 0 by omega]
theorem nx_zero : nx 0 = 0 := rfl
theorem mx_xor (X Z : Nat) : ∀ k, mx (X ^^^ Z) k = mx X k ^^^ mx Z k
  | 0 => rfl
  | k + 1 => by simp only [mx, mx_xor X Z k, nx_xor]
theorem acc_left (X Z Y : Nat) : ∀ k, acc (X ^^^ Z) Y k = acc X Y k ^^^ acc Z Y k
  | 0 => by simp [acc, nx_zero]
  | k + 1 => by
    simp only [acc, acc_left X Z Y k, mx_xor]
    rw [x4]
    congr 1
    split <;> simp
theorem acc_right (X Y Z : Nat) : ∀ k, acc X (Y ^^^ Z) k = acc X Y k ^^^ acc X Z k
  | 0 => by simp [acc, nx_zero]
  | k + 1 => by
    simp only [acc, acc_right X Y Z k, Nat.testBit_xor]
    rw [x4]
    congr 1
    cases Y.testBit (127 - k) <;> cases Z.testBit (127 - k) <;> simp
theorem tms_left (X Z Y : Nat) : tms (X ^^^ Z) Y = tms X Y ^^^ tms Z Y := acc_left X Z Y 128
theorem tms_right (X Y Z : Nat) : tms X (Y ^^^ Z) = tms X Y ^^^ tms X Z := acc_right X Y Z 128
theorem mx_nx (X : Nat) : ∀ k, mx (nx X) k = nx (mx X k)
  | 0 => rfl
  | k + 1 => by simp only [mx, mx_nx X k]
theorem mx_add (X a : Nat) : ∀ b, mx (mx X a) b = mx X (a + b)
  | 0 => rfl
  | b + 1 => by
    show nx (mx (mx X a) b) = nx (mx X (a + b))
    rw [mx_add X a b]
theorem acc_nx (X Y : Nat) : ∀ k, acc (nx X) Y k = nx (acc X Y k)
  | 0 => by simp [acc, nx_zero]
  | k + 1 => by
    simp only [acc, acc_nx X Y k, nx_xor, mx_nx]
    congr 1
    split
    · rfl
    · exact nx_zero.symm
theorem tms_mx (X Y : Nat) : ∀ j, tms (mx X j) Y = mx (tms X Y) j
  | 0 => rfl
  | j + 1 => by
    show tms (nx (mx X j)) Y = nx (mx (tms X Y) j)
    rw [← tms_mx X Y j]
    exact acc_nx _ Y 128
theorem mx_top : ∀ k, k ≤ 127 → mx (2 ^ 127) k = 2 ^ (127 - k)
  | 0, _ => rfl
  | k + 1, h => by
    show nx (mx (2 ^ 127) k) = _
    rw [mx_top k (by omega), show 127 - k = (127 - (k + 1)) + 1 by omega, Nat.pow_succ]
    unfold nx
    rw [Nat.mul_div_cancel _ (by omega), if_neg (by omega), Nat.xor_zero]
theorem acc_basis (X i : Nat) (hi : i ≤ 127) : ∀ k, k ≤ 128 → acc X (2 ^ i) k = if 127 - i < k then mx X (127 - i) else 0
  | 0, _ => by simp [acc]
  | k + 1, hk => by
    simp only [acc, acc_basis X i hi k (by omega), Nat.testBit_two_pow]
    by_cases h : i = 127 - k
    · have e : 127 - i = k := by omega
      rw [if_neg (show ¬ 127 - i < k by omega), if_pos (show 127 - i < k + 1 by omega), e]
      simp [h]
    · by_cases h2 : 127 - i < k
      · rw [if_pos h2, if_pos (show 127 - i < k + 1 by omega)]
        simp [h]
      · rw [if_neg h2, if_neg (show ¬ 127 - i < k + 1 by omega)]
        simp [h]
theorem tms_basis (X i : Nat) (hi : i ≤ 127) : tms X (2 ^ i) = mx X (127 - i) := by
  unfold tms
  rw [acc_basis X i hi 128 (by omega), if_pos (by omega)]
theorem tms_one (X : Nat) : tms X (2 ^ 127) = X := tms_basis X 127 (by omega)
theorem acc_zero (X : Nat) : ∀ k, acc X 0 k = 0
  | 0 => rfl
  | k + 1 => by simp [acc, acc_zero X k]
theorem tms_zero (X : Nat) : tms X 0 = 0 := acc_zero X 128
theorem tms_comm (X Y : Nat) (hX : X < 2 ^ 128) (hY : Y < 2 ^ 128) : tms X Y = tms Y X := by
  refine lin_ext (n := 128) (f := fun a => tms a Y) (g := fun a => tms Y a) (fun x y _ _ => tms_left x y Y) (fun x y _ _ => tms_right Y x y) (fun i hi => ?_) X hX
  refine lin_ext (n := 128) (f := fun b => tms (2 ^ i) b) (g := fun b => tms b (2 ^ i)) (fun x y _ _ => tms_right _ x y) (fun x y _ _ => tms_left x y _) (fun j hj => ?_) Y hY
  show tms (2 ^ i) (2 ^ j) = tms (2 ^ j) (2 ^ i)
  rw [tms_basis _ j (by omega), tms_basis _ i (by omega)]
  have ei : 2 ^ i = mx (2 ^ 127) (127 - i) := by rw [mx_top _ (by omega)]; congr 1; omega
  have ej : 2 ^ j = mx (2 ^ 127) (127 - j) := by rw [mx_top _ (by omega)]; congr 1; omega
  rw [ei, ej, mx_add, mx_add, Nat.add_comm]
theorem one_tms (X : Nat) (hX : X < 2 ^ 128) : tms (2 ^ 127) X = X := by
  rw [tms_comm _ _ (by omega) hX, tms_one]
theorem tms_assoc (X Y Z : Nat) (hX : X < 2 ^ 128) (hY : Y < 2 ^ 128) (hZ : Z < 2 ^ 128) : tms (tms X Y) Z = tms X (tms Y Z) := by
  refine lin_ext (n := 128) (f := fun b => tms (tms X b) Z) (g := fun b => tms X (tms b Z)) (fun x y _ _ => ?_) (fun x y _ _ => ?_) (fun i hi => ?_) Y hY
  · show tms (tms X (x ^^^ y)) Z = _
    rw [tms_right, tms_left]
  · show tms X (tms (x ^^^ y) Z) = _
    rw [tms_left, tms_right]
  · show tms (tms X (2 ^ i)) Z = tms X (tms (2 ^ i) Z)
    have ei : 2 ^ i = mx (2 ^ 127) (127 - i) := by rw [mx_top _ (by omega)]; congr 1; omega
    rw [tms_basis X i (by omega), tms_mx]
    rw [ei, tms_mx, one_tms Z hZ, tms_comm X _ hX (mx_lt hZ _), tms_mx, tms_comm Z X hZ hX]

/-! ### Bytes -/
/-- n bytes as a number, the highest first. -/
def be (x : Nat → Nat) : Nat → Nat
  | 0 => 0
  | k + 1 => be x k * 256 + x k
/-- The j-th byte of 16. -/
def byP (X j : Nat) : Nat := X / 2 ^ (8 * (15 - j)) % 256

theorem be_congr {x y : Nat → Nat} : ∀ n, (∀ j, j < n → x j = y j) → be x n = be y n
  | 0, _ => rfl
  | n + 1, h => by simp only [be, be_congr n (fun j hj => h j (by omega)), h n (by omega)]
theorem be_lt {x : Nat → Nat} : ∀ n, (∀ j, j < n → x j < 256) → be x n < 2 ^ (8 * n)
  | 0, _ => by simp [be]
  | n + 1, h => by
    have h1 := be_lt n (fun j hj => h j (by omega))
    have h2 := h n (by omega)
    rw [show 8 * (n + 1) = 8 * n + 8 by omega, Nat.pow_add]
    simp only [be]
    omega
theorem be_at {x : Nat → Nat} : ∀ n j, (∀ j, j < n → x j < 256) → j < n → be x n / 2 ^ (8 * (n - 1 - j)) % 256 = x j
  | 0, _, _, h => by omega
  | n + 1, j, hx, h => by
    have h2 := hx n (by omega)
    by_cases e : j = n
    · subst e
      rw [show 8 * (j + 1 - 1 - j) = 0 by omega]
      simp only [be, Nat.pow_zero, Nat.div_one]
      omega
    · have := be_at n j (fun j hj => hx j (by omega)) (by omega)
      rw [show 8 * (n + 1 - 1 - j) = 8 + 8 * (n - 1 - j) by omega, Nat.pow_add, ← Nat.div_div_eq_div_mul]
      rw [show be x (n + 1) / 2 ^ 8 = be x n by simp only [be]; omega]
      exact this
theorem byP_be {x : Nat → Nat} (hx : ∀ j, j < 16 → x j < 256) (j : Nat) (h : j < 16) : byP (be x 16) j = x j := be_at 16 j hx h
theorem byP_lt (X j : Nat) : byP X j < 256 := Nat.mod_lt _ (by omega)
theorem be_byP_k (X : Nat) (hX : X < 2 ^ 128) : ∀ k, k ≤ 16 → be (byP X) k = X / 2 ^ (8 * (16 - k))
  | 0, _ => by
    rw [show 8 * (16 - 0) = 128 by omega]
    simp only [be]
    omega
  | k + 1, h => by
    simp only [be, be_byP_k X hX k (by omega), byP]
    rw [show 8 * (16 - (k + 1)) = 8 * (15 - k) by omega, show 8 * (16 - k) = 8 * (15 - k) + 8 by omega, Nat.pow_add, ← Nat.div_div_eq_div_mul]
    omega
theorem be_byP {X : Nat} (hX : X < 2 ^ 128) : be (byP X) 16 = X := by
  rw [be_byP_k X hX 16 (by omega)]
  simp
theorem byP_xor (X Y j : Nat) : byP (X ^^^ Y) j = byP X j ^^^ byP Y j := by
  unfold byP
  rw [show (256 : Nat) = 2 ^ 8 from rfl]
  apply Nat.eq_of_testBit_eq
  intro i
  simp only [Nat.testBit_mod_two_pow, Nat.testBit_div_two_pow, Nat.testBit_xor]
  cases decide (i < 8) <;> simp
theorem be_xor {x y : Nat → Nat} (hx : ∀ j, j < 16 → x j < 256) (hy : ∀ j, j < 16 → y j < 256) : be (fun j => x j ^^^ y j) 16 = be x 16 ^^^ be y 16 := by
  have h1 := be_lt 16 hx
  have h2 := be_lt 16 hy
  rw [← be_byP (X := be x 16 ^^^ be y 16) (Nat.xor_lt_two_pow h1 h2)]
  exact be_congr 16 fun j hj => by rw [byP_xor, byP_be hx j hj, byP_be hy j hj]
theorem be_inj {x y : Nat → Nat} (hx : ∀ j, j < 16 → x j < 256) (hy : ∀ j, j < 16 → y j < 256) (h : be x 16 = be y 16) (j : Nat) (hj : j < 16) : x j = y j := by
  rw [← byP_be hx j hj, ← byP_be hy j hj, h]
theorem be_split (x : Nat → Nat) (m : Nat) : ∀ n, be x (m + n) = be x m * 2 ^ (8 * n) + be (fun j => x (m + j)) n
  | 0 => by simp [be]
  | n + 1 => by
    show be x (m + n) * 256 + x (m + n) = _
    rw [be_split x m n, show 8 * (n + 1) = 8 * n + 8 by omega, Nat.pow_add, show (2 : Nat) ^ 8 = 256 from rfl]
    simp only [be]
    rw [Nat.add_mul, Nat.mul_assoc]
    omega
theorem be_hi {x : Nat → Nat} (hx : ∀ j, j < 16 → x j < 256) : be x 16 / 18446744073709551616 = be x 8 := by
  have h1 := be_split x 8 8
  have h2 := be_lt (x := fun j => x (8 + j)) 8 (fun j hj => hx _ (by omega))
  simp only [Nat.reduceAdd, Nat.reduceMul, Nat.reducePow] at h1 h2
  omega
theorem be_lo {x : Nat → Nat} (hx : ∀ j, j < 16 → x j < 256) : be x 16 % 18446744073709551616 = be (fun j => x (8 + j)) 8 := by
  have h1 := be_split x 8 8
  have h2 := be_lt (x := fun j => x (8 + j)) 8 (fun j hj => hx _ (by omega))
  simp only [Nat.reduceAdd, Nat.reduceMul, Nat.reducePow] at h1 h2
  omega
end Go.Proofs.Ytnigpobbckampaa
namespace Go.Proofs.Ytnigpobbckampaa
open Go.RowKit
set_option linter.unusedSimpArgs false
set_option linter.unusedVariables false

def pcells (X : Nat) : Array Value := #[.int .u64 ((X / 18446744073709551616 : Nat) : Int), .int .u64 ((X % 18446744073709551616 : Nat) : Int)]
def pv (X : Nat) : Value := .agg (pcells X)
theorem pcells_one (X : Nat) : ∀ v ∈ (pcells X).toList, v.oneCell' = true := by
  intro v hv
  simp [pcells] at hv
  rcases hv with rfl | rfl <;> rfl
theorem pcells_size (X : Nat) : (pcells X).size = 2 := rfl
theorem pcells_all (X : Nat) : (pcells X).extract 0 (0 + 2) = pcells X := rfl
theorem zero85 (w : World) : (zeroValue 85).run Try.prog w = .ok (.agg (pcells 0)) w := by kernel_rfl
theorem agg85 (w : World) : (isAgg 85).run Try.prog w = .ok true w := by kernel_rfl
theorem sz85 (w : World) : (sizeOf 85).run Try.prog w = .ok 2 w := by kernel_rfl
theorem nagg83 (w : World) : (isAgg 83).run Try.prog w = .ok false w := by kernel_rfl
theorem sz83 (w : World) : (sizeOf 83).run Try.prog w = .ok 1 w := by kernel_rfl
theorem Blk.hi {w : World} {g X : Nat} {t : TypeId} (h : Blk w g t (pcells X)) : w.cell? ⟨g, 0, none⟩ = some (.int .u64 ((X / 18446744073709551616 : Nat) : Int)) := h.cell 0
theorem Blk.lo {w : World} {g X : Nat} {t : TypeId} (h : Blk w g t (pcells X)) : w.cell? ⟨g, 1, none⟩ = some (.int .u64 ((X % 18446744073709551616 : Nat) : Int)) := h.cell 1

theorem xor_hi (X Y : Nat) : (X ^^^ Y) / 18446744073709551616 = X / 18446744073709551616 ^^^ Y / 18446744073709551616 := by
  rw [show (18446744073709551616 : Nat) = 2 ^ 64 from rfl]
  apply Nat.eq_of_testBit_eq
  intro i
  simp only [Nat.testBit_div_two_pow, Nat.testBit_xor]
theorem xor_lo (X Y : Nat) : (X ^^^ Y) % 18446744073709551616 = X % 18446744073709551616 ^^^ Y % 18446744073709551616 := by
  rw [show (18446744073709551616 : Nat) = 2 ^ 64 from rfl]
  apply Nat.eq_of_testBit_eq
  intro i
  simp only [Nat.testBit_mod_two_pow, Nat.testBit_xor]
  cases decide (i < 64) <;> simp
theorem hi_lt {X : Nat} (h : X < 2 ^ 128) : X / 18446744073709551616 < 18446744073709551616 := by omega
theorem lo_lt (X : Nat) : X % 18446744073709551616 < 18446744073709551616 := Nat.mod_lt _ (by omega)

theorem add_val (X Y : Nat) (hX : X < 2 ^ 128) (hY : Y < 2 ^ 128) :
    Value.agg #[.int .u64 (bits .xor .u64 ((X / 18446744073709551616 : Nat) : Int) ((Y / 18446744073709551616 : Nat) : Int)), .int .u64 (bits .xor .u64 ((X % 18446744073709551616 : Nat) : Int) ((Y % 18446744073709551616 : Nat) : Int))] = .agg (pcells (X ^^^ Y)) := by
  rw [bits_xor_u64_nat _ _ (hi_lt hX) (hi_lt hY), bits_xor_u64_nat _ _ (lo_lt X) (lo_lt Y), ← xor_hi, ← xor_lo]
  rfl

set_option maxRecDepth 100000 in
set_option maxHeartbeats 1000000 in
theorem add71_any (X Y : Nat) (hX : X < 2 ^ 128) (hY : Y < 2 ^ 128) (w : World) :
    Calls Try.prog 71 #[pv X, pv Y] w fun e w' => e = .returned (pv (X ^^^ Y)) ∧ Ext w w' := by
  unfold pv
  have HA := Lib.hid (add_val X Y hX hY)
  go_enter Try.func71, Try.ntmps71
  go_upto_region 1 with (first | (refine wl_allocA rfl 85 rfl _ zero85 ?_) | (refine wl_boxA rfl 85 _ rfl _ rfl ?_))
  have hB0 : Blk (((w.alloc (.cells (pcells X) 85)).alloc (.cells (pcells Y) 85)).alloc (.cells (pcells 0) 85)) w.heap.size 85 (pcells X) := ((Blk.new w _ _).alloc _).alloc _
  have hB1 : Blk (((w.alloc (.cells (pcells X) 85)).alloc (.cells (pcells Y) 85)).alloc (.cells (pcells 0) 85)) (w.heap.size + 1) 85 (pcells Y) := by
    have := (Blk.new (w.alloc (.cells (pcells X) 85)) 85 (pcells Y)).alloc (.cells (pcells 0) 85)
    simpa only [World.size_alloc] using this
  have hB2 : Blk (((w.alloc (.cells (pcells X) 85)).alloc (.cells (pcells Y) 85)).alloc (.cells (pcells 0) 85)) (w.heap.size + 2) 85 (pcells 0) := by
    have := (Blk.new ((w.alloc (.cells (pcells X) 85)).alloc (.cells (pcells Y) 85)) 85 (pcells 0))
    simpa only [World.size_alloc] using this
  have hx : Ext w (((w.alloc (.cells (pcells X) 85)).alloc (.cells (pcells Y) 85)).alloc (.cells (pcells 0) 85)) := ((Ext.alloc _ _).trans (Ext.alloc _ _)).trans (Ext.alloc _ _)
  simp only [put_lit, List.set_cons_succ, List.set_cons_zero, World.size_alloc]
  generalize ((w.alloc (.cells (pcells X) 85)).alloc (.cells (pcells Y) 85)).alloc (.cells (pcells 0) 85) = w1 at hB0 hB1 hB2 hx ⊢
  have c0 := hB0.hi
  have c1 := hB0.lo
  have d0 := hB1.hi
  have d1 := hB1.lo
  have HB2 := Lib.hid hB2
  have HX := Lib.hid hx
  clear hB0 hB1 hB2 hx
  go_wp2_with (refine wl_storeA rfl 85 (.tmp 4) (.tmp 15) rfl _ 0 2 rfl (pcells (X ^^^ Y)) HA.out sz85 (pcells_size _) _ _ HB2.out (by simp [pcells_size]) (pcells_one _) (pcells (X ^^^ Y)) (lay_all _ _ rfl) ?_)
  refine bodyPost_ret (results_blk rfl _ _ (w.heap.size + 2) 2 85 (pcells (X ^^^ Y)) rfl (HB2.out.setRow _) agg85 sz85 (pcells_size _).symm) rfl ?_
  exact ⟨rfl, below_setRow (g := w.heap.size + 2) HX.out (by omega) _⟩
end Go.Proofs.Ytnigpobbckampaa
namespace Go.Proofs.Ytnigpobbckampaa
open Go.RowKit
set_option linter.unusedSimpArgs false
set_option linter.unusedVariables false

theorem nx_hi {X : Nat} (hX : X < 2 ^ 128) : nx X / 18446744073709551616 = X / 18446744073709551616 / 2 ^^^ (if X % 2 = 1 then 16212958658533785600 else 0) := by
  unfold nx
  rw [xor_hi]
  congr 1
  · omega
  · split <;> rfl
theorem nx_lo (X : Nat) : nx X % 18446744073709551616 = X % 18446744073709551616 / 2 + X / 18446744073709551616 % 2 * 9223372036854775808 := by
  unfold nx
  rw [xor_lo]
  have : (if X % 2 = 1 then fold128 else 0) % 18446744073709551616 = 0 := by split <;> rfl
  rw [this, Nat.xor_zero]
  omega
theorem or_top (a b : Nat) (ha : a < 9223372036854775808) (hb : b ≤ 1) : a ||| b * 9223372036854775808 = a + b * 9223372036854775808 := by
  have h := Nat.two_pow_add_eq_or_of_lt (i := 63) (b := a) (by omega) b
  rw [Nat.or_comm, Nat.mul_comm b, Nat.add_comm a]
  exact h.symm

theorem wrap_u64' (n : Int) : IntKind.u64.wrap n = n % 18446744073709551616 := by
  simp [IntKind.wrap, IntKind.bits, IntKind.signed]
theorem next_val (X : Nat) (hX : X < 2 ^ 128) :
    Value.agg #[.int .u64 (bits .xor .u64 ((X : Int) / 18446744073709551616 / 2) (bits .and .u64 16212958658533785600 (IntKind.u64.wrap (-bits .and .u64 ((X : Int) % 18446744073709551616) 1)))),
      .int .u64 (bits .or .u64 ((X : Int) % 18446744073709551616 / 2) (IntKind.u64.wrap ((X : Int) / 18446744073709551616 * 9223372036854775808)))] = .agg (pcells (nx X)) := by
  have e1 : (X : Int) / 18446744073709551616 / 2 = ((X / 18446744073709551616 / 2 : Nat) : Int) := by omega
  have e2 : (X : Int) % 18446744073709551616 = ((X % 18446744073709551616 : Nat) : Int) := by omega
  have e3 : (X : Int) % 18446744073709551616 / 2 = ((X % 18446744073709551616 / 2 : Nat) : Int) := by omega
  have e4 : IntKind.u64.wrap ((X : Int) / 18446744073709551616 * 9223372036854775808) = ((X / 18446744073709551616 % 2 * 9223372036854775808 : Nat) : Int) := by rw [wrap_u64']; omega
  have e5 : bits .and .u64 ((X : Int) % 18446744073709551616) 1 = ((X % 2 : Nat) : Int) := by
    rw [e2, show (1 : Int) = ((1 : Nat) : Int) from rfl, bits_and_u64_nat _ _ (lo_lt X) (by omega), Nat.and_one_is_mod]
    omega
  have e6 : bits .and .u64 16212958658533785600 (IntKind.u64.wrap (-((X % 2 : Nat) : Int))) = ((if X % 2 = 1 then 16212958658533785600 else 0 : Nat) : Int) := by
    rcases Nat.mod_two_eq_zero_or_one X with h | h <;> rw [h] <;> rfl
  have hh := hi_lt hX
  have hl := lo_lt X
  rw [e5, e6, e1, e3, e4, bits_xor_u64_nat _ _ (by omega) (by split <;> omega), bits_or_u64_nat _ _ (by omega) (by omega), or_top _ _ (by omega) (by omega), ← nx_hi hX, ← nx_lo]
  rfl

set_option maxRecDepth 100000 in
set_option maxHeartbeats 1000000 in
theorem next72_any (X : Nat) (hX : X < 2 ^ 128) (w : World) :
    Calls Try.prog 72 #[pv X] w fun e w' => e = .returned (pv (nx X)) ∧ Ext w w' := by
  unfold pv
  go_enter Try.func72, Try.ntmps72
  go_upto_region 1 with (first | (refine wl_allocA rfl 85 rfl _ zero85 ?_) | (refine wl_boxA rfl 85 _ rfl _ rfl ?_))
  have hB0 : Blk ((w.alloc (.cells (pcells X) 85)).alloc (.cells (pcells 0) 85)) w.heap.size 85 (pcells X) := (Blk.new w _ _).alloc _
  have hB2 : Blk ((w.alloc (.cells (pcells X) 85)).alloc (.cells (pcells 0) 85)) (w.heap.size + 1) 85 (pcells 0) := by
    have := Blk.new (w.alloc (.cells (pcells X) 85)) 85 (pcells 0)
    simpa only [World.size_alloc] using this
  have hx : Ext w ((w.alloc (.cells (pcells X) 85)).alloc (.cells (pcells 0) 85)) := (Ext.alloc _ _).trans (Ext.alloc _ _)
  simp only [put_lit, List.set_cons_succ, List.set_cons_zero, World.size_alloc]
  generalize (w.alloc (.cells (pcells X) 85)).alloc (.cells (pcells 0) 85) = w1 at hB0 hB2 hx ⊢
  have c0 := hB0.hi
  have c1 := hB0.lo
  have HB2 := Lib.hid hB2
  have HX := Lib.hid hx
  have HN := Lib.hid (next_val X hX)
  clear hB0 hB2 hx
  go_wp2_with (refine wl_storeA rfl 85 (.tmp 2) (.tmp 21) rfl _ 0 2 rfl (pcells (nx X)) HN.out sz85 (pcells_size _) _ _ HB2.out (by simp [pcells_size]) (pcells_one _) (pcells (nx X)) (lay_all _ _ rfl) ?_)
  refine bodyPost_ret (results_blk rfl _ _ (w.heap.size + 1) 2 85 (pcells (nx X)) rfl (HB2.out.setRow _) agg85 sz85 (pcells_size _).symm) rfl ?_
  exact ⟨rfl, below_setRow (g := w.heap.size + 1) HX.out (by omega) _⟩

set_option maxRecDepth 100000 in
set_option maxHeartbeats 1000000 in
theorem word70_any (v : Value) (f : Nat → Nat) (w : World) (hv : RdF w v 8 f) :
    Calls Try.prog 70 #[v] w fun e w' => e = .returned (.int .u64 ((be f 8 : Nat) : Int)) ∧ w = w' := by
  obtain ⟨g, off, cap, rfl, hcap, hf⟩ := hv.form (by omega)
  have HF := Lib.hid hf
  clear hv hf
  go_enter Try.func70, Try.ntmps70
  go_wp2_with fail
  go_loopw [2, 7] (fun v2 v7 wr => ∃ k : Nat, k ≤ 8 ∧ v7 = .int .i64 k ∧ v2 = .int .u64 ((be f k : Nat) : Int) ∧ wr = w) (fun _ v7 _ => 8 - (intOf v7).toNat)
  case atStart => exact ⟨0, by omega, rfl, rfl, rfl⟩
  case round =>
    obtain ⟨k, hk, rfl, rfl, rfl⟩ := hrel
    by_cases hk8 : k < 8
    · have hk' : (k : Int) < 8 := by omega
      obtain ⟨hl, hc⟩ := HF.out k hk8
      go_wp2_with fail
      refine ⟨⟨k + 1, by omega, by go_num, ?_, trivial⟩, by simp [intOf]; omega⟩
      have hb := be_lt (x := f) k (fun j hj => (HF.out j (by omega)).1)
      have hp : 2 ^ (8 * k) ≤ 2 ^ 56 := Nat.pow_le_pow_right (by omega) (by omega)
      have hb2 : be f k < 72057594037927936 := by omega
      have e1 : IntKind.u64.wrap (((be f k : Nat) : Int) * 256) = ((be f k * 256 : Nat) : Int) := by rw [wrap_u64']; omega
      rw [e1, bits_or_u64_nat _ _ (by omega) (by omega)]
      have h := Nat.two_pow_add_eq_or_of_lt (i := 8) (b := f k) (by omega) (be f k)
      rw [show (2 : Nat) ^ 8 = 256 from rfl, Nat.mul_comm] at h
      rw [← h]
      rfl
    · obtain rfl : k = 8 := by omega
      go_wp2_with fail
      go_ret
      exact ⟨rfl, rfl⟩

set_option maxRecDepth 100000 in
set_option maxHeartbeats 1000000 in
theorem of57_any (x : Nat → Nat) (hx : ∀ j, j < 16 → x j < 256) (w : World) :
    Calls Try.prog 57 #[.agg (row 16 x)] w fun e w' => e = .returned (pv (be x 16)) ∧ Ext w w' := by
  unfold pv
  have HV := Lib.hid (show Value.agg #[.int .u64 ((be x 8 : Nat) : Int), .int .u64 ((be (fun j => x (8 + j)) 8 : Nat) : Int)] = .agg (pcells (be x 16)) from by
    unfold pcells
    rw [be_hi hx, be_lo hx])
  go_enter Try.func57, Try.ntmps57
  go_upto_region 1 with (first | (refine wl_allocA rfl 85 rfl _ zero85 ?_) | (refine wl_boxA rfl 23 _ rfl _ rfl ?_))
  have hB0 : Blk ((w.alloc (.cells (row 16 x) 23)).alloc (.cells (pcells 0) 85)) w.heap.size 23 (row 16 x) := (Blk.new w _ _).alloc _
  have hB2 : Blk ((w.alloc (.cells (row 16 x) 23)).alloc (.cells (pcells 0) 85)) (w.heap.size + 1) 85 (pcells 0) := by
    have := Blk.new (w.alloc (.cells (row 16 x) 23)) 85 (pcells 0)
    simpa only [World.size_alloc] using this
  have hxx : Ext w ((w.alloc (.cells (row 16 x) 23)).alloc (.cells (pcells 0) 85)) := (Ext.alloc _ _).trans (Ext.alloc _ _)
  simp only [put_lit, List.set_cons_succ, List.set_cons_zero, World.size_alloc]
  generalize (w.alloc (.cells (row 16 x) 23)).alloc (.cells (pcells 0) 85) = w1 at hB0 hB2 hxx ⊢
  have hr : RdF w1 (.slice (some ⟨w.heap.size, 0, none⟩) 16 16) 16 x := ⟨_, _, rfl, Nat.le_refl _, fun h => (by cases h), fun i hi => ⟨hx i hi, _, rfl, by rw [Addr.add_lit, Nat.zero_add]; exact hB0.byte i hi⟩⟩
  have R0 := Lib.hid (show RdF w1 (.slice (some ⟨w.heap.size, 0, none⟩) 8 16) 8 x from by
    have := hr.part 0 8 16 (by omega) (by omega)
    exact this.congr (fun i _ => by rw [Nat.zero_add]))
  have R8 := Lib.hid (show RdF w1 (.slice (some ⟨w.heap.size, 8, none⟩) 8 8) 8 (fun j => x (8 + j)) from by
    have := hr.part 8 8 8 (by omega) (by omega)
    rw [Nat.zero_add] at this
    exact this)
  have HB2 := Lib.hid hB2
  have HX := Lib.hid hxx
  clear hB0 hB2 hxx hr
  apply wp_region_mid 5 [.det _, .det _, .det _, .det _, .det _] (by kernel_rfl) rfl (by kernel_rfl)
  · (first | (refine wpE_move rfl rfl rfl ?_; simp only [put_lit, eval_lit, BigFrame.eval_const, List.set_cons_succ, List.set_cons_zero, List.getD_cons_succ, List.getD_cons_zero]) | (refine wpE_run rfl rfl (by simp) (fun w1 hx1 _ K hK => by go_step; exact hK _ (Ext.refl _)) ?_; simp only [put_lit, List.set_cons_succ, List.set_cons_zero]))
    (refine wpE_run rfl rfl (by simp) (fun w1 hx1 _ K hK => by go_wp2_with (go_at_call 70; refine (word70_any _ _ _ (R0.out.ext hx1)).mono ?_; rintro e w2 ⟨rfl, rfl⟩; exact hK _ (Ext.refl _))) ?_)
    simp only [put_lit, List.set_cons_succ, List.set_cons_zero]
    (first | (refine wpE_move rfl rfl rfl ?_; simp only [put_lit, eval_lit, BigFrame.eval_const, List.set_cons_succ, List.set_cons_zero, List.getD_cons_succ, List.getD_cons_zero]) | (refine wpE_run rfl rfl (by simp) (fun w1 hx1 _ K hK => by go_step; exact hK _ (Ext.refl _)) ?_; simp only [put_lit, List.set_cons_succ, List.set_cons_zero]))
    (refine wpE_run rfl rfl (by simp) (fun w1 hx1 _ K hK => by go_wp2_with (go_at_call 70; refine (word70_any _ _ _ (R8.out.ext hx1)).mono ?_; rintro e w2 ⟨rfl, rfl⟩; exact hK _ (Ext.refl _))) ?_)
    simp only [put_lit, List.set_cons_succ, List.set_cons_zero]
    (first | (refine wpE_move rfl rfl rfl ?_; simp only [put_lit, eval_lit, BigFrame.eval_const, List.set_cons_succ, List.set_cons_zero, List.getD_cons_succ, List.getD_cons_zero]) | (refine wpE_run rfl rfl (by simp) (fun w1 hx1 _ K hK => by go_step; exact hK _ (Ext.refl _)) ?_; simp only [put_lit, List.set_cons_succ, List.set_cons_zero]))
    (refine wpE_nil ?_; intro w2 hw2 hF; simp only [List.drop_succ_cons, List.drop_zero])
    refine wl_storeA rfl 85 (.tmp 2) (.tmp 7) rfl _ 0 2 rfl (pcells (be x 16)) HV.out sz85 (pcells_size _) _ _ (HB2.out.ext hw2) (by simp [pcells_size]) (pcells_one _) (pcells (be x 16)) (lay_all _ _ rfl) ?_
    have hR := (HB2.out.ext hw2).setRow (pcells (be x 16))
    have hxx := below_setRow (g := w.heap.size + 1) (HX.out.trans hw2) (by omega) (pcells (be x 16))
    simp only [put_lit, List.set_cons_succ, List.set_cons_zero]
    go_wp2_with fail
    refine bodyPost_ret (results_blk rfl _ _ (w.heap.size + 1) 2 85 (pcells (be x 16)) rfl hR agg85 sz85 (pcells_size _).symm) rfl ?_
    exact ⟨rfl, hxx⟩

def outP (X k : Nat) : Nat → Nat := fun j => if j % 8 < k then byP X j else 0
theorem outP_upd (X k : Nat) (hk : k < 8) : row 16 (upd (upd (outP X k) k (byP X k)) (8 + k) (byP X (8 + k))) = row 16 (outP X (k + 1)) := row_congr fun j hj => by
  simp only [outP, upd]
  by_cases h1 : j = 8 + k
  · subst h1
    rw [if_pos rfl, if_pos (by omega)]
  · rw [if_neg h1]
    by_cases h2 : j = k
    · subst h2
      rw [if_pos rfl, if_pos (by omega)]
    · rw [if_neg h2]
      by_cases h3 : j % 8 < k
      · rw [if_pos h3, if_pos (by omega)]
      · rw [if_neg h3, if_neg (by omega)]
theorem byte_hi (X k : Nat) (hk : k < 8) : X / 18446744073709551616 / 2 ^ (56 - 8 * k) % 256 = byP X k := by
  unfold byP
  rw [show (18446744073709551616 : Nat) = 2 ^ 64 from rfl, Nat.div_div_eq_div_mul, ← Nat.pow_add, show 64 + (56 - 8 * k) = 8 * (15 - k) by omega]
theorem byte_lo (X k : Nat) (hk : k < 8) : X % 18446744073709551616 / 2 ^ (56 - 8 * k) % 256 = byP X (8 + k) := by
  unfold byP
  rw [show (18446744073709551616 : Nat) = 2 ^ 64 from rfl, show 8 * (15 - (8 + k)) = 56 - 8 * k by omega, show (256 : Nat) = 2 ^ 8 from rfl]
  apply Nat.eq_of_testBit_eq
  intro i
  simp only [Nat.testBit_mod_two_pow, Nat.testBit_div_two_pow]
  by_cases h : i < 8
  · rw [decide_eq_true (show i + (56 - 8 * k) < 64 by omega)]
    simp
  · simp [h]

set_option maxRecDepth 100000 in
set_option maxHeartbeats 1000000 in
theorem block59_any (X : Nat) (hX : X < 2 ^ 128) (w : World) :
    Calls Try.prog 59 #[pv X] w fun e w' => e = .returned (.agg (row 16 (byP X))) ∧ Ext w w' := by
  unfold pv
  go_enter Try.func59, Try.ntmps59
  go_upto_region 1 with (first | (refine wl_allocA rfl 23 rfl _ zero23 ?_) | (refine wl_boxA rfl 85 _ rfl _ rfl ?_))
  have hB0 : Blk ((w.alloc (.cells (pcells X) 85)).alloc (.cells (row 16 fun _ => 0) 23)) w.heap.size 85 (pcells X) := (Blk.new w _ _).alloc _
  have hB2 : Blk ((w.alloc (.cells (pcells X) 85)).alloc (.cells (row 16 fun _ => 0) 23)) (w.heap.size + 1) 23 (row 16 fun _ => 0) := by
    have := Blk.new (w.alloc (.cells (pcells X) 85)) 23 (row 16 fun _ => 0)
    simpa only [World.size_alloc] using this
  have hx : Ext w ((w.alloc (.cells (pcells X) 85)).alloc (.cells (row 16 fun _ => 0) 23)) := (Ext.alloc _ _).trans (Ext.alloc _ _)
  simp only [put_lit, List.set_cons_succ, List.set_cons_zero, World.size_alloc]
  generalize (w.alloc (.cells (pcells X) 85)).alloc (.cells (row 16 fun _ => 0) 23) = w1 at hB0 hB2 hx ⊢
  go_wp2_with fail
  go_loopw [4] (fun v4 wr => ∃ k : Nat, k ≤ 8 ∧ v4 = .int .i64 k ∧ Blk wr w.heap.size 85 (pcells X) ∧ Blk wr (w.heap.size + 1) 23 (row 16 (outP X k)) ∧ Ext w wr) (fun v4 _ => 8 - (intOf v4).toNat)
  case atStart => exact ⟨0, by omega, rfl, hB0, by rw [show row 16 (outP X 0) = row 16 (fun _ => 0) from row_congr fun j _ => by simp only [outP]; rw [if_neg (by omega)]]; exact hB2, hx⟩
  case round =>
    clear hB0 hB2 hx
    obtain ⟨k, hk, rfl, hB0, hB2, hx⟩ := hrel
    have HB0 := Lib.hid hB0
    have HB2 := Lib.hid hB2
    have HX := Lib.hid hx
    by_cases hk8 : k < 8
    · have hk' : (k : Int) < 8 := by omega
      have c0 := hB0.hi
      have c1 := hB0.lo
      have c2 := hB2.byte k (by omega)
      have f2 := hB2.frozen k
      have f3 := hB2.frozen (8 + k)
      have c3 := hB2.byte (8 + k) (by omega)
      clear hB0 hB2 hx
      go_upto_region 5 with fail
      have ehi : ((X : Int) / 18446744073709551616 / 2 ^ (56 - 8 * k) % 256) = ((byP X k : Nat) : Int) := by
        rw [← byte_hi X k hk8]
        simp
      have elo : ((X : Int) % 18446744073709551616 / 2 ^ (56 - 8 * k) % 256) = ((byP X (8 + k) : Nat) : Int) := by
        rw [← byte_lo X k hk8]
        simp
      rw [ehi]
      have hb2 := HB2.out.setB k (byP X k)
      have hb0 := HB0.out.other (a := ⟨w.heap.size + 1, k, none⟩) (.int .u8 ((byP X k : Nat) : Int)) (by simp)
      have hx2 := HX.out.setCell (p := ⟨w.heap.size + 1, k, none⟩) (by simp) (.int .u8 ((byP X k : Nat) : Int))
      clear c0 c1 c2 c3 f2 f3 HB0 HB2 HX ehi
      generalize wr.setCell ⟨w.heap.size + 1, k, none⟩ (.int .u8 ((byP X k : Nat) : Int)) = w2 at hb2 hb0 hx2 ⊢
      have c1 := hb0.lo
      have f3 := hb2.frozen (8 + k)
      have c3 := hb2.byte (8 + k) (by omega)
      have EL := Lib.hid elo
      have HB0 := Lib.hid hb0
      have HB2 := Lib.hid hb2
      have HX := Lib.hid hx2
      clear hb0 hb2 hx2 elo
      go_wp2_with fail
      rw [EL.out]
      go_roundw
      case rel =>
        refine ⟨k + 1, by omega, by go_num, HB0.out.other _ (by simp), ?_, HX.out.setCell (by simp) _⟩
        rw [← outP_upd X k hk8]
        exact HB2.out.setB (8 + k) _
      case measure => simp [intOf]; omega
    · obtain rfl : k = 8 := by omega
      rw [show row 16 (outP X 8) = row 16 (byP X) from row_congr fun j hj => by simp only [outP]; rw [if_pos (by omega)]] at hB2
      have H2 := Lib.hid hB2
      clear hB2 HB2 hB0
      go_wp2_with (first | (refine wl_loadA rfl 23 _ rfl _ 0 16 rfl agg23 sz23 _ _ H2.out (by simp [row_size]) (row 16 (byP X)) (row_whole _ _) ?_) | (refine wl_storeA rfl 23 _ _ rfl _ 0 16 rfl (row 16 (byP X)) rfl sz23 (row_size _ _) _ _ H2.out (by simp [row_size]) (row_one _ _) (row 16 (byP X)) (lay_all _ _ (by simp [row_size])) ?_))
      refine bodyPost_ret (results_blk rfl _ _ (w.heap.size + 1) 16 23 (row 16 (byP X)) rfl (H2.out.setRow _) agg23 sz23 (row_size _ _).symm) rfl ?_
      exact ⟨rfl, below_setRow (g := w.heap.size + 1) HX.out (by omega) _⟩
end Go.Proofs.Ytnigpobbckampaa
namespace Go.Proofs.Ytnigpobbckampaa
open Go.RowKit
set_option linter.unusedSimpArgs false
set_option linter.unusedVariables false

/-- The words of Y, the highest first. -/
def half (Y i : Nat) : Nat := if i = 0 then Y / 18446744073709551616 else Y % 18446744073709551616
theorem half_lt {Y : Nat} (h : Y < 2 ^ 128) (i : Nat) : half Y i < 18446744073709551616 := by
  unfold half
  split <;> omega
theorem half_bit (Y i j : Nat) (hi : i < 2) (hj : j < 64) : (half Y i / 2 ^ (63 - j) % 2 = 1) ↔ Y.testBit (127 - (64 * i + j)) = true := by
  rw [Nat.testBit_eq_decide_div_mod_eq, decide_eq_true_eq]
  unfold half
  rcases (by omega : i = 0 ∨ i = 1) with rfl | rfl
  · rw [if_pos rfl, show (18446744073709551616 : Nat) = 2 ^ 64 from rfl, Nat.div_div_eq_div_mul, ← Nat.pow_add, show 64 + (63 - j) = 127 - (64 * 0 + j) by omega]
  · rw [if_neg (by omega), show 127 - (64 * 1 + j) = 63 - j by omega, show (18446744073709551616 : Nat) = 2 ^ 64 from rfl]
    have h := Nat.testBit_mod_two_pow Y 64 (63 - j)
    rw [Nat.testBit_eq_decide_div_mod_eq, Nat.testBit_eq_decide_div_mod_eq, decide_eq_true (show 63 - j < 64 by omega), Bool.true_and] at h
    constructor
    · intro h1
      rw [decide_eq_true h1] at h
      exact of_decide_eq_true h.symm
    · intro h1
      rw [decide_eq_true h1] at h
      exact of_decide_eq_true h

set_option maxRecDepth 100000 in
set_option maxHeartbeats 1000000 in
theorem times58_any (X Y : Nat) (hX : X < 2 ^ 128) (hY : Y < 2 ^ 128) (w : World) :
    Calls Try.prog 58 #[pv X, pv Y] w fun e w' => e = .returned (pv (tms X Y)) ∧ Ext w w' := by
  unfold pv
  go_enter Try.func58, Try.ntmps58
  go_upto_region 1 with (first | (refine wl_allocA rfl 85 rfl _ zero85 ?_) | (refine wl_boxA rfl 85 _ rfl _ rfl ?_))
  have hB0 : Blk (((w.alloc (.cells (pcells X) 85)).alloc (.cells (pcells Y) 85)).alloc (.cells (pcells 0) 85)) w.heap.size 85 (pcells X) := ((Blk.new w _ _).alloc _).alloc _
  have hB1 : Blk (((w.alloc (.cells (pcells X) 85)).alloc (.cells (pcells Y) 85)).alloc (.cells (pcells 0) 85)) (w.heap.size + 1) 85 (pcells Y) := by
    have := (Blk.new (w.alloc (.cells (pcells X) 85)) 85 (pcells Y)).alloc (.cells (pcells 0) 85)
    simpa only [World.size_alloc] using this
  have hB2 : Blk (((w.alloc (.cells (pcells X) 85)).alloc (.cells (pcells Y) 85)).alloc (.cells (pcells 0) 85)) (w.heap.size + 2) 85 (pcells 0) := by
    have := (Blk.new ((w.alloc (.cells (pcells X) 85)).alloc (.cells (pcells Y) 85)) 85 (pcells 0))
    simpa only [World.size_alloc] using this
  have hx : Ext w (((w.alloc (.cells (pcells X) 85)).alloc (.cells (pcells Y) 85)).alloc (.cells (pcells 0) 85)) := ((Ext.alloc _ _).trans (Ext.alloc _ _)).trans (Ext.alloc _ _)
  simp only [put_lit, List.set_cons_succ, List.set_cons_zero, World.size_alloc]
  generalize ((w.alloc (.cells (pcells X) 85)).alloc (.cells (pcells Y) 85)).alloc (.cells (pcells 0) 85) = w1 at hB0 hB1 hB2 hx ⊢
  obtain ⟨gs, hgs⟩ : ∃ g, g = w.heap.size := ⟨_, rfl⟩
  rw [← hgs] at hB0 hB1 hB2 ⊢
  have d0 := hB1.hi
  have d1 := hB1.lo
  have HG := Lib.hid hgs
  have HB0 := Lib.hid hB0
  have HB2 := Lib.hid hB2
  have HX := Lib.hid hx
  clear hB0 hB1 hB2 hx hgs
  go_wp2_with fail
  clear d0 d1
  go_loopw [13] (fun v13 wr => ∃ i : Nat, i ≤ 2 ∧ v13 = .int .i64 i ∧ Blk wr gs 85 (pcells (mx X (64 * i))) ∧ Blk wr (gs + 2) 85 (pcells (acc X Y (64 * i))) ∧ Ext w wr) (fun v13 _ => 2 - (intOf v13).toNat)
  case atStart => exact ⟨0, by omega, rfl, HB0.out, HB2.out, HX.out⟩
  case round =>
    clear HB0 HB2 HX
    obtain ⟨i, hi, rfl, hb0, hb2, hx⟩ := hrel
    by_cases hi2 : i < 2
    · have hi' : (i : Int) < 2 := by omega
      have hw : (#[Value.int .u64 ((Y : Int) / 18446744073709551616), .int .u64 ((Y : Int) % 18446744073709551616)])[i]? = some (.int .u64 ((half Y i : Nat) : Int)) := by
        rcases (by omega : i = 0 ∨ i = 1) with rfl | rfl <;> simp [half]
      have HW := Lib.hid hw
      have HB0 := Lib.hid hb0
      have HB2 := Lib.hid hb2
      have HX := Lib.hid hx
      clear hw hb0 hb2 hx
      go_wp2_with (refine wl_indexA rfl 100 (.tmp 12) (.tmp 13) rfl 83 2 Try.underlying100 nagg83 sz83 _ rfl .i64 i rfl hi2 (.int .u64 ((half Y i : Nat) : Int)) HW.out ?_)
      clear HW
      go_loopw [16] (fun v16 wr => ∃ j : Nat, j ≤ 64 ∧ v16 = .int .i64 j ∧ Blk wr gs 85 (pcells (mx X (64 * i + j))) ∧ Blk wr (gs + 2) 85 (pcells (acc X Y (64 * i + j))) ∧ Ext w wr) (fun v16 _ => 64 - (intOf v16).toNat)
      case atStart => exact ⟨0, by omega, rfl, HB0.out, HB2.out, HX.out⟩
      case round =>
        clear HB0 HB2 HX
        obtain ⟨j, hj, rfl, hb0, hb2, hx⟩ := hrel
        have HB0 := Lib.hid hb0
        have HB2 := Lib.hid hb2
        have HX := Lib.hid hx
        clear hb0 hb2 hx
        have hgw : w.heap.size ≤ gs := by have := HG.out; omega
        by_cases hj2 : j < 64
        · have hj' : (j : Int) < 64 := by omega
          have hhl := half_lt hY i
          have hal := acc_lt Y hX (64 * i + j)
          have hml := mx_lt hX (64 * i + j)
          have htest : (bits .and .u64 (((half Y i : Nat) : Int) / 2 ^ (63 - j)) 1 == 1) = Y.testBit (127 - (64 * i + j)) := by
            have e1 : (((half Y i : Nat) : Int) / 2 ^ (63 - j)) = ((half Y i / 2 ^ (63 - j) : Nat) : Int) := by simp
            rw [e1]
            conv => lhs; rw [show (1 : Int) = ((1 : Nat) : Int) from rfl]
            rw [bits_and_u64_nat _ _ (Nat.lt_of_le_of_lt (Nat.div_le_self _ _) hhl) (by omega), Nat.and_one_is_mod]
            have hh := half_bit Y i j hi2 hj2
            cases hb : Y.testBit (127 - (64 * i + j)) with
            | true => rw [hh.2 hb]; rfl
            | false =>
              have : half Y i / 2 ^ (63 - j) % 2 = 0 := by
                rcases Nat.mod_two_eq_zero_or_one (half Y i / 2 ^ (63 - j)) with h | h
                · exact h
                · rw [hh.1 h] at hb; cases hb
              rw [this]
              rfl
          have HT := Lib.hid htest
          clear htest
          go_upto_if 24 with fail
          go_cut [] (fun wx => Blk wx gs 85 (pcells (mx X (64 * i + j))) ∧ Blk wx (gs + 2) 85 (pcells (acc X Y (64 * i + j + 1))) ∧ Ext w wx)
          case first =>
            by_cases hb : Y.testBit (127 - (64 * i + j)) = true
            · have hT : (bits .and .u64 (((half Y i : Nat) : Int) / 2 ^ (63 - j)) 1 == 1) = true := HT.out.trans hb
              have hacc : acc X Y (64 * i + j) ^^^ mx X (64 * i + j) = acc X Y (64 * i + j + 1) := by simp only [acc, hb, if_true]
              go_wp2_with (first | (refine wl_loadA rfl 85 (.tmp 4) rfl _ 0 2 rfl agg85 sz85 _ _ HB2.out (by simp [pcells_size]) (pcells (acc X Y (64 * i + j))) rfl ?_) | (refine wl_loadA rfl 85 (.tmp 2) rfl _ 0 2 rfl agg85 sz85 _ _ HB0.out (by simp [pcells_size]) (pcells (mx X (64 * i + j))) rfl ?_))
              refine (add71_any _ _ hal hml _).mono ?_
              rintro e w2 ⟨rfl, hx2⟩
              rw [hacc]
              have h2 := Lib.hid (HB2.out.ext hx2)
              have h0 := Lib.hid (HB0.out.ext hx2)
              have hX := Lib.hid (HX.out.trans hx2)
              clear hx2 hacc
              go_wp2_with (refine wl_storeA rfl 85 (.tmp 4) _ rfl _ 0 2 rfl (pcells (acc X Y (64 * i + j + 1))) rfl sz85 (pcells_size _) _ _ h2.out (by simp [pcells_size]) (pcells_one _) (pcells (acc X Y (64 * i + j + 1))) (lay_all _ _ rfl) ?_)
              go_meet
              case rel => exact ⟨h0.out.setRow_other _ (by omega), h2.out.setRow _, below_setRow (g := gs + 2) hX.out (by omega) _⟩
            · have hb' : Y.testBit (127 - (64 * i + j)) = false := by simpa using hb
              have hT : (bits .and .u64 (((half Y i : Nat) : Int) / 2 ^ (63 - j)) 1 == 1) = false := HT.out.trans hb'
              have hacc : acc X Y (64 * i + j + 1) = acc X Y (64 * i + j) := by simp [acc, hb']
              go_wp2_with fail
              go_meet
              case rel => exact ⟨HB0.out, by rw [hacc]; exact HB2.out, HX.out⟩
          case rest =>
            obtain ⟨hb0, hb2, hx⟩ := hcut
            clear HB0 HB2 HX HT
            have HB0 := Lib.hid hb0
            have HB2 := Lib.hid hb2
            have HX := Lib.hid hx
            clear hb0 hb2 hx
            go_wp2_with (refine wl_loadA rfl 85 (.tmp 2) rfl _ 0 2 rfl agg85 sz85 _ _ HB0.out (by simp [pcells_size]) (pcells (mx X (64 * i + j))) rfl ?_)
            refine (next72_any _ hml _).mono ?_
            rintro e w2 ⟨rfl, hx2⟩
            rw [show nx (mx X (64 * i + j)) = mx X (64 * i + j + 1) from rfl]
            have h2 := Lib.hid (HB2.out.ext hx2)
            have h0 := Lib.hid (HB0.out.ext hx2)
            have hX := Lib.hid (HX.out.trans hx2)
            clear hx2
            go_wp2_with (refine wl_storeA rfl 85 (.tmp 2) _ rfl _ 0 2 rfl (pcells (mx X (64 * i + j + 1))) rfl sz85 (pcells_size _) _ _ h0.out (by simp [pcells_size]) (pcells_one _) (pcells (mx X (64 * i + j + 1))) (lay_all _ _ rfl) ?_)
            go_roundw
            case rel => exact ⟨j + 1, by omega, by go_num, h0.out.setRow _, h2.out.setRow_other _ (by omega), below_setRow (g := gs) hX.out hgw _⟩
            case measure => simp [intOf]; omega
        · obtain rfl : j = 64 := by omega
          go_wp2_with fail
          go_roundw
          case rel => exact ⟨i + 1, by omega, by go_num, HB0.out, HB2.out, HX.out⟩
          case measure => simp [intOf]; omega
    · obtain rfl : i = 2 := by omega
      have HB2 := Lib.hid hb2
      have HX := Lib.hid hx
      clear hb0 hb2 hx
      go_wp2_with (first | (refine wl_loadA rfl 85 _ rfl _ 0 2 rfl agg85 sz85 _ _ HB2.out (by simp [pcells_size]) (pcells (tms X Y)) rfl ?_) | (refine wl_storeA rfl 85 _ _ rfl _ 0 2 rfl (pcells (tms X Y)) rfl sz85 (pcells_size _) _ _ HB2.out (by simp [pcells_size]) (pcells_one _) (pcells (tms X Y)) (lay_all _ _ rfl) ?_))
      refine bodyPost_ret (results_blk rfl _ _ (gs + 2) 2 85 (pcells (tms X Y)) rfl (HB2.out.setRow _) agg85 sz85 (pcells_size _).symm) rfl ?_
      exact ⟨rfl, below_setRow (g := gs + 2) HX.out (by have := HG.out; omega) _⟩

/-- The product of blocks. -/
def tmsB (x y : Nat → Nat) : Nat → Nat := byP (tms (be x 16) (be y 16))

set_option maxRecDepth 100000 in
set_option maxHeartbeats 1000000 in
theorem times32_any (x y : Nat → Nat) (hx : ∀ j, j < 16 → x j < 256) (hy : ∀ j, j < 16 → y j < 256) (w : World) :
    Calls Try.prog 32 #[.agg (row 16 x), .agg (row 16 y)] w fun e w' => e = .returned (.agg (row 16 (tmsB x y))) ∧ Ext w w' := by
  have hX : be x 16 < 2 ^ 128 := be_lt 16 hx
  have hY : be y 16 < 2 ^ 128 := be_lt 16 hy
  go_enter Try.func32, Try.ntmps32
  go_upto_region 1 with (first | (refine wl_allocA rfl 23 rfl _ zero23 ?_) | (refine wl_boxA rfl 23 _ rfl _ rfl ?_))
  have hB0 : Blk (((w.alloc (.cells (row 16 x) 23)).alloc (.cells (row 16 y) 23)).alloc (.cells (row 16 fun _ => 0) 23)) w.heap.size 23 (row 16 x) := ((Blk.new w _ _).alloc _).alloc _
  have hB1 : Blk (((w.alloc (.cells (row 16 x) 23)).alloc (.cells (row 16 y) 23)).alloc (.cells (row 16 fun _ => 0) 23)) (w.heap.size + 1) 23 (row 16 y) := by
    have := (Blk.new (w.alloc (.cells (row 16 x) 23)) 23 (row 16 y)).alloc (.cells (row 16 fun _ => 0) 23)
    simpa only [World.size_alloc] using this
  have hB2 : Blk (((w.alloc (.cells (row 16 x) 23)).alloc (.cells (row 16 y) 23)).alloc (.cells (row 16 fun _ => 0) 23)) (w.heap.size + 2) 23 (row 16 fun _ => 0) := by
    have := (Blk.new ((w.alloc (.cells (row 16 x) 23)).alloc (.cells (row 16 y) 23)) 23 (row 16 fun _ => 0))
    simpa only [World.size_alloc] using this
  have hxx : Ext w (((w.alloc (.cells (row 16 x) 23)).alloc (.cells (row 16 y) 23)).alloc (.cells (row 16 fun _ => 0) 23)) := ((Ext.alloc _ _).trans (Ext.alloc _ _)).trans (Ext.alloc _ _)
  simp only [put_lit, List.set_cons_succ, List.set_cons_zero, World.size_alloc]
  generalize ((w.alloc (.cells (row 16 x) 23)).alloc (.cells (row 16 y) 23)).alloc (.cells (row 16 fun _ => 0) 23) = w1 at hB0 hB1 hB2 hxx ⊢
  have HB0 := Lib.hid hB0
  have HB1 := Lib.hid hB1
  have HB2 := Lib.hid hB2
  have HX := Lib.hid hxx
  clear hB0 hB1 hB2 hxx
  apply wp_region_mid 6 [.det _, .det _, .det _, .det _, .det _, .det _] (by kernel_rfl) rfl (by kernel_rfl)
  · refine wpE_run rfl rfl (by simp) (fun w' hx' _ K hK => wp_loadA 23 _ rfl _ 0 16 rfl agg23 sz23 _ _ (HB0.out.ext hx') (by simp [row_size]) (row 16 x) (row_whole _ _) (hK _ (Ext.refl _))) ?_
    simp only [put_lit, List.set_cons_succ, List.set_cons_zero]
    (refine wpE_run rfl rfl (by simp) (fun w1 hx1 _ K hK => by go_wp2_with (go_at_call 57; refine (of57_any x hx _).mono ?_; rintro e w2 ⟨rfl, hx2⟩; exact hK _ hx2)) ?_); simp only [put_lit, List.set_cons_succ, List.set_cons_zero]
    refine wpE_run rfl rfl (by simp) (fun w' hx' _ K hK => wp_loadA 23 _ rfl _ 0 16 rfl agg23 sz23 _ _ (HB1.out.ext hx') (by simp [row_size]) (row 16 y) (row_whole _ _) (hK _ (Ext.refl _))) ?_
    simp only [put_lit, List.set_cons_succ, List.set_cons_zero]
    (refine wpE_run rfl rfl (by simp) (fun w1 hx1 _ K hK => by go_wp2_with (go_at_call 57; refine (of57_any y hy _).mono ?_; rintro e w2 ⟨rfl, hx2⟩; exact hK _ hx2)) ?_); simp only [put_lit, List.set_cons_succ, List.set_cons_zero]
    (refine wpE_run rfl rfl (by simp) (fun w1 hx1 _ K hK => by go_wp2_with (go_at_call 58; refine (times58_any _ _ hX hY _).mono ?_; rintro e w2 ⟨rfl, hx2⟩; exact hK _ hx2)) ?_); simp only [put_lit, List.set_cons_succ, List.set_cons_zero]
    (refine wpE_run rfl rfl (by simp) (fun w1 hx1 _ K hK => by go_wp2_with (go_at_call 59; refine (block59_any _ (tms_lt _ hX) _).mono ?_; rintro e w2 ⟨rfl, hx2⟩; exact hK _ hx2)) ?_); simp only [put_lit, List.set_cons_succ, List.set_cons_zero]
    (refine wpE_nil ?_; intro w2 hw2 hF; simp only [List.drop_succ_cons, List.drop_zero])
    refine wl_storeA rfl 23 (.tmp 4) (.tmp 10) rfl _ 0 16 rfl (row 16 (tmsB x y)) rfl sz23 (row_size _ _) _ _ (HB2.out.ext hw2) (by simp [row_size]) (row_one _ _) (row 16 (tmsB x y)) (lay_all _ _ (by simp [row_size])) ?_
    have hR := (HB2.out.ext hw2).setRow (row 16 (tmsB x y))
    have hxx := below_setRow (g := w.heap.size + 2) (HX.out.trans hw2) (by omega) (row 16 (tmsB x y))
    simp only [put_lit, List.set_cons_succ, List.set_cons_zero]
    go_wp2_with fail
    refine bodyPost_ret (results_blk rfl _ _ (w.heap.size + 2) 16 23 (row 16 (tmsB x y)) rfl hR agg23 sz23 (row_size _ _).symm) rfl ?_
    exact ⟨rfl, hxx⟩
end Go.Proofs.Ytnigpobbckampaa
