/- The document's bytes: Mul, Inv, box, Box, walked. The document's table of boxes; xor of blocks; mixed columns: walked. -/
import Derived.Test.YtnigpobbckampaaK
import Derived.Test.YtnigpobbckampaaN
import Derived.Test.YtnigpobbckampaaA0
import Derived.Laws.DeepNot64
import Derived.BigQuiet
namespace Go.Proofs.Ytnigpobbckampaa
set_option linter.unusedSimpArgs false
set_option linter.unusedVariables false
open Go.RowKit

theorem i64_xor_nat (a b : Nat) (ha : a < 4611686018427387904) (hb : b < 4611686018427387904) : bits .xor .i64 (a : Int) (b : Int) = ((a ^^^ b : Nat) : Int) := by
  have hx : a ^^^ b < 2 ^ 62 := Nat.xor_lt_two_pow (by omega) (by omega)
  have h : ∀ c : Nat, c < 4611686018427387904 → (BitVec.ofInt 64 (c : Int)).toNat = c := fun c hc => by
    rw [BitVec.ofInt_natCast, BitVec.toNat_ofNat]
    exact Nat.mod_eq_of_lt (by omega)
  show IntKind.i64.wrap ((BitVec.ofInt 64 (a : Int) ^^^ BitVec.ofInt 64 (b : Int)).toNat : Int) = _
  rw [BitVec.toNat_xor, h a ha, h b hb]
  generalize a ^^^ b = c at hx
  simp [IntKind.wrap, IntKind.bits, IntKind.signed]
  omega

theorem bit_test (b k : Nat) (hb : b < 256) : (bits .and .u8 ((b : Int) / 2 ^ k) 1 == 1) = decide (b / 2 ^ k % 2 = 1) := by
  have e1 : ((b : Int) / 2 ^ k) = ((b / 2 ^ k : Nat) : Int) := by simp
  have e2 : (1 : Int) = ((1 : Nat) : Int) := rfl
  have h1 : b / 2 ^ k < 256 := Nat.lt_of_le_of_lt (Nat.div_le_self _ _) hb
  rw [e1]
  conv => lhs; rw [e2]
  rw [u8_and_nat _ _ h1 (by omega), Nat.and_one_is_mod]
  by_cases h : b / 2 ^ k % 2 = 1
  · rw [h]; rfl
  · have h0 : b / 2 ^ k % 2 = 0 := by omega
    rw [h0]; rfl

theorem dbl_ref : (List.range 256).all (fun a => (if 255 < 2 * a then (2 * a) ^^^ 283 else 2 * a) == dbl a) = true := by kernel_rfl

set_option maxRecDepth 100000 in
set_option maxHeartbeats 1000000 in
theorem refmul_any (a b : Nat) (ha : a < 256) (hb : b < 256) (w : World) : Calls Try.prog 27 #[.int .u8 a, .int .u8 b] w fun e w' => e = .returned (.int .u8 ((mulP a b : Nat) : Int)) ∧ w = w' := by
  go_enter Try.func27, Try.ntmps27
  go_wp2
  go_loopw [5, 6, 7] (fun x o i wr => ∃ k X O : Nat, k ≤ 8 ∧ x = .int .i64 X ∧ o = .int .i64 O ∧ i = .int .i64 k ∧ X < 256 ∧ O < 256 ∧ mulL (8 - k) X (b / 2 ^ k) O = mulP a b ∧ wr = w) (fun _ _ i _ => 8 - (intOf i).toNat)
  case atStart => exact ⟨0, a, 0, by omega, rfl, rfl, rfl, ha, by omega, by unfold mulP; simp, rfl⟩
  case round =>
    obtain ⟨k, X, O, hk, rfl, rfl, rfl, hX, hO, hm, rfl⟩ := hrel
    by_cases hlt : k < 8
    · have hlt' : (k : Int) < 8 := by omega
      have hs : mulL (8 - k) X (b / 2 ^ k) O = mulL (8 - (k + 1)) (dbl X) (b / 2 ^ (k + 1)) (if b / 2 ^ k % 2 = 1 then O ^^^ X else O) := by
        rw [show 8 - k = (8 - (k + 1)) + 1 by omega]
        simp only [mulL]
        rw [Nat.div_div_eq_div_mul, ← Nat.pow_succ]
      rw [hs] at hm
      have HM := Lib.hid hm
      have hd := List.all_eq_true.1 dbl_ref X (List.mem_range.2 hX)
      simp only [beq_iff_eq] at hd
      have HD := Lib.hid hd
      clear hm hs hd
      have hbt := bit_test b k hb
      have hd2 := dbl_lt X
      by_cases hc : b / 2 ^ k % 2 = 1
      · have h1 : (bits .and .u8 ((b : Int) / 2 ^ k) 1 == 1) = true := by rw [hbt, hc]; rfl
        rw [if_pos hc] at HM
        have hx : bits .xor .i64 ((O : Nat) : Int) ((X : Nat) : Int) = ((O ^^^ X : Nat) : Int) := i64_xor_nat O X (by omega) (by omega)
        have HXO := xor_lt hO hX
        clear hbt
        by_cases h2 : 255 < 2 * X
        · have h2' : 255 < 2 * (X : Int) := by omega
          rw [if_pos h2] at HD
          have hy : bits .xor .i64 (2 * (X : Int)) 283 = ((2 * X ^^^ 283 : Nat) : Int) := i64_xor_nat (2 * X) 283 (by omega) (by omega)
          have HY := Lib.hid hy
          clear hy
          go_wp2_with fail
          go_roundw
          case rel => exact ⟨k + 1, dbl X, O ^^^ X, by omega, by rw [HY.out, HD.out], rfl, by go_num, hd2, HXO, HM.out, trivial⟩
          case measure => simp [intOf]; omega
        · have h2' : 2 * (X : Int) ≤ 255 := by omega
          rw [if_neg h2] at HD
          go_wp2_with fail
          go_roundw
          case rel => exact ⟨k + 1, dbl X, O ^^^ X, by omega, by rw [← HD.out]; go_num, rfl, by go_num, hd2, HXO, HM.out, trivial⟩
          case measure => simp [intOf]; omega
      · have h1 : (bits .and .u8 ((b : Int) / 2 ^ k) 1 == 1) = false := by rw [hbt]; exact decide_eq_false hc
        rw [if_neg hc] at HM
        clear hbt
        by_cases h2 : 255 < 2 * X
        · have h2' : 255 < 2 * (X : Int) := by omega
          rw [if_pos h2] at HD
          have hy : bits .xor .i64 (2 * (X : Int)) 283 = ((2 * X ^^^ 283 : Nat) : Int) := i64_xor_nat (2 * X) 283 (by omega) (by omega)
          have HY := Lib.hid hy
          clear hy
          go_wp2_with fail
          go_roundw
          case rel => exact ⟨k + 1, dbl X, O, by omega, by rw [HY.out, HD.out], rfl, by go_num, hd2, hO, HM.out, trivial⟩
          case measure => simp [intOf]; omega
        · have h2' : 2 * (X : Int) ≤ 255 := by omega
          rw [if_neg h2] at HD
          go_wp2_with fail
          go_roundw
          case rel => exact ⟨k + 1, dbl X, O, by omega, by rw [← HD.out]; go_num, rfl, by go_num, hd2, hO, HM.out, trivial⟩
          case measure => simp [intOf]; omega
    · obtain rfl : k = 8 := by omega
      have hlt' : ¬ ((8 : Nat) : Int) < 8 := by omega
      have hm' : O = mulP a b := by
        simp only [Nat.sub_self, mulL] at hm
        exact hm
      subst hm'
      clear hm
      have ho : ((mulP a b : Nat) : Int) % 256 = ((mulP a b : Nat) : Int) := by omega
      go_wp2_with fail
      go_ret
      exact ⟨rfl, rfl⟩

theorem refmul_ext (a b : Nat) (ha : a < 256) (hb : b < 256) (w : World) : Calls Try.prog 27 #[.int .u8 a, .int .u8 b] w fun e w' => e = .returned (.int .u8 ((mulP a b : Nat) : Int)) ∧ Ext w w' :=
  (refmul_any a b ha hb w).mono fun _ _ ⟨h1, h2⟩ => ⟨h1, h2 ▸ Ext.refl _⟩

set_option maxRecDepth 100000 in
set_option maxHeartbeats 1000000 in
theorem refinv_any (a : Nat) (ha : a < 256) (w : World) : Calls Try.prog 29 #[.int .u8 a] w fun e w' => e = .returned (.int .u8 ((invP a : Nat) : Int)) ∧ w = w' := by
  have hi0 : invP 0 = 0 := by rw [invP_look 0 (by omega)]; kernel_rfl
  have HI0 := Lib.hid hi0
  clear hi0
  go_enter Try.func29, Try.ntmps29
  go_wp2
  go_loopw [3] (fun i wr => ∃ k : Nat, 1 ≤ k ∧ k ≤ 256 ∧ i = .int .i64 k ∧ (∀ j, 1 ≤ j → j < k → mulP a j ≠ 1) ∧ wr = w) (fun i _ => 256 - (intOf i).toNat)
  case atStart => exact ⟨1, by omega, by omega, rfl, fun j h1 h2 => by omega, rfl⟩
  case round =>
    obtain ⟨k, h1k, hk, rfl, hno, rfl⟩ := hrel
    have HN := Lib.hid hno
    clear hno
    by_cases hlt : k < 256
    · have hlt' : (k : Int) < 256 := by omega
      have hkm : (k : Int) % 256 = (k : Int) := by omega
      go_wp2_with fail
      refine (refmul_any a k ha hlt _).mono ?_
      rintro e w1 ⟨rfl, rfl⟩
      by_cases hm : mulP a k = 1
      · have HU := Lib.hid (inv_unique a k ha hlt hm)
        have hm' : (((mulP a k : Nat) : Int) == 1) = true := by rw [hm]; rfl
        clear hm
        go_wp2_with fail
        go_ret
        exact ⟨by rw [← HU.out]; rfl, rfl⟩
      · have hm' : (((mulP a k : Nat) : Int) == 1) = false := beq_eq_false_iff_ne.2 (by omega)
        have HM := Lib.hid hm
        clear hm
        go_wp2_with fail
        go_roundw
        case rel =>
          refine ⟨k + 1, by omega, by omega, by go_num, fun j h1 h2 => ?_, trivial⟩
          by_cases hj : j = k
          · rw [hj]; exact HM.out
          · exact HN.out j h1 (by omega)
        case measure => simp [intOf]; omega
    · obtain rfl : k = 256 := by omega
      have hlt' : ¬ ((256 : Nat) : Int) < 256 := by omega
      have ha0 : a = 0 := by
        refine Classical.byContradiction fun h0 => ?_
        have hi := mulP_inv a ha h0
        have hne : invP a ≠ 0 := fun he => by rw [he, mulP_zero a ha] at hi; cases hi
        exact HN.out (invP a) (by omega) (invP_lt a) hi
      subst ha0
      go_wp2_with fail
      go_ret
      exact ⟨by rw [HI0.out]; rfl, rfl⟩

/-- The box's sum after i turns. -/
def boxQ (y : Nat) : Nat → Nat
  | 0 => y ^^^ 99
  | i + 1 => boxQ y i ^^^ rot y (i + 1)
theorem boxQ_lt (y : Nat) (hy : y < 256) : ∀ i, boxQ y i < 256
  | 0 => xor_lt hy (by omega)
  | i + 1 => xor_lt (boxQ_lt y hy i) (rot_lt _ _ hy)
theorem boxQ_four (y : Nat) : boxQ y 4 = boxA y := by
  simp only [boxQ, boxA]
  ac_rfl

set_option maxRecDepth 100000 in
set_option maxHeartbeats 1000000 in
theorem refbox_any (y : Nat) (hy : y < 256) (w : World) : Calls Try.prog 56 #[.int .u8 y] w fun e w' => e = .returned (.int .u8 ((boxA y : Nat) : Int)) ∧ Ext w w' := by
  go_enter Try.func56, Try.ntmps56
  have h99 : bits .xor .u8 ((y : Nat) : Int) 99 = ((boxQ y 0 : Nat) : Int) := u8_xor_nat y 99 hy (by omega)
  go_wp2
  go_loopw [3, 4] (fun o i wr => ∃ k : Nat, 1 ≤ k ∧ k ≤ 5 ∧ o = .int .u8 ((boxQ y (k - 1) : Nat) : Int) ∧ i = .int .i64 k ∧ Ext w wr) (fun _ i _ => 5 - (intOf i).toNat)
  case atStart => exact ⟨1, by omega, by omega, rfl, rfl, Ext.refl _⟩
  case round =>
    clear h99
    obtain ⟨k, h1k, hk, rfl, rfl, hx⟩ := hrel
    by_cases hlt : k < 5
    · have hlt' : (k : Int) < 5 := by omega
      go_wp2_with fail
      go_quiet (fail)
      have hor : bits .or .u8 ((y : Int) * 2 ^ k % 256) ((y : Int) / 2 ^ (8 - k)) = ((rot y k : Nat) : Int) := by
        have e1 : ((y : Int) / 2 ^ (8 - k)) = ((y / 2 ^ (8 - k) : Nat) : Int) := by simp
        have e2 : ((y : Int) * 2 ^ k % 256) = ((y * 2 ^ k % 256 : Nat) : Int) := by simp
        rw [e1, e2, u8_or_nat _ _ (by omega) (Nat.lt_of_le_of_lt (Nat.div_le_self _ _) hy)]
        rfl
      have hq : boxQ y (k - 1) ^^^ rot y k = boxQ y k := by
        obtain ⟨m, rfl⟩ : ∃ m, k = m + 1 := ⟨k - 1, by omega⟩
        rfl
      rw [hor, u8_xor_nat _ _ (boxQ_lt y hy _) (rot_lt _ _ hy), hq]
      clear hor hq
      go_wp2_with fail
      go_roundw
      case rel => exact ⟨k + 1, by omega, by omega, rfl, by go_num, hx.trans (Ext.drewN _ _)⟩
      case measure => simp [intOf]; omega
    · obtain rfl : k = 5 := by omega
      have hlt' : ¬ ((5 : Nat) : Int) < 5 := by omega
      go_wp2_with fail
      go_ret
      exact ⟨by rw [← boxQ_four]; rfl, hx⟩

set_option maxRecDepth 100000 in
set_option maxHeartbeats 1000000 in
theorem refBox_any (a : Nat) (ha : a < 256) (w : World) : Calls Try.prog 31 #[.int .u8 a] w fun e w' => e = .returned (.int .u8 ((boxP a : Nat) : Int)) ∧ Ext w w' := by
  go_enter Try.func31, Try.ntmps31
  go_wp2_with fail
  refine (refinv_any a ha _).mono ?_
  rintro e w1 ⟨rfl, rfl⟩
  go_wp2_with fail
  refine (refbox_any _ (invP_lt a) _).mono ?_
  rintro e w2 ⟨rfl, hx⟩
  go_wp2_with fail
  go_ret
  exact ⟨rfl, hx⟩

theorem refinv_ext (a : Nat) (ha : a < 256) (w : World) : Calls Try.prog 29 #[.int .u8 a] w fun e w' => e = .returned (.int .u8 ((invP a : Nat) : Int)) ∧ Ext w w' :=
  (refinv_any a ha w).mono fun _ _ ⟨h1, h2⟩ => ⟨h1, h2 ▸ Ext.refl _⟩

end Go.Proofs.Ytnigpobbckampaa
namespace Go.Proofs.Ytnigpobbckampaa
set_option linter.unusedSimpArgs false
set_option linter.unusedVariables false
open Go.RowKit

/-- The table as it is filled. -/
def outS : Nat → Nat → Nat
  | 0 => fun j => if j = 0 then 99 else 0
  | k + 1 => fun j => if j = pw k then boxA (pw ((255 - k) % 255)) else outS k j
theorem outS_ok : (List.range 256).all (fun j => outS 255 j == look boxT j) = true := by kernel_rfl
theorem outS_end : row 256 (outS 255) = row 256 boxP := row_congr fun j hj => by
  have := List.all_eq_true.1 outS_ok j (List.mem_range.2 hj)
  rw [boxP_look j hj]
  simpa using this
theorem outS_succ (k : Nat) : row 256 (outS (k + 1)) = row 256 (upd (outS k) (pw k) (boxA (pw ((255 - k) % 255)))) := row_congr fun j _ => by
  simp only [outS, upd]
theorem outS_zero : row 256 (upd (fun _ => 0) 0 99) = row 256 (outS 0) := row_congr fun j _ => by
  simp only [outS, upd]
theorem three_ok : (List.range 256).all (fun x => mulP x 3 == x ^^^ dbl x) = true := by kernel_rfl
theorem mulP_three (x : Nat) (hx : x < 256) : mulP x 3 = x ^^^ dbl x := by
  have := List.all_eq_true.1 three_ok x (List.mem_range.2 hx)
  simpa using this
theorem boxA_zero : boxA 0 = 99 := by kernel_rfl

set_option maxRecDepth 100000 in
set_option maxHeartbeats 1000000 in
theorem boxes_any (w : World) : Calls Try.prog 51 #[] w fun e w' => e = .returned (.agg (row 256 boxP)) ∧ Ext w w' := by
  go_enter Try.func51, Try.ntmps51
  go_wp2_with (first | (refine wl_allocA rfl 52 rfl _ zero52 ?_) | (refine wl_allocA rfl 96 rfl _ zero96 ?_))
  have hB1 : Blk ((w.alloc (.cells (row 256 fun _ => 0) 52)).alloc (.cells (row 255 fun _ => 0) 96)) (w.heap.size + 1) 96 (row 255 fun _ => 0) := heap_alloc2_new w _ _
  have hB0 : Blk ((w.alloc (.cells (row 256 fun _ => 0) 52)).alloc (.cells (row 255 fun _ => 0) 96)) w.heap.size 52 (row 256 fun _ => 0) := heap_alloc2_old w _ _
  go_loopw [2, 3] (fun v2 v3 wr => ∃ k : Nat, k ≤ 255 ∧ v3 = .int .i64 k ∧ v2 = .int .u8 (pw k : Nat) ∧ Blk wr (w.heap.size + 1) 96 (row 255 (pwS k)) ∧ Blk wr w.heap.size 52 (row 256 fun _ => 0) ∧ Ext w wr)
    (fun _ v3 _ => 255 - (intOf v3).toNat)
  case atStart =>
    refine ⟨0, by omega, rfl, rfl, ?_, hB0, (Ext.alloc _ _).trans (Ext.alloc _ _)⟩
    rw [show row 255 (pwS 0) = row 255 (fun _ => 0) from row_congr (fun j _ => by simp [pwS])]
    exact hB1
  case round =>
    clear hB0 hB1
    obtain ⟨k, hk, rfl, rfl, hb1, hb0, hx⟩ := hrel
    have hpw := pw_lt k
    have hsz := hx.size
    by_cases hlt : k < 255
    · have hlt' : (k : Int) < 255 := by omega
      have hc := hb1.byte k hlt
      have hf := hb1.frozen k
      have H1 := Lib.hid hb1
      have H0 := Lib.hid hb0
      clear hb1 hb0
      go_wp2_with fail
      refine (refmul_any (pw k) 3 hpw (by omega) _).mono ?_
      rintro e w1 ⟨rfl, rfl⟩
      go_wp2_with fail
      go_roundw
      case rel =>
        refine ⟨k + 1, by omega, by go_num, ?_, ?_, ?_, ?_⟩
        · rw [mulP_three _ hpw]; rfl
        · rw [pwS_succ]; exact H1.out.setB k _
        · exact H0.out.other _ (by simp)
        · exact hx.setCell (by simp) _
      case measure => simp [intOf]; omega
    · obtain rfl : k = 255 := by omega
      have hlt' : ¬ ((255 : Nat) : Int) < 255 := by omega
      have H1 := Lib.hid hb1
      have H0 := Lib.hid hb0
      clear hb1 hb0 hpw hlt
      go_wp2_with (refine wl_allocA rfl 52 rfl _ zero52 ?_)
      refine (refbox_any 0 (by omega) _).mono ?_
      rintro e w1 ⟨rfl, hx1⟩
      rw [boxA_zero]
      have hN : Blk w1 wr.heap.size 52 (row 256 fun _ => 0) := (Blk.new wr _ _).ext hx1
      have h1 : Blk w1 (w.heap.size + 1) 96 (row 255 (pwS 255)) := (H1.out.alloc _).ext hx1
      have h0 : Blk w1 w.heap.size 52 (row 256 fun _ => 0) := (H0.out.alloc _).ext hx1
      have hx2 : Ext w w1 := (hx.trans (Ext.alloc _ _)).trans hx1
      have hg2 : w.heap.size + 1 < wr.heap.size := H1.out.lt
      generalize wr.heap.size = gt at hN hg2 ⊢
      clear hx1 H1 H0 hsz hx
      have hc0 := hN.byte 0 (by omega)
      have hf0 := hN.frozen 0
      have HN := Lib.hid hN
      have H1 := Lib.hid h1
      have H0 := Lib.hid h0
      have HX := Lib.hid hx2
      clear hN h1 h0 hx2
      go_wp2_with fail
      have hN : Blk (w1.setCell ⟨gt, 0, none⟩ (.int .u8 99)) gt 52 (row 256 (outS 0)) := by
        rw [← outS_zero]
        exact HN.out.setB 0 99
      have h1 : Blk (w1.setCell ⟨gt, 0, none⟩ (.int .u8 99)) (w.heap.size + 1) 96 (row 255 (pwS 255)) := H1.out.other _ (by simp; omega)
      have h0 : Blk (w1.setCell ⟨gt, 0, none⟩ (.int .u8 99)) w.heap.size 52 (row 256 fun _ => 0) := H0.out.other _ (by simp; omega)
      have hx2 : Ext w (w1.setCell ⟨gt, 0, none⟩ (.int .u8 99)) := HX.out.setCell (by simp; omega) _
      clear HN H1 H0 HX hc0 hf0
      go_loopw [5] (fun v5 wr => ∃ k : Nat, k ≤ 255 ∧ v5 = .int .i64 k ∧ Blk wr gt 52 (row 256 (outS k)) ∧ Blk wr (w.heap.size + 1) 96 (row 255 (pwS 255)) ∧ Blk wr w.heap.size 52 (row 256 fun _ => 0) ∧ Ext w wr) (fun v5 _ => 255 - (intOf v5).toNat)
      case atStart => exact ⟨0, by omega, rfl, hN, h1, h0, hx2⟩
      case round =>
        clear hN h1 h0 hx2
        obtain ⟨k, hk, rfl, hN, h1, h0, hx⟩ := hrel
        have hpw := pw_lt k
        have hpi := pw_lt ((255 - k) % 255)
        have hmod : (255 - k) % 255 < 255 := Nat.mod_lt _ (by omega)
        by_cases hlt : k < 255
        · have hlt' : (k : Int) < 255 := by omega
          have q0 := h1.byte k hlt
          have q1 := h1.byte ((255 - k) % 255) hmod
          have e0 : pwS 255 k = pw k := by simp only [pwS]; rw [if_pos hlt]
          have e1 : pwS 255 ((255 - k) % 255) = pw ((255 - k) % 255) := by simp only [pwS]; rw [if_pos hmod]
          rw [e0] at q0
          rw [e1] at q1
          have q2 : wr.cell? ⟨w.heap.size + 1, (-(k : Int) % 255).toNat, none⟩ = some (.int .u8 ((pw ((255 - k) % 255) : Nat) : Int)) := by
            rw [show (-(k : Int) % 255).toNat = (255 - k) % 255 by omega]; exact q1
          have hkm : -(k : Int) % 255 < 255 := by omega
          have hkm0 : 0 ≤ -(k : Int) % 255 := by omega
          clear e0 e1 q1
          have HN := Lib.hid hN
          have H1 := Lib.hid h1
          have H0 := Lib.hid h0
          clear hN h1 h0
          go_wp2_with fail
          apply wp_region_mid 10 [.det _, .det _, .det _, .det _, .det _, .det _, .det _, .det _, .det _, .det _] (by kernel_rfl) rfl (by kernel_rfl)
          · (first | (refine wpE_move rfl rfl rfl ?_; simp only [put_lit, eval_lit, BigFrame.eval_const, List.set_cons_succ, List.set_cons_zero, List.getD_cons_succ, List.getD_cons_zero]) | (refine wpE_run rfl rfl (by simp) (fun w1 hx1 _ K hK => by go_step; exact hK _ (Ext.refl _)) ?_; simp only [put_lit, List.set_cons_succ, List.set_cons_zero]))
            (first | (refine wpE_move rfl rfl rfl ?_; simp only [put_lit, eval_lit, BigFrame.eval_const, List.set_cons_succ, List.set_cons_zero, List.getD_cons_succ, List.getD_cons_zero]) | (refine wpE_run rfl rfl (by simp) (fun w1 hx1 _ K hK => by go_step; exact hK _ (Ext.refl _)) ?_; simp only [put_lit, List.set_cons_succ, List.set_cons_zero]))
            (refine wpE_run rfl rfl (by simp) (fun w1 hx1 _ K hK => by have hc := hx1.cell q0; go_step; exact hK _ (Ext.refl _)) ?_); simp only [put_lit, List.set_cons_succ, List.set_cons_zero]
            (first | (refine wpE_move rfl rfl rfl ?_; simp only [put_lit, eval_lit, BigFrame.eval_const, List.set_cons_succ, List.set_cons_zero, List.getD_cons_succ, List.getD_cons_zero]) | (refine wpE_run rfl rfl (by simp) (fun w1 hx1 _ K hK => by go_step; exact hK _ (Ext.refl _)) ?_; simp only [put_lit, List.set_cons_succ, List.set_cons_zero]))
            (first | (refine wpE_move rfl rfl rfl ?_; simp only [put_lit, eval_lit, BigFrame.eval_const, List.set_cons_succ, List.set_cons_zero, List.getD_cons_succ, List.getD_cons_zero]) | (refine wpE_run rfl rfl (by simp) (fun w1 hx1 _ K hK => by go_step; exact hK _ (Ext.refl _)) ?_; simp only [put_lit, List.set_cons_succ, List.set_cons_zero]))
            (first | (refine wpE_move rfl rfl rfl ?_; simp only [put_lit, eval_lit, BigFrame.eval_const, List.set_cons_succ, List.set_cons_zero, List.getD_cons_succ, List.getD_cons_zero]) | (refine wpE_run rfl rfl (by simp) (fun w1 hx1 _ K hK => by go_step; exact hK _ (Ext.refl _)) ?_; simp only [put_lit, List.set_cons_succ, List.set_cons_zero]))
            (first | (refine wpE_move rfl rfl rfl ?_; simp only [put_lit, eval_lit, BigFrame.eval_const, List.set_cons_succ, List.set_cons_zero, List.getD_cons_succ, List.getD_cons_zero]) | (refine wpE_run rfl rfl (by simp) (fun w1 hx1 _ K hK => by go_step; exact hK _ (Ext.refl _)) ?_; simp only [put_lit, List.set_cons_succ, List.set_cons_zero]))
            (refine wpE_run rfl rfl (by simp) (fun w1 hx1 _ K hK => by have hc := hx1.cell q2; go_step; exact hK _ (Ext.refl _)) ?_); simp only [put_lit, List.set_cons_succ, List.set_cons_zero]
            (refine wpE_run rfl rfl (by simp) (fun w1 hx1 _ K hK => by go_wp2_with (go_at_call 56; refine (refbox_any _ hpi _).mono ?_; rintro e w2 ⟨rfl, hx2⟩; exact hK _ hx2)) ?_); simp only [put_lit, List.set_cons_succ, List.set_cons_zero]
            (first | (refine wpE_move rfl rfl rfl ?_; simp only [put_lit, eval_lit, BigFrame.eval_const, List.set_cons_succ, List.set_cons_zero, List.getD_cons_succ, List.getD_cons_zero]) | (refine wpE_run rfl rfl (by simp) (fun w1 hx1 _ K hK => by go_step; exact hK _ (Ext.refl _)) ?_; simp only [put_lit, List.set_cons_succ, List.set_cons_zero]))
            (refine wpE_nil ?_; intro w2 hw2 hF; simp only [List.drop_succ_cons, List.drop_zero])
            have hcc := hw2.cell ((HN.out.cell (pw k)).trans (row_get _ _ _ hpw))
            have hff := (HN.out.ext hw2).frozen (pw k)
            clear hF q0 q2
            go_wp2_with fail
            go_roundw
            case rel =>
              refine ⟨k + 1, by omega, by go_num, ?_, (H1.out.ext hw2).other _ (by simp; omega), (H0.out.ext hw2).other _ (by simp; omega), (hx.trans hw2).setCell (by simp; omega) _⟩
              rw [outS_succ]
              exact (HN.out.ext hw2).setB _ _
            case measure => simp [intOf]; omega
        · obtain rfl : k = 255 := by omega
          have hlt' : ¬ ((255 : Nat) : Int) < 255 := by omega
          have HN := Lib.hid hN
          have H0 := Lib.hid h0
          clear hN h1 h0 hpw hpi hmod
          go_wp2_with (first | (refine wl_loadA rfl 52 _ rfl gt 0 256 rfl agg52 sz52 _ _ HN.out (by simp [row_size]) (row 256 boxP) ?e3 ?_) | (refine wl_storeA rfl 52 _ _ rfl _ 0 256 rfl (row 256 boxP) rfl sz52 (row_size _ _) _ _ H0.out (by simp [row_size]) (row_one _ _) (row 256 boxP) (lay_all _ _ (by simp [row_size])) ?_))
          case e3 => rw [row_whole, outS_end]
          refine bodyPost_ret (results_blk rfl _ _ w.heap.size 256 52 (row 256 boxP) rfl (H0.out.setRow _) agg52 sz52 (row_size _ _).symm) rfl ?_
          exact ⟨rfl, below_setRow (g := w.heap.size) hx (by omega) _⟩

set_option maxRecDepth 100000 in
set_option maxHeartbeats 1000000 in
theorem refxor_any (f g : Nat → Nat) (hf : ∀ j, j < 16 → f j < 256) (hg : ∀ j, j < 16 → g j < 256) (w : World) :
    Calls Try.prog 54 #[.agg (row 16 f), .agg (row 16 g)] w fun e w' => e = .returned (.agg (row 16 fun j => f j ^^^ g j)) ∧ Ext w w' := by
  go_enter Try.func54, Try.ntmps54
  go_wp2_with (first | (refine wl_allocA rfl 23 rfl _ zero23 ?_) | (refine wl_boxA rfl 23 _ rfl _ rfl ?_))
  have hB0 : Blk (((w.alloc (.cells (row 16 f) 23)).alloc (.cells (row 16 g) 23)).alloc (.cells (row 16 fun _ => 0) 23)) w.heap.size 23 (row 16 f) := ((Blk.new w _ _).alloc _).alloc _
  have hB1 : Blk (((w.alloc (.cells (row 16 f) 23)).alloc (.cells (row 16 g) 23)).alloc (.cells (row 16 fun _ => 0) 23)) (w.heap.size + 1) 23 (row 16 g) := by
    have := (Blk.new (w.alloc (.cells (row 16 f) 23)) 23 (row 16 g)).alloc (.cells (row 16 fun _ => 0) 23)
    simpa using this
  have hB2 : Blk (((w.alloc (.cells (row 16 f) 23)).alloc (.cells (row 16 g) 23)).alloc (.cells (row 16 fun _ => 0) 23)) (w.heap.size + 2) 23 (row 16 fun _ => 0) := by
    have := (Blk.new ((w.alloc (.cells (row 16 f) 23)).alloc (.cells (row 16 g) 23)) 23 (row 16 fun _ => 0))
    simpa using this
  go_loopw [5] (fun v5 wr => ∃ k : Nat, k ≤ 16 ∧ v5 = .int .i64 k ∧ Blk wr w.heap.size 23 (row 16 (mixF k (fun j => f j ^^^ g j) f)) ∧ Blk wr (w.heap.size + 1) 23 (row 16 g) ∧ Blk wr (w.heap.size + 2) 23 (row 16 fun _ => 0) ∧ Ext w wr)
    (fun v5 _ => 16 - (intOf v5).toNat)
  case atStart =>
    refine ⟨0, by omega, rfl, ?_, hB1, hB2, ((Ext.alloc _ _).trans (Ext.alloc _ _)).trans (Ext.alloc _ _)⟩
    rw [mixF_zero]
    exact hB0
  case round =>
    clear hB0 hB1 hB2
    obtain ⟨k, hk, rfl, hb0, hb1, hb2, hx⟩ := hrel
    by_cases hlt : k < 16
    · have hlt' : (k : Int) < 16 := by omega
      have hc0 : wr.cell? ⟨w.heap.size, k, none⟩ = some (.int .u8 ((f k : Nat) : Int)) := by rw [hb0.byte k hlt, mixF_at]
      have hc1 := hb1.byte k hlt
      have hfr := hb0.frozen k
      have H0 := Lib.hid hb0
      have H1 := Lib.hid hb1
      have H2 := Lib.hid hb2
      clear hb0 hb1 hb2
      go_wp2_with fail
      apply wp_region_mid 8 [.det _, .det _, .det _, .det _, .det _, .det _, .det _, .det _] (by kernel_rfl) rfl (by kernel_rfl)
      · (first | (refine wpE_move rfl rfl rfl ?_; simp only [put_lit, eval_lit, BigFrame.eval_const, List.set_cons_succ, List.set_cons_zero, List.getD_cons_succ, List.getD_cons_zero]) | (refine wpE_run rfl rfl (by simp) (fun w1 hx1 _ K hK => by go_step; exact hK _ (Ext.refl _)) ?_; simp only [put_lit, List.set_cons_succ, List.set_cons_zero]))
        (first | (refine wpE_move rfl rfl rfl ?_; simp only [put_lit, eval_lit, BigFrame.eval_const, List.set_cons_succ, List.set_cons_zero, List.getD_cons_succ, List.getD_cons_zero]) | (refine wpE_run rfl rfl (by simp) (fun w1 hx1 _ K hK => by go_step; exact hK _ (Ext.refl _)) ?_; simp only [put_lit, List.set_cons_succ, List.set_cons_zero]))
        (first | (refine wpE_move rfl rfl rfl ?_; simp only [put_lit, eval_lit, BigFrame.eval_const, List.set_cons_succ, List.set_cons_zero, List.getD_cons_succ, List.getD_cons_zero]) | (refine wpE_run rfl rfl (by simp) (fun w1 hx1 _ K hK => by go_step; exact hK _ (Ext.refl _)) ?_; simp only [put_lit, List.set_cons_succ, List.set_cons_zero]))
        (refine wpE_run rfl rfl (by simp) (fun w1 hx1 _ K hK => by have hc := hx1.cell hc0; go_step; exact hK _ (Ext.refl _)) ?_); simp only [put_lit, List.set_cons_succ, List.set_cons_zero]
        (first | (refine wpE_move rfl rfl rfl ?_; simp only [put_lit, eval_lit, BigFrame.eval_const, List.set_cons_succ, List.set_cons_zero, List.getD_cons_succ, List.getD_cons_zero]) | (refine wpE_run rfl rfl (by simp) (fun w1 hx1 _ K hK => by go_step; exact hK _ (Ext.refl _)) ?_; simp only [put_lit, List.set_cons_succ, List.set_cons_zero]))
        (first | (refine wpE_move rfl rfl rfl ?_; simp only [put_lit, eval_lit, BigFrame.eval_const, List.set_cons_succ, List.set_cons_zero, List.getD_cons_succ, List.getD_cons_zero]) | (refine wpE_run rfl rfl (by simp) (fun w1 hx1 _ K hK => by go_step; exact hK _ (Ext.refl _)) ?_; simp only [put_lit, List.set_cons_succ, List.set_cons_zero]))
        (refine wpE_run rfl rfl (by simp) (fun w1 hx1 _ K hK => by have hc := hx1.cell hc1; go_step; exact hK _ (Ext.refl _)) ?_); simp only [put_lit, List.set_cons_succ, List.set_cons_zero]
        (first | (refine wpE_move rfl rfl rfl ?_; simp only [put_lit, eval_lit, BigFrame.eval_const, List.set_cons_succ, List.set_cons_zero, List.getD_cons_succ, List.getD_cons_zero]) | (refine wpE_run rfl rfl (by simp) (fun w1 hx1 _ K hK => by go_step; exact hK _ (Ext.refl _)) ?_; simp only [put_lit, List.set_cons_succ, List.set_cons_zero]))
        rw [u8_xor_nat _ _ (hf k hlt) (hg k hlt)]
        (refine wpE_nil ?_; intro w2 hw2 hF; simp only [List.drop_succ_cons, List.drop_zero])
        have hcc := hw2.cell hc0
        have hff := (H0.out.ext hw2).frozen k
        clear hF hc0 hc1 hfr
        go_wp2_with fail
        go_roundw
        case rel =>
          refine ⟨k + 1, by omega, by go_num, ?_, (H1.out.ext hw2).other _ (by simp), (H2.out.ext hw2).other _ (by simp), (hx.trans hw2).setCell (by simp) _⟩
          rw [← mixF_upd]
          exact (H0.out.ext hw2).setB k _
        case measure => simp [intOf]; omega
    · obtain rfl : k = 16 := by omega
      have hlt' : ¬ ((16 : Nat) : Int) < 16 := by omega
      have H0 := Lib.hid hb0
      have H2 := Lib.hid hb2
      clear hb0 hb1 hb2 hlt hk
      go_wp2_with (first | (refine wl_loadA rfl 23 _ rfl _ 0 16 rfl agg23 sz23 _ _ H0.out (by simp [row_size]) (row 16 fun j => f j ^^^ g j) ?e3 ?_) | (refine wl_storeA rfl 23 _ _ rfl _ 0 16 rfl (row 16 fun j => f j ^^^ g j) rfl sz23 (row_size _ _) _ _ H2.out (by simp [row_size]) (row_one _ _) (row 16 fun j => f j ^^^ g j) (lay_all _ _ (by simp [row_size])) ?_))
      case e3 => rw [row_whole, row_mix]
      refine bodyPost_ret (results_blk rfl _ _ (w.heap.size + 2) 16 23 (row 16 fun j => f j ^^^ g j) rfl (H2.out.setRow _) agg23 sz23 (row_size _ _).symm) rfl ?_
      exact ⟨rfl, below_setRow (g := w.heap.size + 2) hx (by omega) _⟩

end Go.Proofs.Ytnigpobbckampaa
