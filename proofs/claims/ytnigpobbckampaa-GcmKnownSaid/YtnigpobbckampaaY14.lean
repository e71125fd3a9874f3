/- The reference's Times, walked. -/
import Derived.Test.YtnigpobbckampaaY0
import Derived.Test.YtnigpobbckampaaG0
namespace Go.Proofs.Ytnigpobbckampaa
open Go.RowKit
set_option linter.unusedSimpArgs false
set_option linter.unusedVariables false

/-- A byte of half the number. -/
def shF (A : Nat → Nat) (j : Nat) : Nat := A j / 2 + (if 0 < j then A (j - 1) % 2 * 128 else 0)
def sftF (A : Nat → Nat) (u : Nat) : Nat → Nat := fun j => if u ≤ j then shF A j else A j
theorem byP_half (X j : Nat) (hX : X < 2 ^ 128) (hj : j < 16) : byP (X / 2) j = shF (byP X) j := by
  unfold shF byP
  rcases Nat.eq_zero_or_pos j with rfl | h0
  · rw [if_neg (by omega), show 8 * (15 - 0) = 120 from rfl]
    omega
  · rw [if_pos h0, show 8 * (15 - (j - 1)) = 8 * (15 - j) + 8 by omega, Nat.pow_add, Nat.div_div_eq_div_mul, Nat.mul_comm 2, ← Nat.div_div_eq_div_mul, ← Nat.div_div_eq_div_mul]
    generalize X / 2 ^ (8 * (15 - j)) = Z
    omega
theorem byP_fold (j : Nat) (hj : j < 16) : byP fold128 j = if j = 0 then 225 else 0 := by
  have h : (List.range 16).all (fun j => byP fold128 j == if j = 0 then 225 else 0) = true := by kernel_rfl
  simpa using List.all_eq_true.1 h j (List.mem_range.2 hj)
theorem byP_zero (j : Nat) : byP 0 j = 0 := by unfold byP; simp
theorem byP_nx (X j : Nat) (hX : X < 2 ^ 128) (hj : j < 16) : byP (nx X) j = if byP X 15 % 2 = 1 ∧ j = 0 then shF (byP X) 0 ^^^ 225 else shF (byP X) j := by
  have h15 : byP X 15 % 2 = X % 2 := by unfold byP; simp
  unfold nx
  rw [byP_xor, byP_half X j hX hj, h15]
  by_cases h : X % 2 = 1
  · rw [if_pos h, byP_fold j hj]
    by_cases h0 : j = 0
    · subst h0; rw [if_pos rfl, if_pos ⟨h, rfl⟩]
    · rw [if_neg h0, if_neg (by omega), Nat.xor_zero]
  · rw [if_neg h, if_neg (by omega), byP_zero, Nat.xor_zero]
theorem row_nx (X : Nat) (hX : X < 2 ^ 128) (h : byP X 15 % 2 = 1) : row 16 (upd (sftF (byP X) 0) 0 (shF (byP X) 0 ^^^ 225)) = row 16 (byP (nx X)) := row_congr fun j hj => by
  rw [byP_nx X j hX hj]
  by_cases h0 : j = 0
  · subst h0; rw [upd_same, if_pos ⟨h, rfl⟩]
  · rw [upd_other _ _ _ _ h0, if_neg (by omega)]; simp [sftF]
theorem row_nx0 (X : Nat) (hX : X < 2 ^ 128) (h : ¬ byP X 15 % 2 = 1) : row 16 (sftF (byP X) 0) = row 16 (byP (nx X)) := row_congr fun j hj => by
  rw [byP_nx X j hX hj, if_neg (by omega)]; simp [sftF]
theorem bit_be {y : Nat → Nat} (hy : ∀ j, j < 16 → y j < 256) (i : Nat) (hi : i < 128) : y (i / 8) / 2 ^ (7 - i % 8) % 2 = 1 ↔ (be y 16).testBit (127 - i) = true := by
  rw [Nat.testBit_eq_decide_div_mod_eq, decide_eq_true_eq, ← be_at 16 (i / 8) hy (by omega), show 127 - i = 8 * (16 - 1 - i / 8) + (7 - i % 8) by omega, Nat.pow_add, ← Nat.div_div_eq_div_mul]
  generalize be y 16 / 2 ^ (8 * (16 - 1 - i / 8)) = Z
  have h : ∀ r, r < 8 → (Z % 256 / 2 ^ r % 2 = 1 ↔ Z / 2 ^ r % 2 = 1) := by
    intro r hr
    rcases (by omega : r = 0 ∨ r = 1 ∨ r = 2 ∨ r = 3 ∨ r = 4 ∨ r = 5 ∨ r = 6 ∨ r = 7) with rfl | rfl | rfl | rfl | rfl | rfl | rfl | rfl <;> omega
  exact h _ (by omega)

set_option maxRecDepth 100000 in
set_option maxHeartbeats 1000000 in
theorem reftimes33_any (x y : Nat → Nat) (hx : ∀ j, j < 16 → x j < 256) (hy : ∀ j, j < 16 → y j < 256) (w : World) :
    Calls Try.prog 33 #[.agg (row 16 x), .agg (row 16 y)] w fun e w' => e = .returned (.agg (row 16 (tmsB x y))) ∧ Ext w w' := by
  have hX : be x 16 < 2 ^ 128 := be_lt 16 hx
  obtain ⟨X, hXe⟩ : ∃ X, X = be x 16 := ⟨_, rfl⟩
  obtain ⟨Y, hYe⟩ : ∃ Y, Y = be y 16 := ⟨_, rfl⟩
  have hbit := fun i hi => bit_be hy i hi
  have hx0 : row 16 x = row 16 (byP (mx X 0)) := row_congr fun j hj => by rw [hXe]; exact (byP_be hx j hj).symm
  have h00 : row 16 (fun _ => 0) = row 16 (byP (acc X Y 0)) := row_congr fun j hj => (byP_zero j).symm
  have hfin : tmsB x y = byP (acc X Y 128) := by unfold tmsB tms; rw [hXe, hYe]
  rw [hfin]
  rw [← hYe] at hbit
  rw [← hXe] at hX
  have HBIT := Lib.hid hbit
  have HY := Lib.hid hy
  clear hbit hXe hYe hfin hx hy
  go_enter Try.func33, Try.ntmps33
  go_upto_region 2 with (first | (refine wl_allocA rfl 23 rfl _ zero23 ?_) | (refine wl_boxA rfl 23 _ rfl _ rfl ?_))
  have hB0 : Blk ((((w.alloc (.cells (row 16 x) 23)).alloc (.cells (row 16 y) 23)).alloc (.cells (row 16 fun _ => 0) 23)).alloc (.cells (row 16 fun _ => 0) 23)) w.heap.size 23 (row 16 x) := (((Blk.new w _ _).alloc _).alloc _).alloc _
  have hB1 : Blk ((((w.alloc (.cells (row 16 x) 23)).alloc (.cells (row 16 y) 23)).alloc (.cells (row 16 fun _ => 0) 23)).alloc (.cells (row 16 fun _ => 0) 23)) (w.heap.size + 1) 23 (row 16 y) := by
    have := ((Blk.new (w.alloc (.cells (row 16 x) 23)) 23 (row 16 y)).alloc (.cells (row 16 fun _ => 0) 23)).alloc (.cells (row 16 fun _ => 0) 23)
    simpa only [World.size_alloc] using this
  have hB2 : Blk ((((w.alloc (.cells (row 16 x) 23)).alloc (.cells (row 16 y) 23)).alloc (.cells (row 16 fun _ => 0) 23)).alloc (.cells (row 16 fun _ => 0) 23)) (w.heap.size + 2) 23 (row 16 fun _ => 0) := by
    have := (Blk.new ((w.alloc (.cells (row 16 x) 23)).alloc (.cells (row 16 y) 23)) 23 (row 16 fun _ => 0)).alloc (.cells (row 16 fun _ => 0) 23)
    simpa only [World.size_alloc] using this
  have hB3 : Blk ((((w.alloc (.cells (row 16 x) 23)).alloc (.cells (row 16 y) 23)).alloc (.cells (row 16 fun _ => 0) 23)).alloc (.cells (row 16 fun _ => 0) 23)) (w.heap.size + 3) 23 (row 16 fun _ => 0) := by
    have := (Blk.new (((w.alloc (.cells (row 16 x) 23)).alloc (.cells (row 16 y) 23)).alloc (.cells (row 16 fun _ => 0) 23)) 23 (row 16 fun _ => 0))
    simpa only [World.size_alloc] using this
  have hxx : Ext w ((((w.alloc (.cells (row 16 x) 23)).alloc (.cells (row 16 y) 23)).alloc (.cells (row 16 fun _ => 0) 23)).alloc (.cells (row 16 fun _ => 0) 23)) := (((Ext.alloc _ _).trans (Ext.alloc _ _)).trans (Ext.alloc _ _)).trans (Ext.alloc _ _)
  simp only [put_lit, List.set_cons_succ, List.set_cons_zero, World.size_alloc]
  generalize (((w.alloc (.cells (row 16 x) 23)).alloc (.cells (row 16 y) 23)).alloc (.cells (row 16 fun _ => 0) 23)).alloc (.cells (row 16 fun _ => 0) 23) = w1 at hB0 hB1 hB2 hB3 hxx ⊢
  obtain ⟨gs, hgs⟩ : ∃ g, g = w.heap.size := ⟨_, rfl⟩
  rw [← hgs] at hB0 hB1 hB2 hB3 ⊢
  have HG := Lib.hid hgs
  rw [hx0] at hB0
  have hB3' : Blk w1 (gs + 3) 23 (row 16 (byP (acc X Y 0))) := by rw [← h00]; exact hB3
  clear hgs hx0 hB3
  simp only [show gs + 1 + 1 = gs + 2 from rfl, show gs + 2 + 1 = gs + 3 from rfl]
  go_wp2_with fail
  go_loopw [6] (fun v6 wr => ∃ i : Nat, i ≤ 128 ∧ v6 = .int .i64 i ∧ Blk wr gs 23 (row 16 (byP (mx X i))) ∧ Blk wr (gs + 1) 23 (row 16 y) ∧ Blk wr (gs + 2) 23 (row 16 fun _ => 0) ∧ Blk wr (gs + 3) 23 (row 16 (byP (acc X Y i))) ∧ Ext w wr) (fun v6 _ => 128 - (intOf v6).toNat)
  case atStart => exact ⟨0, by omega, rfl, hB0, hB1, hB2, hB3', hxx⟩
  case round =>
    clear hB0 hB1 hB2 hB3' hxx h00
    obtain ⟨i, hi, rfl, hb0, hb1, hb2, hb3, hxx⟩ := hrel
    have HB0 := Lib.hid hb0
    have HB1 := Lib.hid hb1
    have HB2 := Lib.hid hb2
    have HB3 := Lib.hid hb3
    have HX := Lib.hid hxx
    clear hb0 hb1 hb2 hb3 hxx
    have hgw : w.heap.size ≤ gs := by have := HG.out; omega
    by_cases hi2 : i < 128
    · have hi' : (i : Int) < 128 := by omega
      have hml := mx_lt hX i
      have hmb := byP_lt (mx X i)
      have hab := byP_lt (acc X Y i)
      have hc1 : w1.cell? ⟨gs + 1, i / 8, none⟩ = w1.cell? ⟨gs + 1, i / 8, none⟩ := rfl
      have hyb := HB1.out.byte (i / 8) (by omega)
      have hyl := HY.out (i / 8) (by omega)
      have htest : (bits .and .u8 (((y (i / 8) : Nat) : Int) / 2 ^ (7 - i % 8)) 1 == 1) = Y.testBit (127 - i) := by
        have e1 : (((y (i / 8) : Nat) : Int) / 2 ^ (7 - i % 8)) = ((y (i / 8) / 2 ^ (7 - i % 8) : Nat) : Int) := by simp
        rw [e1]
        conv => lhs; rw [show (1 : Int) = ((1 : Nat) : Int) from rfl]
        rw [u8_and_nat _ _ (Nat.lt_of_le_of_lt (Nat.div_le_self _ _) hyl) (by omega), Nat.and_one_is_mod]
        have hh := HBIT.out i hi2
        cases hb : Y.testBit (127 - i) with
        | true => rw [hh.2 hb]; rfl
        | false =>
          have : y (i / 8) / 2 ^ (7 - i % 8) % 2 = 0 := by
            rcases Nat.mod_two_eq_zero_or_one (y (i / 8) / 2 ^ (7 - i % 8)) with h | h
            · exact h
            · rw [hh.1 h] at hb; cases hb
          rw [this]
          rfl
      have HT := Lib.hid htest
      clear htest hc1
      go_upto_if 23 with fail
      go_cut [7] from 23 to 36 (fun v7 wx => Blk wx gs 23 (row 16 (byP (mx X i))) ∧ Blk wx (gs + 1) 23 (row 16 y) ∧ Blk wx (gs + 2) 23 (row 16 fun _ => 0) ∧ Blk wx (gs + 3) 23 (row 16 (byP (acc X Y (i + 1)))) ∧ Ext w wx)
      case first =>
        by_cases hb : Y.testBit (127 - i) = true
        · have hT : (bits .and .u8 (((y (i / 8) : Nat) : Int) / 2 ^ (7 - i % 8)) 1 == 1) = true := HT.out.trans hb
          have hacc : acc X Y (i + 1) = acc X Y i ^^^ mx X i := by simp only [acc, hb, if_true]
          have hrow : row 16 (mixF 16 (fun j => byP (acc X Y i) j ^^^ byP (mx X i) j) (byP (acc X Y i))) = row 16 (byP (acc X Y (i + 1))) := row_congr fun j hj => by
            rw [hacc, byP_xor]; simp only [mixF]; rw [if_pos hj]
          have HROW := Lib.hid hrow
          clear hrow hacc hyb
          go_wp2_with fail
          go_loopw [7] (fun v7 wr2 => ∃ k : Nat, k ≤ 16 ∧ v7 = .int .i64 k ∧ Blk wr2 gs 23 (row 16 (byP (mx X i))) ∧ Blk wr2 (gs + 1) 23 (row 16 y) ∧ Blk wr2 (gs + 2) 23 (row 16 fun _ => 0) ∧ Blk wr2 (gs + 3) 23 (row 16 (mixF k (fun j => byP (acc X Y i) j ^^^ byP (mx X i) j) (byP (acc X Y i)))) ∧ Ext w wr2) (fun v7 _ => 16 - (intOf v7).toNat)
          case atStart => exact ⟨0, by omega, rfl, HB0.out, HB1.out, HB2.out, by rw [mixF_zero]; exact HB3.out, HX.out⟩
          case round =>
            clear HB0 HB1 HB2 HB3 HX
            obtain ⟨k, hk, rfl, hb0, hb1, hb2, hb3, hxx⟩ := hrel
            have HB0 := Lib.hid hb0
            have HB1 := Lib.hid hb1
            have HB2 := Lib.hid hb2
            have HB3 := Lib.hid hb3
            have HX := Lib.hid hxx
            clear hb0 hb1 hb2 hb3 hxx
            by_cases hlt : k < 16
            · have hlt' : (k : Int) < 16 := by omega
              have hc3 := HB3.out.byte k hlt
              rw [mixF_at] at hc3
              have hc0 := HB0.out.byte k hlt
              go_upto_region 9 with fail
              apply wp_region_mid 9 [.det _, .det _, .det _, .det _, .det _, .det _, .det _, .det _, .det _] (by kernel_rfl) rfl (by kernel_rfl)
              · (first | (refine wpE_move rfl rfl rfl ?_; simp only [put_lit, eval_lit, BigFrame.eval_const, List.set_cons_succ, List.set_cons_zero, List.getD_cons_succ, List.getD_cons_zero]) | (refine wpE_run rfl rfl (by simp) (fun w1 hx1 _ K hK => by go_step; exact hK _ (Ext.refl _)) ?_; simp only [put_lit, List.set_cons_succ, List.set_cons_zero]))
                (first | (refine wpE_move rfl rfl rfl ?_; simp only [put_lit, eval_lit, BigFrame.eval_const, List.set_cons_succ, List.set_cons_zero, List.getD_cons_succ, List.getD_cons_zero]) | (refine wpE_run rfl rfl (by simp) (fun w1 hx1 _ K hK => by go_step; exact hK _ (Ext.refl _)) ?_; simp only [put_lit, List.set_cons_succ, List.set_cons_zero]))
                (first | (refine wpE_move rfl rfl rfl ?_; simp only [put_lit, eval_lit, BigFrame.eval_const, List.set_cons_succ, List.set_cons_zero, List.getD_cons_succ, List.getD_cons_zero]) | (refine wpE_run rfl rfl (by simp) (fun w1 hx1 _ K hK => by go_step; exact hK _ (Ext.refl _)) ?_; simp only [put_lit, List.set_cons_succ, List.set_cons_zero]))
                (refine wpE_run rfl rfl (by simp) (fun w1 hx1 _ K hK => by have hc := hx1.cell hc3; go_step; exact hK _ (Ext.refl _)) ?_); simp only [put_lit, List.set_cons_succ, List.set_cons_zero]
                (first | (refine wpE_move rfl rfl rfl ?_; simp only [put_lit, eval_lit, BigFrame.eval_const, List.set_cons_succ, List.set_cons_zero, List.getD_cons_succ, List.getD_cons_zero]) | (refine wpE_run rfl rfl (by simp) (fun w1 hx1 _ K hK => by go_step; exact hK _ (Ext.refl _)) ?_; simp only [put_lit, List.set_cons_succ, List.set_cons_zero]))
                (first | (refine wpE_move rfl rfl rfl ?_; simp only [put_lit, eval_lit, BigFrame.eval_const, List.set_cons_succ, List.set_cons_zero, List.getD_cons_succ, List.getD_cons_zero]) | (refine wpE_run rfl rfl (by simp) (fun w1 hx1 _ K hK => by go_step; exact hK _ (Ext.refl _)) ?_; simp only [put_lit, List.set_cons_succ, List.set_cons_zero]))
                (refine wpE_run rfl rfl (by simp) (fun w1 hx1 _ K hK => by have hc := hx1.cell hc0; go_step; exact hK _ (Ext.refl _)) ?_); simp only [put_lit, List.set_cons_succ, List.set_cons_zero]
                (first | (refine wpE_move rfl rfl rfl ?_; simp only [put_lit, eval_lit, BigFrame.eval_const, List.set_cons_succ, List.set_cons_zero, List.getD_cons_succ, List.getD_cons_zero]) | (refine wpE_run rfl rfl (by simp) (fun w1 hx1 _ K hK => by go_step; exact hK _ (Ext.refl _)) ?_; simp only [put_lit, List.set_cons_succ, List.set_cons_zero]))
                rw [u8_xor_nat _ _ (hab k) (hmb k)]
                (first | (refine wpE_move rfl rfl rfl ?_; simp only [put_lit, eval_lit, BigFrame.eval_const, List.set_cons_succ, List.set_cons_zero, List.getD_cons_succ, List.getD_cons_zero]) | (refine wpE_run rfl rfl (by simp) (fun w1 hx1 _ K hK => by go_step; exact hK _ (Ext.refl _)) ?_; simp only [put_lit, List.set_cons_succ, List.set_cons_zero]))
                (refine wpE_nil ?_; intro w2 hw2 hF; simp only [List.drop_succ_cons, List.drop_zero])
                have hcc := hw2.cell hc3
                have hff := (HB3.out.ext hw2).frozen k
                have HW2 := Lib.hid hw2
                clear hF hc0 hc3 hw2
                go_wp2_with fail
                go_roundw
                case rel =>
                  refine ⟨k + 1, by omega, by go_num, (HB0.out.ext HW2.out).other _ (by simp), (HB1.out.ext HW2.out).other _ (by simp), (HB2.out.ext HW2.out).other _ (by simp), ?_, (HX.out.trans HW2.out).setCell (by simp; omega) _⟩
                  rw [← mixF_upd]
                  exact (HB3.out.ext HW2.out).setB k _
                case measure => simp [intOf]; omega
            · obtain rfl : k = 16 := by omega
              have hlt' : ¬ ((16 : Nat) : Int) < 16 := by omega
              go_wp2_with fail
              go_meet
              case rel => exact ⟨HB0.out, HB1.out, HB2.out, by rw [← HROW.out]; exact HB3.out, HX.out⟩
        · have hb' : Y.testBit (127 - i) = false := by simpa using hb
          have hT : (bits .and .u8 (((y (i / 8) : Nat) : Int) / 2 ^ (7 - i % 8)) 1 == 1) = false := HT.out.trans hb'
          have hacc : acc X Y (i + 1) = acc X Y i := by simp [acc, hb']
          go_wp2_with fail
          go_meet
          case rel => exact ⟨HB0.out, HB1.out, HB2.out, by rw [hacc]; exact HB3.out, HX.out⟩
      case rest =>
        obtain ⟨hb0, hb1, hb2, hb3, hxx⟩ := hcut
        clear HB0 HB1 HB2 HB3 HX HT hyb
        have HB0 := Lib.hid hb0
        have HB1 := Lib.hid hb1
        have HB2 := Lib.hid hb2
        have HB3 := Lib.hid hb3
        have HX := Lib.hid hxx
        clear hb0 hb1 hb2 hb3 hxx
        have hc15 := HB0.out.byte 15 (by omega)
        have hlow : (bits .and .u8 ((byP (mx X i) 15 : Nat) : Int) 1 == 1) = decide (byP (mx X i) 15 % 2 = 1) := by
          conv => lhs; rw [show (1 : Int) = ((1 : Nat) : Int) from rfl]
          rw [u8_and_nat _ _ (hmb 15) (by omega), Nat.and_one_is_mod]
          rcases Nat.mod_two_eq_zero_or_one (byP (mx X i) 15) with h | h <;> rw [h] <;> rfl
        go_wp2_with fail
        obtain ⟨low, hlo⟩ : ∃ b : Bool, b = decide (byP (mx X i) 15 % 2 = 1) := ⟨_, rfl⟩
        clear hlow
        rw [← hlo]
        have HLO := Lib.hid hlo
        clear hlo hc15
        go_loopw [9] (fun v9 wr2 => ∃ (u : Nat) (z : Int), u ≤ 16 ∧ v9 = .int .i64 z ∧ z + 1 = (u : Int) ∧ Blk wr2 gs 23 (row 16 (sftF (byP (mx X i)) u)) ∧ Blk wr2 (gs + 1) 23 (row 16 y) ∧ Blk wr2 (gs + 2) 23 (row 16 fun _ => 0) ∧ Blk wr2 (gs + 3) 23 (row 16 (byP (acc X Y (i + 1)))) ∧ Ext w wr2) (fun v9 _ => (intOf v9 + 1).toNat)
        case atStart => exact ⟨16, 15, by omega, rfl, rfl, by rw [show row 16 (sftF (byP (mx X i)) 16) = row 16 (byP (mx X i)) from row_congr fun j hj => by unfold sftF; rw [if_neg (by omega)]]; exact HB0.out, HB1.out, HB2.out, HB3.out, HX.out⟩
        case round =>
          clear HB0 HB1 HB2 HB3 HX
          obtain ⟨u, z, hu, rfl, hz, hb0, hb1, hb2, hb3, hxx⟩ := hrel
          have HB0 := Lib.hid hb0
          have HB1 := Lib.hid hb1
          have HB2 := Lib.hid hb2
          have HB3 := Lib.hid hb3
          have HX := Lib.hid hxx
          clear hb0 hb1 hb2 hb3 hxx
          rcases u with _ | k
          · obtain rfl : z = -1 := by simp at hz; omega
            have hneg : ¬ (0 : Int) ≤ -1 := by omega
            rcases low with _ | _
            · have hl : ¬ byP (mx X i) 15 % 2 = 1 := of_decide_eq_false HLO.out.symm
              have HL := Lib.hid hl
              clear hl HLO
              go_wp2_with fail
              go_roundw
              case rel => exact ⟨i + 1, by omega, by go_num, by rw [show mx X (i + 1) = nx (mx X i) from rfl, ← row_nx0 _ hml HL.out]; exact HB0.out, HB1.out, HB2.out, HB3.out, HX.out⟩
              case measure => simp [intOf]; omega
            · have hl : byP (mx X i) 15 % 2 = 1 := of_decide_eq_true HLO.out.symm
              have HL := Lib.hid hl
              clear hl HLO
              have hc0 := HB0.out.byte 0 (by omega)
              have hfr := HB0.out.frozen 0
              have hsl : shF (byP (mx X i)) 0 < 256 := by have := hmb 0; simp only [shF]; simp; omega
              rw [show sftF (byP (mx X i)) 0 0 = shF (byP (mx X i)) 0 from rfl] at hc0
              go_wp2_with fail
              rw [show (225 : Int) = ((225 : Nat) : Int) from rfl, u8_xor_nat _ _ hsl (by omega)]
              go_roundw
              case rel => exact ⟨i + 1, by omega, by go_num, by rw [show mx X (i + 1) = nx (mx X i) from rfl, ← row_nx _ hml HL.out]; exact HB0.out.setB 0 _, HB1.out.other _ (by simp), HB2.out.other _ (by simp), HB3.out.other _ (by simp), HX.out.setCell hgw _⟩
              case measure => simp [intOf]; omega
          · obtain rfl : z = (k : Int) := by omega
            have hz0 : (0 : Int) ≤ (k : Int) := by omega
            have hk16 : k < 16 := by omega
            have hc := HB0.out.byte k hk16
            have hfr := HB0.out.frozen k
            have hfl := hmb k
            rw [show sftF (byP (mx X i)) (k + 1) k = byP (mx X i) k from by unfold sftF; rw [if_neg (by omega)]] at hc
            go_upto_if 52 with fail
            rw [show (((byP (mx X i) k : Nat) : Int) / 2) = ((byP (mx X i) k / 2 : Nat) : Int) from by omega]
            have hb0 := HB0.out.setB k (byP (mx X i) k / 2)
            have hb1 := HB1.out.other (a := ⟨gs, k, none⟩) (.int .u8 ((byP (mx X i) k / 2 : Nat) : Int)) (by simp)
            have hb2 := HB2.out.other (a := ⟨gs, k, none⟩) (.int .u8 ((byP (mx X i) k / 2 : Nat) : Int)) (by simp)
            have hb3 := HB3.out.other (a := ⟨gs, k, none⟩) (.int .u8 ((byP (mx X i) k / 2 : Nat) : Int)) (by simp)
            have hxx : Ext w (wr.setCell ⟨gs, k, none⟩ (.int .u8 ((byP (mx X i) k / 2 : Nat) : Int))) := HX.out.setCell hgw _
            generalize wr.setCell ⟨gs, k, none⟩ (.int .u8 ((byP (mx X i) k / 2 : Nat) : Int)) = ws at hb0 hb1 hb2 hb3 hxx ⊢
            clear HB0 HB1 HB2 HB3 HX hc hfr
            have HB0 := Lib.hid hb0
            have HB1 := Lib.hid hb1
            have HB2 := Lib.hid hb2
            have HB3 := Lib.hid hb3
            have HX := Lib.hid hxx
            clear hb0 hb1 hb2 hb3 hxx
            rcases Nat.eq_zero_or_pos k with rfl | h0
            · go_wp2_with fail
              go_roundw
              case rel =>
                refine ⟨0, -1, by omega, by first | rfl | go_num, by omega, ?_, HB1.out, HB2.out, HB3.out, HX.out⟩
                have e : row 16 (upd (sftF (byP (mx X i)) 1) 0 (byP (mx X i) 0 / 2)) = row 16 (sftF (byP (mx X i)) 0) := row_congr fun j hj => by
                  by_cases hj0 : j = 0
                  · subst hj0; rw [upd_same]; simp [sftF, shF]
                  · rw [upd_other _ _ _ _ hj0]; unfold sftF; rw [if_pos (by omega), if_pos (by omega)]
                rw [← e]
                exact HB0.out
              case measure => simp [intOf]
            · have h0' : (0 : Int) < (k : Int) := by omega
              have hck := HB0.out.byte k hk16
              have hck1 := HB0.out.byte (k - 1) (by omega)
              have hfr := HB0.out.frozen k
              rw [upd_same] at hck
              rw [upd_other _ _ _ _ (by omega), show sftF (byP (mx X i)) (k + 1) (k - 1) = byP (mx X i) (k - 1) from by unfold sftF; rw [if_neg (by omega)]] at hck1
              have hor : bits .or .u8 ((byP (mx X i) k / 2 : Nat) : Int) ((byP (mx X i) (k - 1) * 128 % 256 : Nat) : Int) = ((shF (byP (mx X i)) k : Nat) : Int) := by
                rw [u8_or_nat _ _ (by omega) (by omega), show byP (mx X i) (k - 1) * 128 % 256 = byP (mx X i) (k - 1) % 2 * 128 by omega]
                have h := Nat.two_pow_add_eq_or_of_lt (i := 7) (b := byP (mx X i) k / 2) (by omega) (byP (mx X i) (k - 1) % 2)
                rw [Nat.or_comm, show byP (mx X i) (k - 1) % 2 * 128 = 2 ^ 7 * (byP (mx X i) (k - 1) % 2) by omega, ← h]
                unfold shF
                rw [if_pos h0]
                congr 1
                omega
              have HOR := Lib.hid (show bits .or .u8 (((byP (mx X i) k : Nat) : Int) / 2) (((byP (mx X i) (k - 1) : Nat) : Int) * 128 % 256) = ((shF (byP (mx X i)) k : Nat) : Int) from by
                rw [show ((byP (mx X i) k : Nat) : Int) / 2 = ((byP (mx X i) k / 2 : Nat) : Int) from by omega, show ((byP (mx X i) (k - 1) : Nat) : Int) * 128 % 256 = ((byP (mx X i) (k - 1) * 128 % 256 : Nat) : Int) from by omega]
                exact hor)
              clear hor
              have hm1 := hmb (k - 1)
              go_upto_region 16 with fail
              apply wp_region_mid 11 [.det _, .det _, .det _, .det _, .det _, .det _, .det _, .det _, .det _, .det _, .det _] (by kernel_rfl) rfl (by kernel_rfl)
              · (first | (refine wpE_move rfl rfl rfl ?_; simp only [put_lit, eval_lit, BigFrame.eval_const, List.set_cons_succ, List.set_cons_zero, List.getD_cons_succ, List.getD_cons_zero]) | (refine wpE_run rfl rfl (by simp) (fun w1 hx1 _ K hK => by go_step; exact hK _ (Ext.refl _)) ?_; simp only [put_lit, List.set_cons_succ, List.set_cons_zero]))
                (first | (refine wpE_move rfl rfl rfl ?_; simp only [put_lit, eval_lit, BigFrame.eval_const, List.set_cons_succ, List.set_cons_zero, List.getD_cons_succ, List.getD_cons_zero]) | (refine wpE_run rfl rfl (by simp) (fun w1 hx1 _ K hK => by go_step; exact hK _ (Ext.refl _)) ?_; simp only [put_lit, List.set_cons_succ, List.set_cons_zero]))
                (first | (refine wpE_move rfl rfl rfl ?_; simp only [put_lit, eval_lit, BigFrame.eval_const, List.set_cons_succ, List.set_cons_zero, List.getD_cons_succ, List.getD_cons_zero]) | (refine wpE_run rfl rfl (by simp) (fun w1 hx1 _ K hK => by go_step; exact hK _ (Ext.refl _)) ?_; simp only [put_lit, List.set_cons_succ, List.set_cons_zero]))
                (refine wpE_run rfl rfl (by simp) (fun w1 hx1 _ K hK => by have hc := hx1.cell hck; go_step; exact hK _ (Ext.refl _)) ?_); simp only [put_lit, List.set_cons_succ, List.set_cons_zero]
                (first | (refine wpE_move rfl rfl rfl ?_; simp only [put_lit, eval_lit, BigFrame.eval_const, List.set_cons_succ, List.set_cons_zero, List.getD_cons_succ, List.getD_cons_zero]) | (refine wpE_run rfl rfl (by simp) (fun w1 hx1 _ K hK => by go_step; exact hK _ (Ext.refl _)) ?_; simp only [put_lit, List.set_cons_succ, List.set_cons_zero]))
                (first | (refine wpE_move rfl rfl rfl ?_; simp only [put_lit, eval_lit, BigFrame.eval_const, List.set_cons_succ, List.set_cons_zero, List.getD_cons_succ, List.getD_cons_zero]) | (refine wpE_run rfl rfl (by simp) (fun w1 hx1 _ K hK => by go_step; exact hK _ (Ext.refl _)) ?_; simp only [put_lit, List.set_cons_succ, List.set_cons_zero]))
                (first | (refine wpE_move rfl rfl rfl ?_; simp only [put_lit, eval_lit, BigFrame.eval_const, List.set_cons_succ, List.set_cons_zero, List.getD_cons_succ, List.getD_cons_zero]) | (refine wpE_run rfl rfl (by simp) (fun w1 hx1 _ K hK => by go_step; exact hK _ (Ext.refl _)) ?_; simp only [put_lit, List.set_cons_succ, List.set_cons_zero]))
                (refine wpE_run rfl rfl (by simp) (fun w1 hx1 _ K hK => by have hc := hx1.cell hck1; go_step; exact hK _ (Ext.refl _)) ?_); simp only [put_lit, List.set_cons_succ, List.set_cons_zero]
                (first | (refine wpE_move rfl rfl rfl ?_; simp only [put_lit, eval_lit, BigFrame.eval_const, List.set_cons_succ, List.set_cons_zero, List.getD_cons_succ, List.getD_cons_zero]) | (refine wpE_run rfl rfl (by simp) (fun w1 hx1 _ K hK => by go_step; exact hK _ (Ext.refl _)) ?_; simp only [put_lit, List.set_cons_succ, List.set_cons_zero]))
                (first | (refine wpE_move rfl rfl rfl ?_; simp only [put_lit, eval_lit, BigFrame.eval_const, List.set_cons_succ, List.set_cons_zero, List.getD_cons_succ, List.getD_cons_zero]) | (refine wpE_run rfl rfl (by simp) (fun w1 hx1 _ K hK => by go_step; exact hK _ (Ext.refl _)) ?_; simp only [put_lit, List.set_cons_succ, List.set_cons_zero]))
                rw [HOR.out]
                (first | (refine wpE_move rfl rfl rfl ?_; simp only [put_lit, eval_lit, BigFrame.eval_const, List.set_cons_succ, List.set_cons_zero, List.getD_cons_succ, List.getD_cons_zero]) | (refine wpE_run rfl rfl (by simp) (fun w1 hx1 _ K hK => by go_step; exact hK _ (Ext.refl _)) ?_; simp only [put_lit, List.set_cons_succ, List.set_cons_zero]))
                (refine wpE_nil ?_; intro w2 hw2 hF; simp only [List.drop_succ_cons, List.drop_zero])
                have hcc := hw2.cell hck
                have hff := (HB0.out.ext hw2).frozen k
                have HW2 := Lib.hid hw2
                clear hF hck hck1 hfr hw2
                go_wp2_with fail
                go_roundw
                case rel =>
                  refine ⟨k, (k : Int) - 1, by omega, by first | rfl | go_num, by omega, ?_, (HB1.out.ext HW2.out).other _ (by simp), (HB2.out.ext HW2.out).other _ (by simp), (HB3.out.ext HW2.out).other _ (by simp), (HX.out.trans HW2.out).setCell hgw _⟩
                  have e : row 16 (upd (upd (sftF (byP (mx X i)) (k + 1)) k (byP (mx X i) k / 2)) k (shF (byP (mx X i)) k)) = row 16 (sftF (byP (mx X i)) k) := row_congr fun j hj => by
                    by_cases hjk : j = k
                    · subst hjk; rw [upd_same]; unfold sftF; rw [if_pos (Nat.le_refl _)]
                    · rw [upd_other _ _ _ _ hjk, upd_other _ _ _ _ hjk]
                      unfold sftF
                      by_cases h1 : k + 1 ≤ j
                      · rw [if_pos h1, if_pos (by omega)]
                      · rw [if_neg h1, if_neg (by omega)]
                  rw [← e]
                  exact (HB0.out.ext HW2.out).setB k _
                case measure => simp [intOf]
    · obtain rfl : i = 128 := by omega
      have hi' : ¬ ((128 : Nat) : Int) < 128 := by omega
      go_wp2_with (first | (refine wl_loadA rfl 23 _ rfl _ 0 16 rfl agg23 sz23 _ _ HB3.out (by simp [row_size]) (row 16 (byP (acc X Y 128))) (row_whole _ _) ?_) | (refine wl_storeA rfl 23 _ _ rfl _ 0 16 rfl (row 16 (byP (acc X Y 128))) rfl sz23 (row_size _ _) _ _ HB2.out (by simp [row_size]) (row_one _ _) (row 16 (byP (acc X Y 128))) (lay_all _ _ (by simp [row_size])) ?_))
      refine bodyPost_ret (results_blk rfl _ _ (gs + 2) 16 23 (row 16 (byP (acc X Y 128))) rfl (HB2.out.setRow _) agg23 sz23 (row_size _ _).symm) rfl ?_
      exact ⟨rfl, below_setRow (g := gs + 2) HX.out (by omega) _⟩
end Go.Proofs.Ytnigpobbckampaa
