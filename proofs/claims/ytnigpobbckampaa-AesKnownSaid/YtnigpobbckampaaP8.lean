/- AesBlocks, walked. -/
import Derived.Test.YtnigpobbckampaaP5
import Derived.Test.YtnigpobbckampaaH4
import Derived.Test.YtnigpobbckampaaH8
import Derived.Test.YtnigpobbckampaaP9
namespace Go.Proofs.Ytnigpobbckampaa
open Go.RowKit
set_option linter.unusedSimpArgs false
set_option linter.unusedVariables false

set_option maxRecDepth 100000 in
set_option maxHeartbeats 1000000 in
theorem blocks_any (v : Value) (n : Nat) (f X : Nat → Nat) (w : World) (hn : n ≤ 9223372036854775807) (hv : RdF w v n f) (hX : ∀ j, j < 16 → X j < 256) :
    Calls Try.prog 3 #[v, .agg (row 16 X)] w fun e w' => e = .returned (.bool true) ∧ Ext w w' := by
  obtain ⟨ao, cap, rfl, hcap⟩ := hv.len
  have HV := Lib.hid hv
  have hnil : ao = none → n = 0 := fun h => by
    obtain ⟨_, _, e, h1, h2, _⟩ := hv
    cases e
    have := h2 h
    omega
  clear hv
  go_enter Try.func3, Try.ntmps3
  go_upto_region 1 with (refine wl_boxA rfl 23 _ rfl _ rfl ?_)
  have hB0 : Blk (w.alloc (.cells (row 16 X) 23)) w.heap.size 23 (row 16 X) := Blk.new _ _ _
  have hx0 : Ext w (w.alloc (.cells (row 16 X) 23)) := Ext.alloc _ _
  generalize w.alloc (.cells (row 16 X) 23) = w0 at hB0 hx0 ⊢
  have HB := Lib.hid hB0
  have HX := Lib.hid hx0
  clear hB0 hx0
  obtain ⟨m, hm⟩ : ∃ m, m = min n 40 := ⟨_, rfl⟩
  have hm40 : m ≤ 40 := by omega
  have hR : RdF w (.slice ao m cap) m f := by
    obtain ⟨a1, c1, e, h1, h2, h3⟩ := HV.out
    cases e
    exact ⟨_, _, rfl, by omega, h2, fun i hi => h3 i (by omega)⟩
  have HR := Lib.hid hR
  clear hR
  go_cut [0] (fun v0 wx => v0 = .slice ao m cap ∧ Ext w0 wx)
  case first =>
    by_cases h40 : n ≤ 40
    · have h40' : (n : Int) ≤ 40 := by omega
      have e : m = n := by omega
      clear hm
      go_wp2_with fail
      go_meet
      case rel => exact ⟨by rw [e], Ext.refl _⟩
    · have h40' : ¬ (n : Int) ≤ 40 := by omega
      have e : m = 40 := by omega
      clear hm
      go_wp2_with fail
      go_meet
      case rel => exact ⟨by rw [e], Ext.refl _⟩
  case rest =>
    obtain ⟨rfl, hxc⟩ := hcut
    have HRc := Lib.hid (HR.out.ext (HX.out.trans hxc))
    have HXc := Lib.hid (HX.out.trans hxc)
    have HBc := Lib.hid (HB.out.ext hxc)
    clear hxc hm hnil HR HX HB HV
    go_wp2_with fail
    refine (copyT_any _ m f _ (by omega) HRc.out).mono ?_
    rintro e w1 ⟨v5, rfl, hk, hx1⟩
    obtain ⟨ko, kc, rfl, hkc⟩ := hk.len
    obtain ⟨B, hBe⟩ : ∃ B, B = wc.heap.size := ⟨_, rfl⟩
    rw [← hBe] at hk
    have hBw : w.heap.size < B := by have := HBc.out.lt; omega
    have HO := Lib.hid hk
    have HR1 := Lib.hid (HRc.out.ext hx1)
    have HX1 := Lib.hid (HXc.out.trans hx1)
    have HB1 := Lib.hid (HBc.out.ext hx1)
    clear hk hx1 HRc HXc HBc hBe
    go_wp2_with fail
    by_cases h16 : m = 16
    · subst h16
      refine (new4_any _ _ _ HO.out.own.rd).mono ?_
      rintro e w2 ⟨b, rfl, hC, _, hx2⟩
      have HC2 := Lib.hid hC
      have HX2 := Lib.hid hx2
      clear hC hx2
      go_wp2_with fail
      refine (refnew4_any _ _ _ (HR1.out.ext HX2.out)).mono ?_
      rintro e w3 ⟨c, rfl, hD, _, hx3⟩
      have HC := Lib.hid (HC2.out.ext hx3)
      have HD := Lib.hid hD
      have HXO := Lib.hid (HX2.out.trans hx3)
      have HX := Lib.hid (HX1.out.trans HXO.out)
      have HB := Lib.hid (HB1.out.ext HXO.out)
      clear hD hx3 HC2 HX2 HR1 HX1 HB1
      go_wp2_with fail

      go_loopw [10] (fun v10 wr => ∃ i : Nat, i ≤ 16 ∧ v10 = .int .i64 i ∧ OwnT wr B (.slice ko 16 kc) 16 (mixF i (fun j => f j ^^^ 90) f) ∧ Cph wr b (4 + 7) (keysP 4 f) ∧ CphR wr c (4 + 7) (keysP 4 f) ∧ Blk wr w.heap.size 23 (row 16 X) ∧ Ext w wr) (fun v10 _ => 16 - (intOf v10).toNat)
      case atStart => exact ⟨0, by omega, rfl, by rw [mixF_zero]; exact HO.out.ext HXO.out, HC.out, HD.out, HB.out, HX.out⟩
      case round =>
        clear HO HC HD HXO HB HX
        obtain ⟨i, hi, rfl, ho, hc, hd, hB, hx⟩ := hrel
        have HO := Lib.hid ho
        have HC := Lib.hid hc
        have HD := Lib.hid hd
        clear hc hd
        have HB := Lib.hid hB
        have HX := Lib.hid hx
        clear ho hB hx
        by_cases him : i < 16
        · have him' : (i : Int) < ((16 : Nat) : Int) := by omega
          have him2 : (i : Int) < 16 := by omega
          obtain ⟨g, kc', cur, he, hg, hK, hc1, hc2, hf⟩ := HO.out.form (by omega)
          obtain ⟨rfl, rfl⟩ : ko = some ⟨g, 0, none⟩ ∧ kc = kc' := by cases he; exact ⟨rfl, rfl⟩
          obtain ⟨hfl, hcur⟩ := hf i him
          rw [mixF_at] at hfl hcur
          have c1 : wr.cell? ⟨g, i, none⟩ = some (.int .u8 ((f i : Nat) : Int)) := (hK.cell i).trans hcur
          have f1 := hK.frozen i
          have HK := Lib.hid hK
          have hxl := xor_lt hfl (show 90 < 256 by omega)
          clear he hf hcur hK
          go_wp2_with fail
          rw [show (90 : Int) = ((90 : Nat) : Int) from rfl, u8_xor_nat _ _ hfl (by omega)]
          go_roundw
          case rel =>
            refine ⟨i + 1, by omega, by go_num, ?_, HC.out.keep HK.out (fun j h1 _ => Below.heap_setCell _ _ _ _ h1), HD.out.keep HK.out (fun j h1 _ => Below.heap_setCell _ _ _ _ h1), HB.out.other _ (by simp; omega), HX.out.setCell (by simp; omega) _⟩
            rw [← mixF_upd]
            exact HO.out.stored i _ hxl him
          case measure => simp [intOf]; omega
        · obtain rfl : i = 16 := by omega
          go_upto_region 11 with fail

          have ER := Lib.hid (rfl : row 16 (blockP (4 + 7) (keysP 4 f) X) = row 16 (blockP (4 + 7) (keysP 4 f) X))
          apply wp_region_mid 21 [.det _, .det _, .det _, .det _, .det _, .det _, .det _, .det _, .det _, .det _, .det _, .det _, .det _, .det _, .det _, .det _, .det _, .det _, .det _, .det _, .det _] (by kernel_rfl) rfl (by kernel_rfl)
          · (first | (refine wpE_move rfl rfl rfl ?_; simp only [put_lit, eval_lit, BigFrame.eval_const, List.set_cons_succ, List.set_cons_zero, List.getD_cons_succ, List.getD_cons_zero]) | (refine wpE_run rfl rfl (by simp) (fun w1 hx1 _ K hK => by go_step; exact hK _ (Ext.refl _)) ?_; simp only [put_lit, List.set_cons_succ, List.set_cons_zero]))
            (first | (refine wpE_move rfl rfl rfl ?_; simp only [put_lit, eval_lit, BigFrame.eval_const, List.set_cons_succ, List.set_cons_zero, List.getD_cons_succ, List.getD_cons_zero]) | (refine wpE_run rfl rfl (by simp) (fun w1 hx1 _ K hK => by go_step; exact hK _ (Ext.refl _)) ?_; simp only [put_lit, List.set_cons_succ, List.set_cons_zero]))
            (first | (refine wpE_move rfl rfl rfl ?_; simp only [put_lit, eval_lit, BigFrame.eval_const, List.set_cons_succ, List.set_cons_zero, List.getD_cons_succ, List.getD_cons_zero]) | (refine wpE_run rfl rfl (by simp) (fun w1 hx1 _ K hK => by go_step; exact hK _ (Ext.refl _)) ?_; simp only [put_lit, List.set_cons_succ, List.set_cons_zero]))
            (first | (refine wpE_move rfl rfl rfl ?_; simp only [put_lit, eval_lit, BigFrame.eval_const, List.set_cons_succ, List.set_cons_zero, List.getD_cons_succ, List.getD_cons_zero]) | (refine wpE_run rfl rfl (by simp) (fun w1 hx1 _ K hK => by go_step; exact hK _ (Ext.refl _)) ?_; simp only [put_lit, List.set_cons_succ, List.set_cons_zero]))
            refine wpE_run rfl rfl (by simp) (fun w' hx' _ K hK => wp_loadA 23 _ rfl _ 0 16 rfl agg23 sz23 _ _ (HB.out.ext hx') (by simp [row_size]) (row 16 X) (row_whole _ _) (hK _ (Ext.refl _))) ?_
            simp only [put_lit, List.set_cons_succ, List.set_cons_zero]
            (refine wpE_run rfl rfl (by simp) (fun w1 hx1 _ K hK => by go_wp2_with (go_at_call 21; refine (block_any b (4 + 7) _ (by omega) (by omega) X hX _ (HC.out.ext hx1)).mono ?_; rintro e w2 ⟨rfl, hx2⟩; exact hK _ hx2)) ?_); simp only [put_lit, List.set_cons_succ, List.set_cons_zero]
            (first | (refine wpE_move rfl rfl rfl ?_; simp only [put_lit, eval_lit, BigFrame.eval_const, List.set_cons_succ, List.set_cons_zero, List.getD_cons_succ, List.getD_cons_zero]) | (refine wpE_run rfl rfl (by simp) (fun w1 hx1 _ K hK => by go_step; exact hK _ (Ext.refl _)) ?_; simp only [put_lit, List.set_cons_succ, List.set_cons_zero]))
            refine wpE_run rfl rfl (by simp) (fun w' hx' _ K hK => wp_loadA 23 _ rfl _ 0 16 rfl agg23 sz23 _ _ (HB.out.ext hx') (by simp [row_size]) (row 16 X) (row_whole _ _) (hK _ (Ext.refl _))) ?_
            simp only [put_lit, List.set_cons_succ, List.set_cons_zero]
            (refine wpE_run rfl rfl (by simp) (fun w1 hx1 _ K hK => by go_wp2_with (go_at_call 22; refine (refblock_any c (4 + 7) _ (by omega) (by omega) X hX _ (HD.out.ext hx1)).mono ?_; rintro e w2 ⟨rfl, hx2⟩; exact hK _ hx2)) ?_); simp only [put_lit, List.set_cons_succ, List.set_cons_zero]
            refine wpE_eql23 rfl (.tmp 57) (.tmp 60) rfl (blockP (4 + 7) (keysP 4 f) X) (blockP (4 + 7) (keysP 4 f) X) rfl rfl ?_
            rw [eqN_refl]
            simp only [put_lit, List.set_cons_succ, List.set_cons_zero]
            (first | (refine wpE_move rfl rfl rfl ?_; simp only [put_lit, eval_lit, BigFrame.eval_const, List.set_cons_succ, List.set_cons_zero, List.getD_cons_succ, List.getD_cons_zero]) | (refine wpE_run rfl rfl (by simp) (fun w1 hx1 _ K hK => by go_step; exact hK _ (Ext.refl _)) ?_; simp only [put_lit, List.set_cons_succ, List.set_cons_zero]))
            (first | (refine wpE_move rfl rfl rfl ?_; simp only [put_lit, eval_lit, BigFrame.eval_const, List.set_cons_succ, List.set_cons_zero, List.getD_cons_succ, List.getD_cons_zero]) | (refine wpE_run rfl rfl (by simp) (fun w1 hx1 _ K hK => by go_step; exact hK _ (Ext.refl _)) ?_; simp only [put_lit, List.set_cons_succ, List.set_cons_zero]))
            (refine wpE_run rfl rfl (by simp) (fun w1 hx1 _ K hK => by go_wp2_with (go_at_call 23; refine (rounds_any b (4 + 7) _ (by omega) (by omega) _ (HC.out.ext hx1)).mono ?_; rintro e w2 ⟨rfl, rfl⟩; exact hK _ (Ext.refl _))) ?_)
            simp only [put_lit, List.set_cons_succ, List.set_cons_zero]
            (first | (refine wpE_move rfl rfl rfl ?_; simp only [put_lit, eval_lit, BigFrame.eval_const, List.set_cons_succ, List.set_cons_zero, List.getD_cons_succ, List.getD_cons_zero]) | (refine wpE_run rfl rfl (by simp) (fun w1 hx1 _ K hK => by go_step; exact hK _ (Ext.refl _)) ?_; simp only [put_lit, List.set_cons_succ, List.set_cons_zero]))
            (refine wpE_run rfl rfl (by simp) (fun w1 hx1 _ K hK => by go_wp2_with (go_at_call 24; refine (refrounds_any c (4 + 7) _ (by omega) (by omega) _ (HD.out.ext hx1)).mono ?_; rintro e w2 ⟨rfl, rfl⟩; exact hK _ (Ext.refl _))) ?_)
            simp only [put_lit, List.set_cons_succ, List.set_cons_zero]
            (first | (refine wpE_move rfl rfl rfl ?_; simp only [put_lit, eval_lit, BigFrame.eval_const, List.set_cons_succ, List.set_cons_zero, List.getD_cons_succ, List.getD_cons_zero]) | (refine wpE_run rfl rfl (by simp) (fun w1 hx1 _ K hK => by go_step; exact hK _ (Ext.refl _)) ?_; simp only [put_lit, List.set_cons_succ, List.set_cons_zero]))
            (first | (refine wpE_move rfl rfl rfl ?_; simp only [put_lit, eval_lit, BigFrame.eval_const, List.set_cons_succ, List.set_cons_zero, List.getD_cons_succ, List.getD_cons_zero]) | (refine wpE_run rfl rfl (by simp) (fun w1 hx1 _ K hK => by go_step; exact hK _ (Ext.refl _)) ?_; simp only [put_lit, List.set_cons_succ, List.set_cons_zero]))
            (first | (refine wpE_move rfl rfl rfl ?_; simp only [put_lit, eval_lit, BigFrame.eval_const, List.set_cons_succ, List.set_cons_zero, List.getD_cons_succ, List.getD_cons_zero]) | (refine wpE_run rfl rfl (by simp) (fun w1 hx1 _ K hK => by go_step; exact hK _ (Ext.refl _)) ?_; simp only [put_lit, List.set_cons_succ, List.set_cons_zero]))
            (first | (refine wpE_move rfl rfl rfl ?_; simp only [put_lit, eval_lit, BigFrame.eval_const, List.set_cons_succ, List.set_cons_zero, List.getD_cons_succ, List.getD_cons_zero]) | (refine wpE_run rfl rfl (by simp) (fun w1 hx1 _ K hK => by go_step; exact hK _ (Ext.refl _)) ?_; simp only [put_lit, List.set_cons_succ, List.set_cons_zero]))
            (refine wpE_run rfl rfl (by simp) (fun w1 hx1 _ K hK => by go_wp2_with (go_at_call 25; refine (works_any _).mono ?_; rintro e w2 ⟨rfl, hx2⟩; exact hK _ hx2)) ?_); simp only [put_lit, List.set_cons_succ, List.set_cons_zero]
            (first | (refine wpE_move rfl rfl rfl ?_; simp only [put_lit, eval_lit, BigFrame.eval_const, List.set_cons_succ, List.set_cons_zero, List.getD_cons_succ, List.getD_cons_zero]) | (refine wpE_run rfl rfl (by simp) (fun w1 hx1 _ K hK => by go_step; exact hK _ (Ext.refl _)) ?_; simp only [put_lit, List.set_cons_succ, List.set_cons_zero]))
            (refine wpE_nil ?_; intro w2 hw2 hF; simp only [List.drop_succ_cons, List.drop_zero])
            have hxx := HX.out.trans hw2
            go_wp2_with fail
            go_ret
            exact ⟨rfl, hxx⟩
    by_cases h32 : m = 32
    · subst h32
      refine (new8_any _ _ _ HO.out.own.rd).mono ?_
      rintro e w2 ⟨b, rfl, hC, _, hx2⟩
      have HC2 := Lib.hid hC
      have HX2 := Lib.hid hx2
      clear hC hx2
      go_wp2_with fail
      refine (refnew8_any _ _ _ (HR1.out.ext HX2.out)).mono ?_
      rintro e w3 ⟨c, rfl, hD, _, hx3⟩
      have HC := Lib.hid (HC2.out.ext hx3)
      have HD := Lib.hid hD
      have HXO := Lib.hid (HX2.out.trans hx3)
      have HX := Lib.hid (HX1.out.trans HXO.out)
      have HB := Lib.hid (HB1.out.ext HXO.out)
      clear hD hx3 HC2 HX2 HR1 HX1 HB1
      go_wp2_with fail

      go_loopw [10] (fun v10 wr => ∃ i : Nat, i ≤ 32 ∧ v10 = .int .i64 i ∧ OwnT wr B (.slice ko 32 kc) 32 (mixF i (fun j => f j ^^^ 90) f) ∧ Cph wr b (8 + 7) (keysP 8 f) ∧ CphR wr c (8 + 7) (keysP 8 f) ∧ Blk wr w.heap.size 23 (row 16 X) ∧ Ext w wr) (fun v10 _ => 32 - (intOf v10).toNat)
      case atStart => exact ⟨0, by omega, rfl, by rw [mixF_zero]; exact HO.out.ext HXO.out, HC.out, HD.out, HB.out, HX.out⟩
      case round =>
        clear HO HC HD HXO HB HX
        obtain ⟨i, hi, rfl, ho, hc, hd, hB, hx⟩ := hrel
        have HO := Lib.hid ho
        have HC := Lib.hid hc
        have HD := Lib.hid hd
        clear hc hd
        have HB := Lib.hid hB
        have HX := Lib.hid hx
        clear ho hB hx
        by_cases him : i < 32
        · have him' : (i : Int) < ((32 : Nat) : Int) := by omega
          have him2 : (i : Int) < 32 := by omega
          obtain ⟨g, kc', cur, he, hg, hK, hc1, hc2, hf⟩ := HO.out.form (by omega)
          obtain ⟨rfl, rfl⟩ : ko = some ⟨g, 0, none⟩ ∧ kc = kc' := by cases he; exact ⟨rfl, rfl⟩
          obtain ⟨hfl, hcur⟩ := hf i him
          rw [mixF_at] at hfl hcur
          have c1 : wr.cell? ⟨g, i, none⟩ = some (.int .u8 ((f i : Nat) : Int)) := (hK.cell i).trans hcur
          have f1 := hK.frozen i
          have HK := Lib.hid hK
          have hxl := xor_lt hfl (show 90 < 256 by omega)
          clear he hf hcur hK
          go_wp2_with fail
          rw [show (90 : Int) = ((90 : Nat) : Int) from rfl, u8_xor_nat _ _ hfl (by omega)]
          go_roundw
          case rel =>
            refine ⟨i + 1, by omega, by go_num, ?_, HC.out.keep HK.out (fun j h1 _ => Below.heap_setCell _ _ _ _ h1), HD.out.keep HK.out (fun j h1 _ => Below.heap_setCell _ _ _ _ h1), HB.out.other _ (by simp; omega), HX.out.setCell (by simp; omega) _⟩
            rw [← mixF_upd]
            exact HO.out.stored i _ hxl him
          case measure => simp [intOf]; omega
        · obtain rfl : i = 32 := by omega
          go_upto_region 11 with fail

          have ER := Lib.hid (rfl : row 16 (blockP (8 + 7) (keysP 8 f) X) = row 16 (blockP (8 + 7) (keysP 8 f) X))
          apply wp_region_mid 21 [.det _, .det _, .det _, .det _, .det _, .det _, .det _, .det _, .det _, .det _, .det _, .det _, .det _, .det _, .det _, .det _, .det _, .det _, .det _, .det _, .det _] (by kernel_rfl) rfl (by kernel_rfl)
          · (first | (refine wpE_move rfl rfl rfl ?_; simp only [put_lit, eval_lit, BigFrame.eval_const, List.set_cons_succ, List.set_cons_zero, List.getD_cons_succ, List.getD_cons_zero]) | (refine wpE_run rfl rfl (by simp) (fun w1 hx1 _ K hK => by go_step; exact hK _ (Ext.refl _)) ?_; simp only [put_lit, List.set_cons_succ, List.set_cons_zero]))
            (first | (refine wpE_move rfl rfl rfl ?_; simp only [put_lit, eval_lit, BigFrame.eval_const, List.set_cons_succ, List.set_cons_zero, List.getD_cons_succ, List.getD_cons_zero]) | (refine wpE_run rfl rfl (by simp) (fun w1 hx1 _ K hK => by go_step; exact hK _ (Ext.refl _)) ?_; simp only [put_lit, List.set_cons_succ, List.set_cons_zero]))
            (first | (refine wpE_move rfl rfl rfl ?_; simp only [put_lit, eval_lit, BigFrame.eval_const, List.set_cons_succ, List.set_cons_zero, List.getD_cons_succ, List.getD_cons_zero]) | (refine wpE_run rfl rfl (by simp) (fun w1 hx1 _ K hK => by go_step; exact hK _ (Ext.refl _)) ?_; simp only [put_lit, List.set_cons_succ, List.set_cons_zero]))
            (first | (refine wpE_move rfl rfl rfl ?_; simp only [put_lit, eval_lit, BigFrame.eval_const, List.set_cons_succ, List.set_cons_zero, List.getD_cons_succ, List.getD_cons_zero]) | (refine wpE_run rfl rfl (by simp) (fun w1 hx1 _ K hK => by go_step; exact hK _ (Ext.refl _)) ?_; simp only [put_lit, List.set_cons_succ, List.set_cons_zero]))
            refine wpE_run rfl rfl (by simp) (fun w' hx' _ K hK => wp_loadA 23 _ rfl _ 0 16 rfl agg23 sz23 _ _ (HB.out.ext hx') (by simp [row_size]) (row 16 X) (row_whole _ _) (hK _ (Ext.refl _))) ?_
            simp only [put_lit, List.set_cons_succ, List.set_cons_zero]
            (refine wpE_run rfl rfl (by simp) (fun w1 hx1 _ K hK => by go_wp2_with (go_at_call 21; refine (block_any b (8 + 7) _ (by omega) (by omega) X hX _ (HC.out.ext hx1)).mono ?_; rintro e w2 ⟨rfl, hx2⟩; exact hK _ hx2)) ?_); simp only [put_lit, List.set_cons_succ, List.set_cons_zero]
            (first | (refine wpE_move rfl rfl rfl ?_; simp only [put_lit, eval_lit, BigFrame.eval_const, List.set_cons_succ, List.set_cons_zero, List.getD_cons_succ, List.getD_cons_zero]) | (refine wpE_run rfl rfl (by simp) (fun w1 hx1 _ K hK => by go_step; exact hK _ (Ext.refl _)) ?_; simp only [put_lit, List.set_cons_succ, List.set_cons_zero]))
            refine wpE_run rfl rfl (by simp) (fun w' hx' _ K hK => wp_loadA 23 _ rfl _ 0 16 rfl agg23 sz23 _ _ (HB.out.ext hx') (by simp [row_size]) (row 16 X) (row_whole _ _) (hK _ (Ext.refl _))) ?_
            simp only [put_lit, List.set_cons_succ, List.set_cons_zero]
            (refine wpE_run rfl rfl (by simp) (fun w1 hx1 _ K hK => by go_wp2_with (go_at_call 22; refine (refblock_any c (8 + 7) _ (by omega) (by omega) X hX _ (HD.out.ext hx1)).mono ?_; rintro e w2 ⟨rfl, hx2⟩; exact hK _ hx2)) ?_); simp only [put_lit, List.set_cons_succ, List.set_cons_zero]
            refine wpE_eql23 rfl (.tmp 57) (.tmp 60) rfl (blockP (8 + 7) (keysP 8 f) X) (blockP (8 + 7) (keysP 8 f) X) rfl rfl ?_
            rw [eqN_refl]
            simp only [put_lit, List.set_cons_succ, List.set_cons_zero]
            (first | (refine wpE_move rfl rfl rfl ?_; simp only [put_lit, eval_lit, BigFrame.eval_const, List.set_cons_succ, List.set_cons_zero, List.getD_cons_succ, List.getD_cons_zero]) | (refine wpE_run rfl rfl (by simp) (fun w1 hx1 _ K hK => by go_step; exact hK _ (Ext.refl _)) ?_; simp only [put_lit, List.set_cons_succ, List.set_cons_zero]))
            (first | (refine wpE_move rfl rfl rfl ?_; simp only [put_lit, eval_lit, BigFrame.eval_const, List.set_cons_succ, List.set_cons_zero, List.getD_cons_succ, List.getD_cons_zero]) | (refine wpE_run rfl rfl (by simp) (fun w1 hx1 _ K hK => by go_step; exact hK _ (Ext.refl _)) ?_; simp only [put_lit, List.set_cons_succ, List.set_cons_zero]))
            (refine wpE_run rfl rfl (by simp) (fun w1 hx1 _ K hK => by go_wp2_with (go_at_call 23; refine (rounds_any b (8 + 7) _ (by omega) (by omega) _ (HC.out.ext hx1)).mono ?_; rintro e w2 ⟨rfl, rfl⟩; exact hK _ (Ext.refl _))) ?_)
            simp only [put_lit, List.set_cons_succ, List.set_cons_zero]
            (first | (refine wpE_move rfl rfl rfl ?_; simp only [put_lit, eval_lit, BigFrame.eval_const, List.set_cons_succ, List.set_cons_zero, List.getD_cons_succ, List.getD_cons_zero]) | (refine wpE_run rfl rfl (by simp) (fun w1 hx1 _ K hK => by go_step; exact hK _ (Ext.refl _)) ?_; simp only [put_lit, List.set_cons_succ, List.set_cons_zero]))
            (refine wpE_run rfl rfl (by simp) (fun w1 hx1 _ K hK => by go_wp2_with (go_at_call 24; refine (refrounds_any c (8 + 7) _ (by omega) (by omega) _ (HD.out.ext hx1)).mono ?_; rintro e w2 ⟨rfl, rfl⟩; exact hK _ (Ext.refl _))) ?_)
            simp only [put_lit, List.set_cons_succ, List.set_cons_zero]
            (first | (refine wpE_move rfl rfl rfl ?_; simp only [put_lit, eval_lit, BigFrame.eval_const, List.set_cons_succ, List.set_cons_zero, List.getD_cons_succ, List.getD_cons_zero]) | (refine wpE_run rfl rfl (by simp) (fun w1 hx1 _ K hK => by go_step; exact hK _ (Ext.refl _)) ?_; simp only [put_lit, List.set_cons_succ, List.set_cons_zero]))
            (first | (refine wpE_move rfl rfl rfl ?_; simp only [put_lit, eval_lit, BigFrame.eval_const, List.set_cons_succ, List.set_cons_zero, List.getD_cons_succ, List.getD_cons_zero]) | (refine wpE_run rfl rfl (by simp) (fun w1 hx1 _ K hK => by go_step; exact hK _ (Ext.refl _)) ?_; simp only [put_lit, List.set_cons_succ, List.set_cons_zero]))
            (first | (refine wpE_move rfl rfl rfl ?_; simp only [put_lit, eval_lit, BigFrame.eval_const, List.set_cons_succ, List.set_cons_zero, List.getD_cons_succ, List.getD_cons_zero]) | (refine wpE_run rfl rfl (by simp) (fun w1 hx1 _ K hK => by go_step; exact hK _ (Ext.refl _)) ?_; simp only [put_lit, List.set_cons_succ, List.set_cons_zero]))
            (first | (refine wpE_move rfl rfl rfl ?_; simp only [put_lit, eval_lit, BigFrame.eval_const, List.set_cons_succ, List.set_cons_zero, List.getD_cons_succ, List.getD_cons_zero]) | (refine wpE_run rfl rfl (by simp) (fun w1 hx1 _ K hK => by go_step; exact hK _ (Ext.refl _)) ?_; simp only [put_lit, List.set_cons_succ, List.set_cons_zero]))
            (refine wpE_run rfl rfl (by simp) (fun w1 hx1 _ K hK => by go_wp2_with (go_at_call 25; refine (works_any _).mono ?_; rintro e w2 ⟨rfl, hx2⟩; exact hK _ hx2)) ?_); simp only [put_lit, List.set_cons_succ, List.set_cons_zero]
            (first | (refine wpE_move rfl rfl rfl ?_; simp only [put_lit, eval_lit, BigFrame.eval_const, List.set_cons_succ, List.set_cons_zero, List.getD_cons_succ, List.getD_cons_zero]) | (refine wpE_run rfl rfl (by simp) (fun w1 hx1 _ K hK => by go_step; exact hK _ (Ext.refl _)) ?_; simp only [put_lit, List.set_cons_succ, List.set_cons_zero]))
            (refine wpE_nil ?_; intro w2 hw2 hF; simp only [List.drop_succ_cons, List.drop_zero])
            have hxx := HX.out.trans hw2
            go_wp2_with fail
            go_ret
            exact ⟨rfl, hxx⟩
    · skip
      refine (new_bad _ m f _ h16 h32 (by omega) HO.out.own.rd).mono ?_
      rintro e w2 ⟨rfl, rfl⟩
      go_wp2_with fail
      refine (refnew_bad _ m f _ h16 h32 (by omega) HR1.out).mono ?_
      rintro e w3 ⟨rfl, rfl⟩
      have HX := Lib.hid HX1.out
      have HB := Lib.hid HB1.out
      clear HR1 HX1 HB1
      go_wp2_with fail

      go_loopw [10] (fun v10 wr => ∃ i : Nat, i ≤ m ∧ v10 = .int .i64 i ∧ OwnT wr B (.slice ko m kc) m (mixF i (fun j => f j ^^^ 90) f) ∧ Blk wr w.heap.size 23 (row 16 X) ∧ Ext w wr) (fun v10 _ => m - (intOf v10).toNat)
      case atStart => exact ⟨0, by omega, rfl, by rw [mixF_zero]; exact HO.out.ext (Ext.refl _), HB.out, HX.out⟩
      case round =>
        clear HO  HB HX
        obtain ⟨i, hi, rfl, ho, hB, hx⟩ := hrel
        have HO := Lib.hid ho
        have HB := Lib.hid hB
        have HX := Lib.hid hx
        clear ho hB hx
        by_cases him : i < m
        · have him' : (i : Int) < ((m : Nat) : Int) := by omega
          have him2 : (i : Int) < (m : Int) := by omega
          obtain ⟨g, kc', cur, he, hg, hK, hc1, hc2, hf⟩ := HO.out.form (by omega)
          obtain ⟨rfl, rfl⟩ : ko = some ⟨g, 0, none⟩ ∧ kc = kc' := by cases he; exact ⟨rfl, rfl⟩
          obtain ⟨hfl, hcur⟩ := hf i him
          rw [mixF_at] at hfl hcur
          have c1 : wr.cell? ⟨g, i, none⟩ = some (.int .u8 ((f i : Nat) : Int)) := (hK.cell i).trans hcur
          have f1 := hK.frozen i
          have HK := Lib.hid hK
          have hxl := xor_lt hfl (show 90 < 256 by omega)
          clear he hf hcur hK
          go_wp2_with fail
          rw [show (90 : Int) = ((90 : Nat) : Int) from rfl, u8_xor_nat _ _ hfl (by omega)]
          go_roundw
          case rel =>
            refine ⟨i + 1, by omega, by go_num, ?_, HB.out.other _ (by simp; omega), HX.out.setCell (by simp; omega) _⟩
            rw [← mixF_upd]
            exact HO.out.stored i _ hxl him
          case measure => simp [intOf]; omega
        · obtain rfl : i = m := by omega
          go_upto_region 11 with fail

          apply wp_region_mid 21 [.det _, .det _, .det _, .det _, .det _, .det _, .det _, .det _, .det _, .det _, .det _, .det _, .det _, .det _, .det _, .det _, .det _, .det _, .det _, .det _, .det _] (by kernel_rfl) rfl (by kernel_rfl)
          · (first | (refine wpE_move rfl rfl rfl ?_; simp only [put_lit, eval_lit, BigFrame.eval_const, List.set_cons_succ, List.set_cons_zero, List.getD_cons_succ, List.getD_cons_zero]) | (refine wpE_run rfl rfl (by simp) (fun w1 hx1 _ K hK => by go_step; exact hK _ (Ext.refl _)) ?_; simp only [put_lit, List.set_cons_succ, List.set_cons_zero]))
            (first | (refine wpE_move rfl rfl rfl ?_; simp only [put_lit, eval_lit, BigFrame.eval_const, List.set_cons_succ, List.set_cons_zero, List.getD_cons_succ, List.getD_cons_zero]) | (refine wpE_run rfl rfl (by simp) (fun w1 hx1 _ K hK => by go_step; exact hK _ (Ext.refl _)) ?_; simp only [put_lit, List.set_cons_succ, List.set_cons_zero]))
            (first | (refine wpE_move rfl rfl rfl ?_; simp only [put_lit, eval_lit, BigFrame.eval_const, List.set_cons_succ, List.set_cons_zero, List.getD_cons_succ, List.getD_cons_zero]) | (refine wpE_run rfl rfl (by simp) (fun w1 hx1 _ K hK => by go_step; exact hK _ (Ext.refl _)) ?_; simp only [put_lit, List.set_cons_succ, List.set_cons_zero]))
            refine wpE_skip rfl ?_
            simp only [put_lit, List.set_cons_succ, List.set_cons_zero]
            refine wpE_skip rfl ?_
            simp only [put_lit, List.set_cons_succ, List.set_cons_zero]
            refine wpE_skip rfl ?_
            simp only [put_lit, List.set_cons_succ, List.set_cons_zero]
            refine wpE_skip rfl ?_
            simp only [put_lit, List.set_cons_succ, List.set_cons_zero]
            refine wpE_skip rfl ?_
            simp only [put_lit, List.set_cons_succ, List.set_cons_zero]
            refine wpE_skip rfl ?_
            simp only [put_lit, List.set_cons_succ, List.set_cons_zero]
            refine wpE_skip rfl ?_
            simp only [put_lit, List.set_cons_succ, List.set_cons_zero]
            refine wpE_skip rfl ?_
            simp only [put_lit, List.set_cons_succ, List.set_cons_zero]
            refine wpE_skip rfl ?_
            simp only [put_lit, List.set_cons_succ, List.set_cons_zero]
            refine wpE_skip rfl ?_
            simp only [put_lit, List.set_cons_succ, List.set_cons_zero]
            refine wpE_skip rfl ?_
            simp only [put_lit, List.set_cons_succ, List.set_cons_zero]
            refine wpE_skip rfl ?_
            simp only [put_lit, List.set_cons_succ, List.set_cons_zero]
            refine wpE_skip rfl ?_
            simp only [put_lit, List.set_cons_succ, List.set_cons_zero]
            refine wpE_skip rfl ?_
            simp only [put_lit, List.set_cons_succ, List.set_cons_zero]
            (first | (refine wpE_move rfl rfl rfl ?_; simp only [put_lit, eval_lit, BigFrame.eval_const, List.set_cons_succ, List.set_cons_zero, List.getD_cons_succ, List.getD_cons_zero]) | (refine wpE_run rfl rfl (by simp) (fun w1 hx1 _ K hK => by go_step; exact hK _ (Ext.refl _)) ?_; simp only [put_lit, List.set_cons_succ, List.set_cons_zero]))
            (first | (refine wpE_move rfl rfl rfl ?_; simp only [put_lit, eval_lit, BigFrame.eval_const, List.set_cons_succ, List.set_cons_zero, List.getD_cons_succ, List.getD_cons_zero]) | (refine wpE_run rfl rfl (by simp) (fun w1 hx1 _ K hK => by go_step; exact hK _ (Ext.refl _)) ?_; simp only [put_lit, List.set_cons_succ, List.set_cons_zero]))
            (refine wpE_run rfl rfl (by simp) (fun w1 hx1 _ K hK => by go_wp2_with (go_at_call 25; refine (works_any _).mono ?_; rintro e w2 ⟨rfl, hx2⟩; exact hK _ hx2)) ?_); simp only [put_lit, List.set_cons_succ, List.set_cons_zero]
            (first | (refine wpE_move rfl rfl rfl ?_; simp only [put_lit, eval_lit, BigFrame.eval_const, List.set_cons_succ, List.set_cons_zero, List.getD_cons_succ, List.getD_cons_zero]) | (refine wpE_run rfl rfl (by simp) (fun w1 hx1 _ K hK => by go_step; exact hK _ (Ext.refl _)) ?_; simp only [put_lit, List.set_cons_succ, List.set_cons_zero]))
            (refine wpE_nil ?_; intro w2 hw2 hF; simp only [List.drop_succ_cons, List.drop_zero])
            have hxx := HX.out.trans hw2
            go_wp2_with fail
            go_ret
            exact ⟨rfl, hxx⟩
end Go.Proofs.Ytnigpobbckampaa
