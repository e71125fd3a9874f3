/- AesAlike, walked. -/
import Derived.Test.YtnigpobbckampaaP5
import Derived.Test.YtnigpobbckampaaU1
import Derived.RegionTactic
namespace Go.Proofs.Ytnigpobbckampaa
open Go.RowKit
set_option linter.unusedSimpArgs false
set_option linter.unusedVariables false

theorem nagg3 (w : World) : (isAgg 3).run Try.prog w = .ok false w := by kernel_rfl
theorem sz3 (w : World) : (sizeOf 3).run Try.prog w = .ok 1 w := by kernel_rfl
theorem keyF_skip (N k n : Nat) (f : Nat → Nat) (h : n ≤ k) : row N (mixF (k + 1) (keyF n f) fun _ => 0) = row N (mixF k (keyF n f) fun _ => 0) := row_congr fun j hj => by
  simp only [mixF, keyF]
  by_cases h1 : j < k
  · rw [if_pos h1, if_pos (by omega)]
  · by_cases h2 : j < k + 1
    · rw [if_neg h1, if_pos h2, if_neg (by omega)]
    · rw [if_neg h1, if_neg h2]

set_option maxRecDepth 100000 in
set_option maxHeartbeats 1000000 in
theorem alike_any (v u : Value) (n m : Nat) (f h X : Nat → Nat) (w : World) (hn : n ≤ 9223372036854775807) (hm : m ≤ 9223372036854775807) (hv : RdF w v n f) (hu : RdF w u m h) (hX : ∀ j, j < 16 → X j < 256) :
    Calls Try.prog 9 #[v, u, .agg (row 16 X)] w fun e w' => e = .returned (.bool true) ∧ Ext w w' := by
  obtain ⟨ao, cap, rfl, hcap⟩ := hv.len
  obtain ⟨bo, cbp, rfl, hcbp⟩ := hu.len
  have HV := Lib.hid hv
  have HU := Lib.hid hu
  clear hv hu
  go_enter Try.func9, Try.ntmps9
  go_upto_region 1 with (refine wl_boxA rfl 23 _ rfl _ rfl ?_)
  have hB0 : Blk (w.alloc (.cells (row 16 X) 23)) w.heap.size 23 (row 16 X) := Blk.new _ _ _
  have hx0 : Ext w (w.alloc (.cells (row 16 X) 23)) := Ext.alloc _ _
  generalize w.alloc (.cells (row 16 X) 23) = w0 at hB0 hx0 ⊢
  go_wp2_with fail
  go_loopw [20] (fun v20 wr => ∃ i : Nat, i ≤ 2 ∧ v20 = .int .i64 i ∧ Blk wr w.heap.size 23 (row 16 X) ∧ Ext w wr) (fun v20 _ => 2 - (intOf v20).toNat)
  case atStart => exact ⟨0, by omega, rfl, hB0, hx0⟩
  case round =>
    clear hB0 hx0
    obtain ⟨i, hi, rfl, hB, hx⟩ := hrel
    rcases (by omega : i = 0 ∨ i = 1 ∨ i = 2) with rfl | rfl | rfl
    · simp only [Int.natCast_zero]
      go_upto_region 4 with (refine wl_indexA rfl 46 (.tmp 19) (.tmp 20) rfl 3 2 Try.underlying46 nagg3 sz3 _ rfl .i64 0 rfl (by omega) (.int .i64 16) rfl ?_)
      have HX := Lib.hid hx
      have HB := Lib.hid hB
      clear hx hB
      have hw1s := HB.out.lt
      go_cut [9, 10] from 22 to 26 (fun v9 v10 wx => ∃ g1 g2 : Nat, v9 = .slice (some ⟨g1, 0, none⟩) 16 16 ∧ v10 = .slice (some ⟨g2, 0, none⟩) 16 16 ∧ g1 ≠ g2 ∧ wr.heap.size ≤ g1 ∧ wr.heap.size ≤ g2 ∧ Blk wx g1 5 (row 16 fun _ => 0) ∧ Blk wx g2 5 (row 16 fun _ => 0) ∧ Ext wr wx)
      case first =>
        rename_i J9 K9 hJ9 hK9
        have HJ9 := Lib.hid hJ9
        have HK9 := Lib.hid hK9
        clear hJ9 hK9
        have hmk : ∀ W : World, (Instr.makeSlice 22 (.int .i64 16) (.int .i64 16)).run Try.prog W = .ok (.slice (some ⟨W.heap.size, 0, none⟩) 16 16) (W.alloc (.cells (row 16 fun _ => 0) 5)) := fun W => run_makeF 16 16 (by omega) (by omega) W
        have H1 := Lib.hid (show Blk ((wr.alloc (.cells (row 16 fun _ => 0) 5)).alloc (.cells (row 16 fun _ => 0) 5)).drew wr.heap.size 5 (row 16 fun _ => 0) from ((Blk.new wr _ _).alloc _).drew)
        have H2 := Lib.hid (show Blk ((wr.alloc (.cells (row 16 fun _ => 0) 5)).alloc (.cells (row 16 fun _ => 0) 5)).drew (wr.heap.size + 1) 5 (row 16 fun _ => 0) from by
          have := Blk.new (wr.alloc (.cells (row 16 fun _ => 0) 5)) 5 (row 16 fun _ => 0)
          simp only [World.size_alloc] at this
          exact this.drew)
        have H3 := Lib.hid (show Ext wr ((wr.alloc (.cells (row 16 fun _ => 0) 5)).alloc (.cells (row 16 fun _ => 0) 5)).drew from ((Ext.alloc _ _).trans (Ext.alloc _ _)).trans (Ext.drew _))
        go_region
        all_goals
          refine HK9.out _ _ (Met.intro (HJ9.out _ _ ?_))
          repeat apply Exists.intro
          refine ⟨?_, rfl⟩
          first | exact ⟨_, _, rfl, rfl, by omega, by omega, by omega, H1.out, H2.out, H3.out⟩ | exact ⟨_, _, rfl, rfl, by omega, by omega, by omega, H2.out, H1.out, H3.out⟩
      case rest =>
        obtain ⟨g1, g2, rfl, rfl, d12, hg1, hg2, hb1, hb2, hw2⟩ := hcut
        have hX2 := HX.out.trans hw2
        have hB2 := HB.out.ext hw2
        clear HX HB hw2
        go_wp2_with fail
        go_loopw [11] (fun v11 wr => ∃ k : Nat, k ≤ 16 ∧ v11 = .int .i64 k ∧ Blk wr g1 5 (row 16 (mixF k (keyF n f) fun _ => 0)) ∧ Blk wr g2 5 (row 16 (mixF k (keyF m h) fun _ => 0)) ∧ Blk wr w.heap.size 23 (row 16 X) ∧ Ext w wr) (fun v11 _ => 16 - (intOf v11).toNat)
        case atStart => exact ⟨0, by omega, rfl, by rw [mixF_zero]; exact hb1, by rw [mixF_zero]; exact hb2, hB2, hX2⟩
        case round =>
          clear hb1 hb2 hB2 hX2
          obtain ⟨k, hk, rfl, hb1, hb2, hB, hx⟩ := hrel
          by_cases hgo : k < 16
          · have h1' : (k : Int) < 16 := by omega
            have HB := Lib.hid hB
            have H1 := Lib.hid hb1
            have H2 := Lib.hid hb2
            have HX := Lib.hid hx
            clear hb1 hb2 hB hx
            go_upto_if 35 with fail
            go_cut [] from 27 to 53 (fun wx => Blk wx g1 5 (row 16 (mixF (k + 1) (keyF n f) fun _ => 0)) ∧ Blk wx g2 5 (row 16 (mixF k (keyF m h) fun _ => 0)) ∧ Blk wx w.heap.size 23 (row 16 X) ∧ Ext w wx)
            case first =>
              by_cases h2 : k < n
              · have h2' : (k : Int) < (n : Int) := by omega
                obtain ⟨g, off, cap', hs, _, hf⟩ := (HV.out.ext HX.out).form (by omega)
                obtain ⟨rfl, rfl⟩ : ao = some ⟨g, off, none⟩ ∧ cap = cap' := by cases hs; exact ⟨rfl, rfl⟩
                have hc := (hf k h2).2
                have ht := H1.out.byte k hgo
                have hfr := H1.out.frozen k
                clear hf hs
                go_wp2_with fail
                go_meet
                case rel =>
                  refine ⟨?_, H2.out.other _ (by simp; omega), HB.out.other _ (by simp; omega), HX.out.setCell (by simp; omega) _⟩
                  have e : f k = keyF n f k := by unfold keyF; rw [if_pos h2]
                  rw [e, ← mixF_upd]
                  exact H1.out.setB k _
              · have h2' : ¬ (k : Int) < (n : Int) := by omega
                go_wp2_with fail
                go_meet
                case rel =>
                  refine ⟨?_, H2.out, HB.out, HX.out⟩
                  rw [keyF_skip 16 k n f (by omega)]
                  exact H1.out
            case rest =>
              obtain ⟨hb1, hb2, hB, hx⟩ := hcut
              clear H1 H2 HB HX
              have HB := Lib.hid hB
              have H1 := Lib.hid hb1
              have H2 := Lib.hid hb2
              have HX := Lib.hid hx
              clear hb1 hb2 hB hx
              by_cases h2 : k < m
              · have h2' : (k : Int) < (m : Int) := by omega
                obtain ⟨g, off, cap', hs, _, hf⟩ := (HU.out.ext HX.out).form (by omega)
                obtain ⟨rfl, rfl⟩ : bo = some ⟨g, off, none⟩ ∧ cbp = cap' := by cases hs; exact ⟨rfl, rfl⟩
                have hc := (hf k h2).2
                have ht := H2.out.byte k hgo
                have hfr := H2.out.frozen k
                clear hf hs
                go_wp2_with fail
                go_roundw
                case rel =>
                  refine ⟨k + 1, by omega, by go_num, H1.out.other _ (by simp; omega), ?_, HB.out.other _ (by simp; omega), HX.out.setCell (by simp; omega) _⟩
                  have e : h k = keyF m h k := by unfold keyF; rw [if_pos h2]
                  rw [e, ← mixF_upd]
                  exact H2.out.setB k _
                case measure => simp [intOf]; omega
              · have h2' : ¬ (k : Int) < (m : Int) := by omega
                go_wp2_with fail
                go_roundw
                case rel =>
                  refine ⟨k + 1, by omega, by go_num, H1.out, ?_, HB.out, HX.out⟩
                  rw [keyF_skip 16 k m h (by omega)]
                  exact H2.out
                case measure => simp [intOf]; omega
          · obtain rfl : k = 16 := by omega
            have e1 : row 16 (mixF 16 (keyF n f) fun _ => 0) = row 16 (keyF n f) := row_congr fun j hj => by simp only [mixF, if_pos hj]
            have e2 : row 16 (mixF 16 (keyF m h) fun _ => 0) = row 16 (keyF m h) := row_congr fun j hj => by simp only [mixF, if_pos hj]
            rw [e1] at hb1
            rw [e2] at hb2
            clear e1 e2 hgo hk
            have R1 := Lib.hid (rd_of_blk hb1 (keyF_lt HV.out.lt 16))
            have R2 := Lib.hid (rd_of_blk hb2 (keyF_lt HU.out.lt 16))
            have HB := Lib.hid hB
            have HX := Lib.hid hx
            clear hb1 hb2 hB hx
            go_wp2_with fail
            refine (new4_any _ _ _ R1.out).mono ?_
            rintro e w3 ⟨b1, rfl, hC1, _, hx3⟩
            have H1 := Lib.hid hC1
            have HX3 := Lib.hid hx3
            clear hC1 hx3
            go_wp2_with fail
            refine (new4_any _ _ _ (R1.out.ext HX3.out)).mono ?_
            rintro e w4 ⟨b2, rfl, hC2, _, hx4⟩
            have H2 := Lib.hid hC2
            have HX4 := Lib.hid (HX3.out.trans hx4)
            have HS4 := Lib.hid hx4
            clear hC2 hx4
            go_wp2_with fail
            refine (new4_any _ _ _ (R2.out.ext HX4.out)).mono ?_
            rintro e w5 ⟨b3, rfl, hC3, _, hx5⟩
            have G3 := Lib.hid hC3
            have G2 := Lib.hid (H2.out.ext hx5)
            have G1 := Lib.hid (H1.out.ext (HS4.out.trans hx5))
            have GX := Lib.hid (HX.out.trans (HX4.out.trans hx5))
            have GB := Lib.hid (HB.out.ext (HX4.out.trans hx5))
            clear hC3 hx5 H1 H2 HX3 HX4 HS4 HB HX R1 R2
            go_upto_region 17 with fail
            go_wp2_with (refine wl_loadA rfl 23 _ rfl _ 0 16 rfl agg23 sz23 _ _ GB.out (by simp [row_size]) (row 16 X) (row_whole _ _) ?_)
            refine (block_any b1 (4 + 7) _ (by omega) (by omega) X hX _ G1.out).mono ?_
            rintro e w6 ⟨rfl, hx6⟩
            obtain ⟨Y, hY⟩ : ∃ Y, Y = blockP (4 + 7) (keysP 4 (keyF n f)) X := ⟨_, rfl⟩
            have EY := Lib.hid hY.symm
            rw [← hY]
            clear hY
            have H1 := Lib.hid (G1.out.ext hx6)
            have H2 := Lib.hid (G2.out.ext hx6)
            have H3 := Lib.hid (G3.out.ext hx6)
            have HX := Lib.hid (GX.out.trans hx6)
            have HB := Lib.hid (GB.out.ext hx6)
            clear G1 G2 G3 GX GB hx6
            go_upto_region 18 with (first | (refine wl_allocA rfl 23 rfl _ zero23 ?_) | (refine wl_storeA rfl 23 _ _ rfl _ 0 16 rfl (row 16 Y) rfl sz23 (row_size _ _) _ _ (Blk.new _ _ _) (by simp [row_size]) (row_one _ _) (row 16 Y) (lay_all _ _ (by simp [row_size])) ?_))
            have hy0 : Blk ((w6.alloc (.cells (row 16 fun _ => 0) 23)).setRow w6.heap.size (row 16 Y)) w6.heap.size 23 (row 16 Y) := (Blk.new _ _ _).setRow _
            have hX7 : Ext w6 ((w6.alloc (.cells (row 16 fun _ => 0) 23)).setRow w6.heap.size (row 16 Y)) := below_setRow (g := w6.heap.size) (Ext.alloc _ _) (Nat.le_refl _) _
            generalize w6.heap.size = gy at hy0 hX7 ⊢
            generalize (w6.alloc (.cells (row 16 fun _ => 0) 23)).setRow gy (row 16 Y) = w7 at hy0 hX7 ⊢
            have G1 := Lib.hid (H1.out.ext hX7)
            have G2 := Lib.hid (H2.out.ext hX7)
            have G3 := Lib.hid (H3.out.ext hX7)
            have GX := Lib.hid (HX.out.trans hX7)
            have GB := Lib.hid (HB.out.ext hX7)
            have GY := Lib.hid hy0
            clear H1 H2 H3 HX HB hX7 hy0
            go_wp2_with (refine wl_loadA rfl 23 _ rfl _ 0 16 rfl agg23 sz23 _ _ GB.out (by simp [row_size]) (row 16 X) (row_whole _ _) ?_)
            refine (block_any b3 (4 + 7) _ (by omega) (by omega) X hX _ G3.out).mono ?_
            rintro e w8 ⟨rfl, hx8⟩
            have H1 := Lib.hid (G1.out.ext hx8)
            have H2 := Lib.hid (G2.out.ext hx8)
            have H3 := Lib.hid (G3.out.ext hx8)
            have HX := Lib.hid (GX.out.trans hx8)
            have HB := Lib.hid (GB.out.ext hx8)
            have HY := Lib.hid (GY.out.ext hx8)
            clear G1 G2 G3 GX GB GY hx8
            go_upto_region 19 with fail
            have ER := Lib.hid (congrArg (row 16) EY.out)
            apply wp_region_mid 28 [.det _, .det _, .det _, .det _, .det _, .det _, .det _, .det _, .det _, .det _, .det _, .det _, .det _, .det _, .det _, .det _, .det _, .det _, .det _, .det _, .det _, .det _, .det _, .det _, .det _, .det _, .det _, .det _] (by kernel_rfl) rfl (by kernel_rfl)
            · (first | (refine wpE_move rfl rfl rfl ?_; simp only [put_lit, eval_lit, BigFrame.eval_const, List.set_cons_succ, List.set_cons_zero, List.getD_cons_succ, List.getD_cons_zero]) | (refine wpE_run rfl rfl (by simp) (fun w1 hx1 _ K hK => by go_step; exact hK _ (Ext.refl _)) ?_; simp only [put_lit, List.set_cons_succ, List.set_cons_zero]))
              refine wpE_run rfl rfl (by simp) (fun w' hx' _ K hK => wp_loadA 23 _ rfl _ 0 16 rfl agg23 sz23 _ _ (HB.out.ext hx') (by simp [row_size]) (row 16 X) (row_whole _ _) (hK _ (Ext.refl _))) ?_
              simp only [put_lit, List.set_cons_succ, List.set_cons_zero]
              (refine wpE_run rfl rfl (by simp) (fun w1 hx1 _ K hK => by go_wp2_with (go_at_call 21; refine (block_any b2 (4 + 7) _ (by omega) (by omega) X hX _ (H2.out.ext hx1)).mono ?_; rintro e w2 ⟨rfl, hx2⟩; exact hK _ hx2)) ?_); simp only [put_lit, List.set_cons_succ, List.set_cons_zero]
              rw [ER.out]
              refine wpE_run rfl rfl (by simp) (fun w' hx' _ K hK => wp_loadA 23 _ rfl _ 0 16 rfl agg23 sz23 _ _ (HY.out.ext hx') (by simp [row_size]) (row 16 Y) (row_whole _ _) (hK _ (Ext.refl _))) ?_
              simp only [put_lit, List.set_cons_succ, List.set_cons_zero]
              refine wpE_neq23 rfl (.tmp 87) (.tmp 88) rfl Y Y rfl rfl ?_
              rw [eqN_refl]
              simp only [put_lit, List.set_cons_succ, List.set_cons_zero]
              (first | (refine wpE_move rfl rfl rfl ?_; simp only [put_lit, eval_lit, BigFrame.eval_const, List.set_cons_succ, List.set_cons_zero, List.getD_cons_succ, List.getD_cons_zero]) | (refine wpE_run rfl rfl (by simp) (fun w1 hx1 _ K hK => by go_step; exact hK _ (Ext.refl _)) ?_; simp only [put_lit, List.set_cons_succ, List.set_cons_zero]))
              (first | (refine wpE_move rfl rfl rfl ?_; simp only [put_lit, eval_lit, BigFrame.eval_const, List.set_cons_succ, List.set_cons_zero, List.getD_cons_succ, List.getD_cons_zero]) | (refine wpE_run rfl rfl (by simp) (fun w1 hx1 _ K hK => by go_step; exact hK _ (Ext.refl _)) ?_; simp only [put_lit, List.set_cons_succ, List.set_cons_zero]))
              refine wpE_run rfl rfl (by simp) (fun w' hx' _ K hK => wp_loadA 23 _ rfl _ 0 16 rfl agg23 sz23 _ _ (HB.out.ext hx') (by simp [row_size]) (row 16 X) (row_whole _ _) (hK _ (Ext.refl _))) ?_
              simp only [put_lit, List.set_cons_succ, List.set_cons_zero]
              (refine wpE_run rfl rfl (by simp) (fun w1 hx1 _ K hK => by go_wp2_with (go_at_call 21; refine (block_any b1 (4 + 7) _ (by omega) (by omega) X hX _ (H1.out.ext hx1)).mono ?_; rintro e w2 ⟨rfl, hx2⟩; exact hK _ hx2)) ?_); simp only [put_lit, List.set_cons_succ, List.set_cons_zero]
              rw [ER.out]
              refine wpE_run rfl rfl (by simp) (fun w' hx' _ K hK => wp_loadA 23 _ rfl _ 0 16 rfl agg23 sz23 _ _ (HY.out.ext hx') (by simp [row_size]) (row 16 Y) (row_whole _ _) (hK _ (Ext.refl _))) ?_
              simp only [put_lit, List.set_cons_succ, List.set_cons_zero]
              refine wpE_neq23 rfl (.tmp 93) (.tmp 94) rfl Y Y rfl rfl ?_
              rw [eqN_refl]
              simp only [put_lit, List.set_cons_succ, List.set_cons_zero]
              (first | (refine wpE_move rfl rfl rfl ?_; simp only [put_lit, eval_lit, BigFrame.eval_const, List.set_cons_succ, List.set_cons_zero, List.getD_cons_succ, List.getD_cons_zero]) | (refine wpE_run rfl rfl (by simp) (fun w1 hx1 _ K hK => by go_step; exact hK _ (Ext.refl _)) ?_; simp only [put_lit, List.set_cons_succ, List.set_cons_zero]))
              (first | (refine wpE_move rfl rfl rfl ?_; simp only [put_lit, eval_lit, BigFrame.eval_const, List.set_cons_succ, List.set_cons_zero, List.getD_cons_succ, List.getD_cons_zero]) | (refine wpE_run rfl rfl (by simp) (fun w1 hx1 _ K hK => by go_step; exact hK _ (Ext.refl _)) ?_; simp only [put_lit, List.set_cons_succ, List.set_cons_zero]))
              (first | (refine wpE_move rfl rfl rfl ?_; simp only [put_lit, eval_lit, BigFrame.eval_const, List.set_cons_succ, List.set_cons_zero, List.getD_cons_succ, List.getD_cons_zero]) | (refine wpE_run rfl rfl (by simp) (fun w1 hx1 _ K hK => by go_step; exact hK _ (Ext.refl _)) ?_; simp only [put_lit, List.set_cons_succ, List.set_cons_zero]))
              (refine wpE_run rfl rfl (by simp) (fun w1 hx1 _ K hK => by go_wp2_with (go_at_call 23; refine (rounds_any b1 (4 + 7) _ (by omega) (by omega) _ (H1.out.ext hx1)).mono ?_; rintro e w2 ⟨rfl, rfl⟩; exact hK _ (Ext.refl _))) ?_)
              simp only [put_lit, List.set_cons_succ, List.set_cons_zero]
              (first | (refine wpE_move rfl rfl rfl ?_; simp only [put_lit, eval_lit, BigFrame.eval_const, List.set_cons_succ, List.set_cons_zero, List.getD_cons_succ, List.getD_cons_zero]) | (refine wpE_run rfl rfl (by simp) (fun w1 hx1 _ K hK => by go_step; exact hK _ (Ext.refl _)) ?_; simp only [put_lit, List.set_cons_succ, List.set_cons_zero]))
              (first | (refine wpE_move rfl rfl rfl ?_; simp only [put_lit, eval_lit, BigFrame.eval_const, List.set_cons_succ, List.set_cons_zero, List.getD_cons_succ, List.getD_cons_zero]) | (refine wpE_run rfl rfl (by simp) (fun w1 hx1 _ K hK => by go_step; exact hK _ (Ext.refl _)) ?_; simp only [put_lit, List.set_cons_succ, List.set_cons_zero]))
              (first | (refine wpE_move rfl rfl rfl ?_; simp only [put_lit, eval_lit, BigFrame.eval_const, List.set_cons_succ, List.set_cons_zero, List.getD_cons_succ, List.getD_cons_zero]) | (refine wpE_run rfl rfl (by simp) (fun w1 hx1 _ K hK => by go_step; exact hK _ (Ext.refl _)) ?_; simp only [put_lit, List.set_cons_succ, List.set_cons_zero]))
              (first | (refine wpE_move rfl rfl rfl ?_; simp only [put_lit, eval_lit, BigFrame.eval_const, List.set_cons_succ, List.set_cons_zero, List.getD_cons_succ, List.getD_cons_zero]) | (refine wpE_run rfl rfl (by simp) (fun w1 hx1 _ K hK => by go_step; exact hK _ (Ext.refl _)) ?_; simp only [put_lit, List.set_cons_succ, List.set_cons_zero]))
              (first | (refine wpE_move rfl rfl rfl ?_; simp only [put_lit, eval_lit, BigFrame.eval_const, List.set_cons_succ, List.set_cons_zero, List.getD_cons_succ, List.getD_cons_zero]) | (refine wpE_run rfl rfl (by simp) (fun w1 hx1 _ K hK => by go_step; exact hK _ (Ext.refl _)) ?_; simp only [put_lit, List.set_cons_succ, List.set_cons_zero]))
              (first | (refine wpE_move rfl rfl rfl ?_; simp only [put_lit, eval_lit, BigFrame.eval_const, List.set_cons_succ, List.set_cons_zero, List.getD_cons_succ, List.getD_cons_zero]) | (refine wpE_run rfl rfl (by simp) (fun w1 hx1 _ K hK => by go_step; exact hK _ (Ext.refl _)) ?_; simp only [put_lit, List.set_cons_succ, List.set_cons_zero]))
              (first | (refine wpE_move rfl rfl rfl ?_; simp only [put_lit, eval_lit, BigFrame.eval_const, List.set_cons_succ, List.set_cons_zero, List.getD_cons_succ, List.getD_cons_zero]) | (refine wpE_run rfl rfl (by simp) (fun w1 hx1 _ K hK => by go_step; exact hK _ (Ext.refl _)) ?_; simp only [put_lit, List.set_cons_succ, List.set_cons_zero]))
              (refine wpE_run rfl rfl (by simp) (fun w1 hx1 _ K hK => by go_wp2_with (go_at_call 23; refine (rounds_any b3 (4 + 7) _ (by omega) (by omega) _ (H3.out.ext hx1)).mono ?_; rintro e w2 ⟨rfl, rfl⟩; exact hK _ (Ext.refl _))) ?_)
              simp only [put_lit, List.set_cons_succ, List.set_cons_zero]
              (first | (refine wpE_move rfl rfl rfl ?_; simp only [put_lit, eval_lit, BigFrame.eval_const, List.set_cons_succ, List.set_cons_zero, List.getD_cons_succ, List.getD_cons_zero]) | (refine wpE_run rfl rfl (by simp) (fun w1 hx1 _ K hK => by go_step; exact hK _ (Ext.refl _)) ?_; simp only [put_lit, List.set_cons_succ, List.set_cons_zero]))
              (first | (refine wpE_move rfl rfl rfl ?_; simp only [put_lit, eval_lit, BigFrame.eval_const, List.set_cons_succ, List.set_cons_zero, List.getD_cons_succ, List.getD_cons_zero]) | (refine wpE_run rfl rfl (by simp) (fun w1 hx1 _ K hK => by go_step; exact hK _ (Ext.refl _)) ?_; simp only [put_lit, List.set_cons_succ, List.set_cons_zero]))
              (first | (refine wpE_move rfl rfl rfl ?_; simp only [put_lit, eval_lit, BigFrame.eval_const, List.set_cons_succ, List.set_cons_zero, List.getD_cons_succ, List.getD_cons_zero]) | (refine wpE_run rfl rfl (by simp) (fun w1 hx1 _ K hK => by go_step; exact hK _ (Ext.refl _)) ?_; simp only [put_lit, List.set_cons_succ, List.set_cons_zero]))
              (first | (refine wpE_move rfl rfl rfl ?_; simp only [put_lit, eval_lit, BigFrame.eval_const, List.set_cons_succ, List.set_cons_zero, List.getD_cons_succ, List.getD_cons_zero]) | (refine wpE_run rfl rfl (by simp) (fun w1 hx1 _ K hK => by go_step; exact hK _ (Ext.refl _)) ?_; simp only [put_lit, List.set_cons_succ, List.set_cons_zero]))
              (first | (refine wpE_move rfl rfl rfl ?_; simp only [put_lit, eval_lit, BigFrame.eval_const, List.set_cons_succ, List.set_cons_zero, List.getD_cons_succ, List.getD_cons_zero]) | (refine wpE_run rfl rfl (by simp) (fun w1 hx1 _ K hK => by go_step; exact hK _ (Ext.refl _)) ?_; simp only [put_lit, List.set_cons_succ, List.set_cons_zero]))
              (refine wpE_nil ?_; intro w2 hw2 hF; simp only [List.drop_succ_cons, List.drop_zero])
              have hxx := HX.out.trans hw2
              have hbb := HB.out.ext hw2
              go_wp2_with fail
              go_roundw
              case rel => exact ⟨1, by omega, by go_num, hbb, hxx⟩
              case measure => simp [intOf]
    · simp only [Int.natCast_one]
      go_upto_region 4 with (refine wl_indexA rfl 46 (.tmp 19) (.tmp 20) rfl 3 2 Try.underlying46 nagg3 sz3 _ rfl .i64 1 rfl (by omega) (.int .i64 32) rfl ?_)
      have HX := Lib.hid hx
      have HB := Lib.hid hB
      clear hx hB
      have hw1s := HB.out.lt
      go_cut [9, 10] from 22 to 26 (fun v9 v10 wx => ∃ g1 g2 : Nat, v9 = .slice (some ⟨g1, 0, none⟩) 32 32 ∧ v10 = .slice (some ⟨g2, 0, none⟩) 32 32 ∧ g1 ≠ g2 ∧ wr.heap.size ≤ g1 ∧ wr.heap.size ≤ g2 ∧ Blk wx g1 5 (row 32 fun _ => 0) ∧ Blk wx g2 5 (row 32 fun _ => 0) ∧ Ext wr wx)
      case first =>
        rename_i J9 K9 hJ9 hK9
        have HJ9 := Lib.hid hJ9
        have HK9 := Lib.hid hK9
        clear hJ9 hK9
        have hmk : ∀ W : World, (Instr.makeSlice 22 (.int .i64 32) (.int .i64 32)).run Try.prog W = .ok (.slice (some ⟨W.heap.size, 0, none⟩) 32 32) (W.alloc (.cells (row 32 fun _ => 0) 5)) := fun W => run_makeF 32 32 (by omega) (by omega) W
        have H1 := Lib.hid (show Blk ((wr.alloc (.cells (row 32 fun _ => 0) 5)).alloc (.cells (row 32 fun _ => 0) 5)).drew wr.heap.size 5 (row 32 fun _ => 0) from ((Blk.new wr _ _).alloc _).drew)
        have H2 := Lib.hid (show Blk ((wr.alloc (.cells (row 32 fun _ => 0) 5)).alloc (.cells (row 32 fun _ => 0) 5)).drew (wr.heap.size + 1) 5 (row 32 fun _ => 0) from by
          have := Blk.new (wr.alloc (.cells (row 32 fun _ => 0) 5)) 5 (row 32 fun _ => 0)
          simp only [World.size_alloc] at this
          exact this.drew)
        have H3 := Lib.hid (show Ext wr ((wr.alloc (.cells (row 32 fun _ => 0) 5)).alloc (.cells (row 32 fun _ => 0) 5)).drew from ((Ext.alloc _ _).trans (Ext.alloc _ _)).trans (Ext.drew _))
        go_region
        all_goals
          refine HK9.out _ _ (Met.intro (HJ9.out _ _ ?_))
          repeat apply Exists.intro
          refine ⟨?_, rfl⟩
          first | exact ⟨_, _, rfl, rfl, by omega, by omega, by omega, H1.out, H2.out, H3.out⟩ | exact ⟨_, _, rfl, rfl, by omega, by omega, by omega, H2.out, H1.out, H3.out⟩
      case rest =>
        obtain ⟨g1, g2, rfl, rfl, d12, hg1, hg2, hb1, hb2, hw2⟩ := hcut
        have hX2 := HX.out.trans hw2
        have hB2 := HB.out.ext hw2
        clear HX HB hw2
        go_wp2_with fail
        go_loopw [11] (fun v11 wr => ∃ k : Nat, k ≤ 32 ∧ v11 = .int .i64 k ∧ Blk wr g1 5 (row 32 (mixF k (keyF n f) fun _ => 0)) ∧ Blk wr g2 5 (row 32 (mixF k (keyF m h) fun _ => 0)) ∧ Blk wr w.heap.size 23 (row 16 X) ∧ Ext w wr) (fun v11 _ => 32 - (intOf v11).toNat)
        case atStart => exact ⟨0, by omega, rfl, by rw [mixF_zero]; exact hb1, by rw [mixF_zero]; exact hb2, hB2, hX2⟩
        case round =>
          clear hb1 hb2 hB2 hX2
          obtain ⟨k, hk, rfl, hb1, hb2, hB, hx⟩ := hrel
          by_cases hgo : k < 32
          · have h1' : (k : Int) < 32 := by omega
            have HB := Lib.hid hB
            have H1 := Lib.hid hb1
            have H2 := Lib.hid hb2
            have HX := Lib.hid hx
            clear hb1 hb2 hB hx
            go_upto_if 35 with fail
            go_cut [] from 27 to 53 (fun wx => Blk wx g1 5 (row 32 (mixF (k + 1) (keyF n f) fun _ => 0)) ∧ Blk wx g2 5 (row 32 (mixF k (keyF m h) fun _ => 0)) ∧ Blk wx w.heap.size 23 (row 16 X) ∧ Ext w wx)
            case first =>
              by_cases h2 : k < n
              · have h2' : (k : Int) < (n : Int) := by omega
                obtain ⟨g, off, cap', hs, _, hf⟩ := (HV.out.ext HX.out).form (by omega)
                obtain ⟨rfl, rfl⟩ : ao = some ⟨g, off, none⟩ ∧ cap = cap' := by cases hs; exact ⟨rfl, rfl⟩
                have hc := (hf k h2).2
                have ht := H1.out.byte k hgo
                have hfr := H1.out.frozen k
                clear hf hs
                go_wp2_with fail
                go_meet
                case rel =>
                  refine ⟨?_, H2.out.other _ (by simp; omega), HB.out.other _ (by simp; omega), HX.out.setCell (by simp; omega) _⟩
                  have e : f k = keyF n f k := by unfold keyF; rw [if_pos h2]
                  rw [e, ← mixF_upd]
                  exact H1.out.setB k _
              · have h2' : ¬ (k : Int) < (n : Int) := by omega
                go_wp2_with fail
                go_meet
                case rel =>
                  refine ⟨?_, H2.out, HB.out, HX.out⟩
                  rw [keyF_skip 32 k n f (by omega)]
                  exact H1.out
            case rest =>
              obtain ⟨hb1, hb2, hB, hx⟩ := hcut
              clear H1 H2 HB HX
              have HB := Lib.hid hB
              have H1 := Lib.hid hb1
              have H2 := Lib.hid hb2
              have HX := Lib.hid hx
              clear hb1 hb2 hB hx
              by_cases h2 : k < m
              · have h2' : (k : Int) < (m : Int) := by omega
                obtain ⟨g, off, cap', hs, _, hf⟩ := (HU.out.ext HX.out).form (by omega)
                obtain ⟨rfl, rfl⟩ : bo = some ⟨g, off, none⟩ ∧ cbp = cap' := by cases hs; exact ⟨rfl, rfl⟩
                have hc := (hf k h2).2
                have ht := H2.out.byte k hgo
                have hfr := H2.out.frozen k
                clear hf hs
                go_wp2_with fail
                go_roundw
                case rel =>
                  refine ⟨k + 1, by omega, by go_num, H1.out.other _ (by simp; omega), ?_, HB.out.other _ (by simp; omega), HX.out.setCell (by simp; omega) _⟩
                  have e : h k = keyF m h k := by unfold keyF; rw [if_pos h2]
                  rw [e, ← mixF_upd]
                  exact H2.out.setB k _
                case measure => simp [intOf]; omega
              · have h2' : ¬ (k : Int) < (m : Int) := by omega
                go_wp2_with fail
                go_roundw
                case rel =>
                  refine ⟨k + 1, by omega, by go_num, H1.out, ?_, HB.out, HX.out⟩
                  rw [keyF_skip 32 k m h (by omega)]
                  exact H2.out
                case measure => simp [intOf]; omega
          · obtain rfl : k = 32 := by omega
            have e1 : row 32 (mixF 32 (keyF n f) fun _ => 0) = row 32 (keyF n f) := row_congr fun j hj => by simp only [mixF, if_pos hj]
            have e2 : row 32 (mixF 32 (keyF m h) fun _ => 0) = row 32 (keyF m h) := row_congr fun j hj => by simp only [mixF, if_pos hj]
            rw [e1] at hb1
            rw [e2] at hb2
            clear e1 e2 hgo hk
            have R1 := Lib.hid (rd_of_blk hb1 (keyF_lt HV.out.lt 32))
            have R2 := Lib.hid (rd_of_blk hb2 (keyF_lt HU.out.lt 32))
            have HB := Lib.hid hB
            have HX := Lib.hid hx
            clear hb1 hb2 hB hx
            go_wp2_with fail
            refine (new8_any _ _ _ R1.out).mono ?_
            rintro e w3 ⟨b1, rfl, hC1, _, hx3⟩
            have H1 := Lib.hid hC1
            have HX3 := Lib.hid hx3
            clear hC1 hx3
            go_wp2_with fail
            refine (new8_any _ _ _ (R1.out.ext HX3.out)).mono ?_
            rintro e w4 ⟨b2, rfl, hC2, _, hx4⟩
            have H2 := Lib.hid hC2
            have HX4 := Lib.hid (HX3.out.trans hx4)
            have HS4 := Lib.hid hx4
            clear hC2 hx4
            go_wp2_with fail
            refine (new8_any _ _ _ (R2.out.ext HX4.out)).mono ?_
            rintro e w5 ⟨b3, rfl, hC3, _, hx5⟩
            have G3 := Lib.hid hC3
            have G2 := Lib.hid (H2.out.ext hx5)
            have G1 := Lib.hid (H1.out.ext (HS4.out.trans hx5))
            have GX := Lib.hid (HX.out.trans (HX4.out.trans hx5))
            have GB := Lib.hid (HB.out.ext (HX4.out.trans hx5))
            clear hC3 hx5 H1 H2 HX3 HX4 HS4 HB HX R1 R2
            go_upto_region 17 with fail
            go_wp2_with (refine wl_loadA rfl 23 _ rfl _ 0 16 rfl agg23 sz23 _ _ GB.out (by simp [row_size]) (row 16 X) (row_whole _ _) ?_)
            refine (block_any b1 (8 + 7) _ (by omega) (by omega) X hX _ G1.out).mono ?_
            rintro e w6 ⟨rfl, hx6⟩
            obtain ⟨Y, hY⟩ : ∃ Y, Y = blockP (8 + 7) (keysP 8 (keyF n f)) X := ⟨_, rfl⟩
            have EY := Lib.hid hY.symm
            rw [← hY]
            clear hY
            have H1 := Lib.hid (G1.out.ext hx6)
            have H2 := Lib.hid (G2.out.ext hx6)
            have H3 := Lib.hid (G3.out.ext hx6)
            have HX := Lib.hid (GX.out.trans hx6)
            have HB := Lib.hid (GB.out.ext hx6)
            clear G1 G2 G3 GX GB hx6
            go_upto_region 18 with (first | (refine wl_allocA rfl 23 rfl _ zero23 ?_) | (refine wl_storeA rfl 23 _ _ rfl _ 0 16 rfl (row 16 Y) rfl sz23 (row_size _ _) _ _ (Blk.new _ _ _) (by simp [row_size]) (row_one _ _) (row 16 Y) (lay_all _ _ (by simp [row_size])) ?_))
            have hy0 : Blk ((w6.alloc (.cells (row 16 fun _ => 0) 23)).setRow w6.heap.size (row 16 Y)) w6.heap.size 23 (row 16 Y) := (Blk.new _ _ _).setRow _
            have hX7 : Ext w6 ((w6.alloc (.cells (row 16 fun _ => 0) 23)).setRow w6.heap.size (row 16 Y)) := below_setRow (g := w6.heap.size) (Ext.alloc _ _) (Nat.le_refl _) _
            generalize w6.heap.size = gy at hy0 hX7 ⊢
            generalize (w6.alloc (.cells (row 16 fun _ => 0) 23)).setRow gy (row 16 Y) = w7 at hy0 hX7 ⊢
            have G1 := Lib.hid (H1.out.ext hX7)
            have G2 := Lib.hid (H2.out.ext hX7)
            have G3 := Lib.hid (H3.out.ext hX7)
            have GX := Lib.hid (HX.out.trans hX7)
            have GB := Lib.hid (HB.out.ext hX7)
            have GY := Lib.hid hy0
            clear H1 H2 H3 HX HB hX7 hy0
            go_wp2_with (refine wl_loadA rfl 23 _ rfl _ 0 16 rfl agg23 sz23 _ _ GB.out (by simp [row_size]) (row 16 X) (row_whole _ _) ?_)
            refine (block_any b3 (8 + 7) _ (by omega) (by omega) X hX _ G3.out).mono ?_
            rintro e w8 ⟨rfl, hx8⟩
            have H1 := Lib.hid (G1.out.ext hx8)
            have H2 := Lib.hid (G2.out.ext hx8)
            have H3 := Lib.hid (G3.out.ext hx8)
            have HX := Lib.hid (GX.out.trans hx8)
            have HB := Lib.hid (GB.out.ext hx8)
            have HY := Lib.hid (GY.out.ext hx8)
            clear G1 G2 G3 GX GB GY hx8
            go_upto_region 19 with fail
            have ER := Lib.hid (congrArg (row 16) EY.out)
            apply wp_region_mid 28 [.det _, .det _, .det _, .det _, .det _, .det _, .det _, .det _, .det _, .det _, .det _, .det _, .det _, .det _, .det _, .det _, .det _, .det _, .det _, .det _, .det _, .det _, .det _, .det _, .det _, .det _, .det _, .det _] (by kernel_rfl) rfl (by kernel_rfl)
            · (first | (refine wpE_move rfl rfl rfl ?_; simp only [put_lit, eval_lit, BigFrame.eval_const, List.set_cons_succ, List.set_cons_zero, List.getD_cons_succ, List.getD_cons_zero]) | (refine wpE_run rfl rfl (by simp) (fun w1 hx1 _ K hK => by go_step; exact hK _ (Ext.refl _)) ?_; simp only [put_lit, List.set_cons_succ, List.set_cons_zero]))
              refine wpE_run rfl rfl (by simp) (fun w' hx' _ K hK => wp_loadA 23 _ rfl _ 0 16 rfl agg23 sz23 _ _ (HB.out.ext hx') (by simp [row_size]) (row 16 X) (row_whole _ _) (hK _ (Ext.refl _))) ?_
              simp only [put_lit, List.set_cons_succ, List.set_cons_zero]
              (refine wpE_run rfl rfl (by simp) (fun w1 hx1 _ K hK => by go_wp2_with (go_at_call 21; refine (block_any b2 (8 + 7) _ (by omega) (by omega) X hX _ (H2.out.ext hx1)).mono ?_; rintro e w2 ⟨rfl, hx2⟩; exact hK _ hx2)) ?_); simp only [put_lit, List.set_cons_succ, List.set_cons_zero]
              rw [ER.out]
              refine wpE_run rfl rfl (by simp) (fun w' hx' _ K hK => wp_loadA 23 _ rfl _ 0 16 rfl agg23 sz23 _ _ (HY.out.ext hx') (by simp [row_size]) (row 16 Y) (row_whole _ _) (hK _ (Ext.refl _))) ?_
              simp only [put_lit, List.set_cons_succ, List.set_cons_zero]
              refine wpE_neq23 rfl (.tmp 87) (.tmp 88) rfl Y Y rfl rfl ?_
              rw [eqN_refl]
              simp only [put_lit, List.set_cons_succ, List.set_cons_zero]
              (first | (refine wpE_move rfl rfl rfl ?_; simp only [put_lit, eval_lit, BigFrame.eval_const, List.set_cons_succ, List.set_cons_zero, List.getD_cons_succ, List.getD_cons_zero]) | (refine wpE_run rfl rfl (by simp) (fun w1 hx1 _ K hK => by go_step; exact hK _ (Ext.refl _)) ?_; simp only [put_lit, List.set_cons_succ, List.set_cons_zero]))
              (first | (refine wpE_move rfl rfl rfl ?_; simp only [put_lit, eval_lit, BigFrame.eval_const, List.set_cons_succ, List.set_cons_zero, List.getD_cons_succ, List.getD_cons_zero]) | (refine wpE_run rfl rfl (by simp) (fun w1 hx1 _ K hK => by go_step; exact hK _ (Ext.refl _)) ?_; simp only [put_lit, List.set_cons_succ, List.set_cons_zero]))
              refine wpE_run rfl rfl (by simp) (fun w' hx' _ K hK => wp_loadA 23 _ rfl _ 0 16 rfl agg23 sz23 _ _ (HB.out.ext hx') (by simp [row_size]) (row 16 X) (row_whole _ _) (hK _ (Ext.refl _))) ?_
              simp only [put_lit, List.set_cons_succ, List.set_cons_zero]
              (refine wpE_run rfl rfl (by simp) (fun w1 hx1 _ K hK => by go_wp2_with (go_at_call 21; refine (block_any b1 (8 + 7) _ (by omega) (by omega) X hX _ (H1.out.ext hx1)).mono ?_; rintro e w2 ⟨rfl, hx2⟩; exact hK _ hx2)) ?_); simp only [put_lit, List.set_cons_succ, List.set_cons_zero]
              rw [ER.out]
              refine wpE_run rfl rfl (by simp) (fun w' hx' _ K hK => wp_loadA 23 _ rfl _ 0 16 rfl agg23 sz23 _ _ (HY.out.ext hx') (by simp [row_size]) (row 16 Y) (row_whole _ _) (hK _ (Ext.refl _))) ?_
              simp only [put_lit, List.set_cons_succ, List.set_cons_zero]
              refine wpE_neq23 rfl (.tmp 93) (.tmp 94) rfl Y Y rfl rfl ?_
              rw [eqN_refl]
              simp only [put_lit, List.set_cons_succ, List.set_cons_zero]
              (first | (refine wpE_move rfl rfl rfl ?_; simp only [put_lit, eval_lit, BigFrame.eval_const, List.set_cons_succ, List.set_cons_zero, List.getD_cons_succ, List.getD_cons_zero]) | (refine wpE_run rfl rfl (by simp) (fun w1 hx1 _ K hK => by go_step; exact hK _ (Ext.refl _)) ?_; simp only [put_lit, List.set_cons_succ, List.set_cons_zero]))
              (first | (refine wpE_move rfl rfl rfl ?_; simp only [put_lit, eval_lit, BigFrame.eval_const, List.set_cons_succ, List.set_cons_zero, List.getD_cons_succ, List.getD_cons_zero]) | (refine wpE_run rfl rfl (by simp) (fun w1 hx1 _ K hK => by go_step; exact hK _ (Ext.refl _)) ?_; simp only [put_lit, List.set_cons_succ, List.set_cons_zero]))
              (first | (refine wpE_move rfl rfl rfl ?_; simp only [put_lit, eval_lit, BigFrame.eval_const, List.set_cons_succ, List.set_cons_zero, List.getD_cons_succ, List.getD_cons_zero]) | (refine wpE_run rfl rfl (by simp) (fun w1 hx1 _ K hK => by go_step; exact hK _ (Ext.refl _)) ?_; simp only [put_lit, List.set_cons_succ, List.set_cons_zero]))
              (refine wpE_run rfl rfl (by simp) (fun w1 hx1 _ K hK => by go_wp2_with (go_at_call 23; refine (rounds_any b1 (8 + 7) _ (by omega) (by omega) _ (H1.out.ext hx1)).mono ?_; rintro e w2 ⟨rfl, rfl⟩; exact hK _ (Ext.refl _))) ?_)
              simp only [put_lit, List.set_cons_succ, List.set_cons_zero]
              (first | (refine wpE_move rfl rfl rfl ?_; simp only [put_lit, eval_lit, BigFrame.eval_const, List.set_cons_succ, List.set_cons_zero, List.getD_cons_succ, List.getD_cons_zero]) | (refine wpE_run rfl rfl (by simp) (fun w1 hx1 _ K hK => by go_step; exact hK _ (Ext.refl _)) ?_; simp only [put_lit, List.set_cons_succ, List.set_cons_zero]))
              (first | (refine wpE_move rfl rfl rfl ?_; simp only [put_lit, eval_lit, BigFrame.eval_const, List.set_cons_succ, List.set_cons_zero, List.getD_cons_succ, List.getD_cons_zero]) | (refine wpE_run rfl rfl (by simp) (fun w1 hx1 _ K hK => by go_step; exact hK _ (Ext.refl _)) ?_; simp only [put_lit, List.set_cons_succ, List.set_cons_zero]))
              (first | (refine wpE_move rfl rfl rfl ?_; simp only [put_lit, eval_lit, BigFrame.eval_const, List.set_cons_succ, List.set_cons_zero, List.getD_cons_succ, List.getD_cons_zero]) | (refine wpE_run rfl rfl (by simp) (fun w1 hx1 _ K hK => by go_step; exact hK _ (Ext.refl _)) ?_; simp only [put_lit, List.set_cons_succ, List.set_cons_zero]))
              (first | (refine wpE_move rfl rfl rfl ?_; simp only [put_lit, eval_lit, BigFrame.eval_const, List.set_cons_succ, List.set_cons_zero, List.getD_cons_succ, List.getD_cons_zero]) | (refine wpE_run rfl rfl (by simp) (fun w1 hx1 _ K hK => by go_step; exact hK _ (Ext.refl _)) ?_; simp only [put_lit, List.set_cons_succ, List.set_cons_zero]))
              (first | (refine wpE_move rfl rfl rfl ?_; simp only [put_lit, eval_lit, BigFrame.eval_const, List.set_cons_succ, List.set_cons_zero, List.getD_cons_succ, List.getD_cons_zero]) | (refine wpE_run rfl rfl (by simp) (fun w1 hx1 _ K hK => by go_step; exact hK _ (Ext.refl _)) ?_; simp only [put_lit, List.set_cons_succ, List.set_cons_zero]))
              (first | (refine wpE_move rfl rfl rfl ?_; simp only [put_lit, eval_lit, BigFrame.eval_const, List.set_cons_succ, List.set_cons_zero, List.getD_cons_succ, List.getD_cons_zero]) | (refine wpE_run rfl rfl (by simp) (fun w1 hx1 _ K hK => by go_step; exact hK _ (Ext.refl _)) ?_; simp only [put_lit, List.set_cons_succ, List.set_cons_zero]))
              (first | (refine wpE_move rfl rfl rfl ?_; simp only [put_lit, eval_lit, BigFrame.eval_const, List.set_cons_succ, List.set_cons_zero, List.getD_cons_succ, List.getD_cons_zero]) | (refine wpE_run rfl rfl (by simp) (fun w1 hx1 _ K hK => by go_step; exact hK _ (Ext.refl _)) ?_; simp only [put_lit, List.set_cons_succ, List.set_cons_zero]))
              (refine wpE_run rfl rfl (by simp) (fun w1 hx1 _ K hK => by go_wp2_with (go_at_call 23; refine (rounds_any b3 (8 + 7) _ (by omega) (by omega) _ (H3.out.ext hx1)).mono ?_; rintro e w2 ⟨rfl, rfl⟩; exact hK _ (Ext.refl _))) ?_)
              simp only [put_lit, List.set_cons_succ, List.set_cons_zero]
              (first | (refine wpE_move rfl rfl rfl ?_; simp only [put_lit, eval_lit, BigFrame.eval_const, List.set_cons_succ, List.set_cons_zero, List.getD_cons_succ, List.getD_cons_zero]) | (refine wpE_run rfl rfl (by simp) (fun w1 hx1 _ K hK => by go_step; exact hK _ (Ext.refl _)) ?_; simp only [put_lit, List.set_cons_succ, List.set_cons_zero]))
              (first | (refine wpE_move rfl rfl rfl ?_; simp only [put_lit, eval_lit, BigFrame.eval_const, List.set_cons_succ, List.set_cons_zero, List.getD_cons_succ, List.getD_cons_zero]) | (refine wpE_run rfl rfl (by simp) (fun w1 hx1 _ K hK => by go_step; exact hK _ (Ext.refl _)) ?_; simp only [put_lit, List.set_cons_succ, List.set_cons_zero]))
              (first | (refine wpE_move rfl rfl rfl ?_; simp only [put_lit, eval_lit, BigFrame.eval_const, List.set_cons_succ, List.set_cons_zero, List.getD_cons_succ, List.getD_cons_zero]) | (refine wpE_run rfl rfl (by simp) (fun w1 hx1 _ K hK => by go_step; exact hK _ (Ext.refl _)) ?_; simp only [put_lit, List.set_cons_succ, List.set_cons_zero]))
              (first | (refine wpE_move rfl rfl rfl ?_; simp only [put_lit, eval_lit, BigFrame.eval_const, List.set_cons_succ, List.set_cons_zero, List.getD_cons_succ, List.getD_cons_zero]) | (refine wpE_run rfl rfl (by simp) (fun w1 hx1 _ K hK => by go_step; exact hK _ (Ext.refl _)) ?_; simp only [put_lit, List.set_cons_succ, List.set_cons_zero]))
              (first | (refine wpE_move rfl rfl rfl ?_; simp only [put_lit, eval_lit, BigFrame.eval_const, List.set_cons_succ, List.set_cons_zero, List.getD_cons_succ, List.getD_cons_zero]) | (refine wpE_run rfl rfl (by simp) (fun w1 hx1 _ K hK => by go_step; exact hK _ (Ext.refl _)) ?_; simp only [put_lit, List.set_cons_succ, List.set_cons_zero]))
              (refine wpE_nil ?_; intro w2 hw2 hF; simp only [List.drop_succ_cons, List.drop_zero])
              have hxx := HX.out.trans hw2
              have hbb := HB.out.ext hw2
              go_wp2_with fail
              go_roundw
              case rel => exact ⟨2, by omega, by go_num, hbb, hxx⟩
              case measure => simp [intOf]
    · go_wp2_with fail
      refine (works_any _).mono ?_
      rintro e w1 ⟨rfl, hx1⟩
      have hxx := hx.trans hx1
      go_wp2_with fail
      go_ret
      exact ⟨rfl, hxx⟩

end Go.Proofs.Ytnigpobbckampaa
