/- The contract of (*aes.Cipher).Block. -/
import Derived.Test.YtnigpobbckampaaA0
import Derived.Test.YtnigpobbckampaaK
import Derived.Deep.DeepCutAuto
namespace Go.Proofs.Ytnigpobbckampaa
set_option linter.unusedSimpArgs false
set_option linter.unusedVariables false
open Go.RowKit

theorem part_keys {cs : Array Value} {n : Nat} {ks : Nat → Nat → Nat} (h : ∀ i, i < n → ∀ j, j < 16 → cs[i * 16 + j]? = some (.int .u8 ((ks i j : Nat) : Int)) ∧ ks i j < 256)
    (i : Nat) (hi : i < n) : cs.extract (i * 16) (i * 16 + 16) = row 16 (ks i) := by
  have h15 := (h i hi 15 (by omega)).1
  have hsz : i * 16 + 15 < cs.size := (Array.getElem?_eq_some_iff.1 h15).1
  refine row_ext (by simp; omega) (fun j hj => ?_)
  rw [Array.getElem?_extract, if_pos (by omega)]
  exact (h i hi j hj).1

set_option maxRecDepth 100000 in
set_option maxHeartbeats 1000000 in
theorem block_any (b n : Nat) (ks : Nat → Nat → Nat) (hn : 2 ≤ n) (hn2 : n ≤ 1000) (x : Nat → Nat) (hx : ∀ i, i < 16 → x i < 256) (w : World) (hC : Cph w b n ks) :
    Calls Try.prog 21 #[.pointer (some ⟨b, 0, none⟩), .agg (row 16 x)] w fun e w' => e = .returned (.agg (row 16 (blockP n ks x))) ∧ Ext w w' := by
  have hz : (((n - 1 : Nat) : Int) == 0) = false := by simp; omega
  have HC := Lib.hid hC
  clear hC
  go_enter Try.func21, Try.ntmps21
  go_wp2_with (first | (refine wl_allocA rfl 23 rfl _ zero23 ?_) | (refine wl_boxA rfl 23 _ rfl _ rfl ?_) | (go_at_call 23; refine (rounds_any b n ks (by omega) hn2 _ ((HC.out.ext (Ext.alloc _ _)).ext (Ext.alloc _ _))).mono ?_; rintro e w' ⟨rfl, rfl⟩))
  obtain ⟨W, hW⟩ : ∃ W, (w.alloc (.cells (row 16 x) 23)).alloc (.cells (row 16 fun _ => 0) 23) = W := ⟨_, rfl⟩
  have hBx : Blk W w.heap.size 23 (row 16 x) := hW ▸ (Blk.new w 23 (row 16 x)).alloc _
  have hBr : Blk W (w.heap.size + 1) 23 (row 16 fun _ => 0) := by
    have := Blk.new (w.alloc (.cells (row 16 x) 23)) 23 (row 16 fun _ => 0)
    rw [hW] at this
    simpa using this
  have hWx : Ext w W := hW ▸ (Ext.alloc _ _).trans (Ext.alloc _ _)
  have hWs : W.heap.size = w.heap.size + 2 := by rw [← hW]; simp
  rw [hW]
  clear hW
  obtain ⟨kb, cap, cs, hb1, hb2, hlen, hks⟩ := HC.out.ext hWx
  have hk0 : ∀ j, j < 16 → ks 0 j < 256 := fun j hj => (hks 0 (by omega) j hj).2
  have hc0 : W.cell? ⟨b, 0, none⟩ = some (.slice (some ⟨kb, 0, none⟩) n cap) := (hb1.cell 0).trans (ccells_0 _ _ _)
  apply wp_region_mid 9 [.det _, .det _, .det _, .det _, .det _, .det _, .det _, .det _, .any (Fresh W 23 (row 16 fun _ => 0))] (by kernel_rfl) rfl (by kernel_rfl)
  · refine wpE_run rfl rfl (by simp) (fun w' hx' _ K hK => wp_loadA 23 _ rfl _ 0 16 rfl agg23 sz23 _ _ (hBx.ext hx') (by simp [row_size]) (row 16 x) (row_whole _ _) (hK _ (Ext.refl _))) ?_
    simp only [put_lit, List.set_cons_succ, List.set_cons_zero]
    (first | (refine wpE_move rfl rfl rfl ?_; simp only [put_lit, eval_lit, BigFrame.eval_const, List.set_cons_succ, List.set_cons_zero, List.getD_cons_succ, List.getD_cons_zero]) | (refine wpE_run rfl rfl (by simp) (fun w1 hx1 _ K hK => by go_step; exact hK _ (Ext.refl _)) ?_; simp only [put_lit, List.set_cons_succ, List.set_cons_zero]))
    (first | (refine wpE_move rfl rfl rfl ?_; simp only [put_lit, eval_lit, BigFrame.eval_const, List.set_cons_succ, List.set_cons_zero, List.getD_cons_succ, List.getD_cons_zero]) | (refine wpE_run rfl rfl (by simp) (fun w1 hx1 _ K hK => by go_step; exact hK _ (Ext.refl _)) ?_; simp only [put_lit, List.set_cons_succ, List.set_cons_zero]))
    (first | (refine wpE_move rfl rfl rfl ?_; simp only [put_lit, eval_lit, BigFrame.eval_const, List.set_cons_succ, List.set_cons_zero, List.getD_cons_succ, List.getD_cons_zero]) | (refine wpE_run rfl rfl (by simp) (fun w1 hx1 _ K hK => by go_step; exact hK _ (Ext.refl _)) ?_; simp only [put_lit, List.set_cons_succ, List.set_cons_zero]))
    (refine wpE_run rfl rfl (by simp) (fun w1 hx1 _ K hK => by have hc := hx1.cell hc0; go_step; exact hK _ (Ext.refl _)) ?_); simp only [put_lit, List.set_cons_succ, List.set_cons_zero]
    (refine wpE_run rfl rfl (by simp) (fun w1 hx1 _ K hK => by have hn0 : 0 < n := (by omega); go_step; exact hK _ (Ext.refl _)) ?_); simp only [put_lit, List.set_cons_succ, List.set_cons_zero]
    refine wpE_run rfl rfl (by simp) (fun w' hx' _ K hK => wp_loadA 23 _ rfl _ 0 16 rfl agg23 sz23 _ _ (hb2.ext hx') (by simp; omega) (row 16 (ks 0)) (part_keys hks 0 (by omega)) (hK _ (Ext.refl _))) ?_
    simp only [put_lit, List.set_cons_succ, List.set_cons_zero]
    (refine wpE_run rfl rfl (by simp) (fun w1 hx1 _ K hK => by go_wp2_with (go_at_call 53; refine (add_any _ _ hx hk0 _).mono ?_; rintro e w2 ⟨rfl, hx2⟩; exact hK _ hx2)) ?_); simp only [put_lit, List.set_cons_succ, List.set_cons_zero]
    refine wpE_alloc rfl zero23 rfl (by simp) rfl (fun u => ?_)
    simp only [put_lit, List.set_cons_succ, List.set_cons_zero]
    refine wpE_nil ?_
    intro w2 hw2 hF
    obtain ⟨g, rfl, hg, hbg⟩ := hF _ (List.mem_cons_self)
    simp only [List.drop_succ_cons, List.drop_zero]
    have hg1 : g ≠ w.heap.size + 1 := by omega
    refine wl_storeA rfl 23 _ _ rfl g 0 16 rfl (row 16 fun j => x j ^^^ ks 0 j) rfl sz23 (row_size _ _) _ _ hbg (by simp [row_size]) (row_one _ _) (row 16 (stP (n - 1) ks x 0)) (lay_all _ _ (by simp [row_size])) ?_
    have hA : Blk (w2.setRow g (row 16 (stP (n - 1) ks x 0))) g 23 (row 16 (stP (n - 1) ks x 0)) := hbg.setRow _
    have hR : Blk (w2.setRow g (row 16 (stP (n - 1) ks x 0))) (w.heap.size + 1) 23 (row 16 fun _ => 0) := (hBr.ext hw2).setRow_other _ (Ne.symm hg1)
    have hL : Below w.heap.size w (w2.setRow g (row 16 (stP (n - 1) ks x 0))) := below_setRow (hWx.trans hw2) (by omega) _
    generalize w2.setRow g (row 16 (stP (n - 1) ks x 0)) = W2 at hA hR hL ⊢
    have hkl : ∀ i, i < n → ∀ j, j < 16 → ks i j < 256 := fun i hi j hj => (hks i hi j hj).2
    clear hF hbg hw2 hks hlen hb1 hb2 hc0 hBx hBr hWx
    go_wp2_with fail
    go_loopw [29] (fun v29 wr => ∃ k : Nat, k ≤ n - 1 ∧ v29 = .int .i64 k ∧ Blk wr g 23 (row 16 (stP (n - 1) ks x k)) ∧ Blk wr (w.heap.size + 1) 23 (row 16 fun _ => 0) ∧ Below w.heap.size w wr)
      (fun v29 _ => n - (intOf v29).toNat)
    case atStart => exact ⟨0, by omega, rfl, hA, hR, hL⟩
    case round =>
      clear hA hR hL
      obtain ⟨k, hk, rfl, hA, hR, hL⟩ := hrel
      have HA := Lib.hid hA
      have HR := Lib.hid hR
      clear hA hR
      obtain ⟨wo, rfl⟩ : ∃ wo : World, wo = wr := ⟨_, rfl⟩
      by_cases hlt : k < n - 1
      · have hlt' : (k : Int) < ((n - 1 : Nat) : Int) := by omega
        go_wp2_with (refine wl_allocA rfl 23 rfl _ zero23 ?_)
        have hAlt : ∀ j, j < 16 → stP (n - 1) ks x k j < 256 := fun j hj => stP_lt _ _ _ hx _ (fun i hi => hkl i (by omega)) j hj
        have hw0 := hL.size
        have hglt := HA.out.lt
        have hA1 : Blk (wo.alloc (.cells (row 16 fun _ => 0) 23)) g 23 (row 16 (stP (n - 1) ks x k)) := HA.out.alloc _
        have hR1 : Blk (wo.alloc (.cells (row 16 fun _ => 0) 23)) (w.heap.size + 1) 23 (row 16 fun _ => 0) := HR.out.alloc _
        have hB1 : Blk (wo.alloc (.cells (row 16 fun _ => 0) 23)) wo.heap.size 23 (row 16 fun _ => 0) := Blk.new _ _ _
        have hRlt := HR.out.lt
        go_loopw [32] (fun v32 wr => ∃ i : Nat, i ≤ 16 ∧ v32 = .int .i64 i ∧ Blk wr wo.heap.size 23 (row 16 (mixF i (subP (stP (n - 1) ks x k)) fun _ => 0)) ∧ Blk wr g 23 (row 16 (stP (n - 1) ks x k)) ∧ Blk wr (w.heap.size + 1) 23 (row 16 fun _ => 0) ∧ Below w.heap.size w wr)
          (fun v32 _ => 16 - (intOf v32).toNat)
        case atStart => exact ⟨0, by omega, rfl, by rw [mixF_zero]; exact hB1, hA1, hR1, hL.alloc hw0 _⟩
        case round =>
          clear hA1 hR1 hB1 HA HR hL
          obtain ⟨i, hi, rfl, hB, hA, hR, hL⟩ := hrel
          have HA := Lib.hid hA
          have HB := Lib.hid hB
          have HR := Lib.hid hR
          by_cases hi16 : i < 16
          · have c1 := hA.byte ((i + 4 * (i % 4)) % 16) (by omega)
            have c2 : wr.cell? ⟨b, 1 + stP (n - 1) ks x k ((i + 4 * (i % 4)) % 16), none⟩ = some (.int .u8 ((subP (stP (n - 1) ks x k) i : Nat) : Int)) := by
              obtain ⟨kb', cap', cs', hb1', _⟩ := HC.out.ext hL
              rw [hb1'.cell, Nat.add_comm, ccells_succ _ _ _ _ (hAlt _ (by omega))]
              rfl
            have c3 := hB.byte i hi16
            have f3 := hB.frozen i
            have hAb := hAlt ((i + 4 * (i % 4)) % 16) (by omega)
            clear hA hB hR
            go_wp2_with fail
            apply wp_region_mid 14 [.det _, .det _, .det _, .det _, .det _, .det _, .det _, .det _, .det _, .det _, .det _, .det _, .det _, .det _] (by kernel_rfl) rfl (by kernel_rfl)
            (first | (refine wpE_move rfl rfl rfl ?_; simp only [put_lit, eval_lit, BigFrame.eval_const, List.set_cons_succ, List.set_cons_zero, List.getD_cons_succ, List.getD_cons_zero]) | (refine wpE_run rfl rfl (by simp) (fun w1 hx1 _ K hK => by go_step; exact hK _ (Ext.refl _)) ?_; simp only [put_lit, List.set_cons_succ, List.set_cons_zero]))
            (first | (refine wpE_move rfl rfl rfl ?_; simp only [put_lit, eval_lit, BigFrame.eval_const, List.set_cons_succ, List.set_cons_zero, List.getD_cons_succ, List.getD_cons_zero]) | (refine wpE_run rfl rfl (by simp) (fun w1 hx1 _ K hK => by go_step; exact hK _ (Ext.refl _)) ?_; simp only [put_lit, List.set_cons_succ, List.set_cons_zero]))
            (first | (refine wpE_move rfl rfl rfl ?_; simp only [put_lit, eval_lit, BigFrame.eval_const, List.set_cons_succ, List.set_cons_zero, List.getD_cons_succ, List.getD_cons_zero]) | (refine wpE_run rfl rfl (by simp) (fun w1 hx1 _ K hK => by go_step; exact hK _ (Ext.refl _)) ?_; simp only [put_lit, List.set_cons_succ, List.set_cons_zero]))
            (first | (refine wpE_move rfl rfl rfl ?_; simp only [put_lit, eval_lit, BigFrame.eval_const, List.set_cons_succ, List.set_cons_zero, List.getD_cons_succ, List.getD_cons_zero]) | (refine wpE_run rfl rfl (by simp) (fun w1 hx1 _ K hK => by go_step; exact hK _ (Ext.refl _)) ?_; simp only [put_lit, List.set_cons_succ, List.set_cons_zero]))
            (first | (refine wpE_move rfl rfl rfl ?_; simp only [put_lit, eval_lit, BigFrame.eval_const, List.set_cons_succ, List.set_cons_zero, List.getD_cons_succ, List.getD_cons_zero]) | (refine wpE_run rfl rfl (by simp) (fun w1 hx1 _ K hK => by go_step; exact hK _ (Ext.refl _)) ?_; simp only [put_lit, List.set_cons_succ, List.set_cons_zero]))
            (first | (refine wpE_move rfl rfl rfl ?_; simp only [put_lit, eval_lit, BigFrame.eval_const, List.set_cons_succ, List.set_cons_zero, List.getD_cons_succ, List.getD_cons_zero]) | (refine wpE_run rfl rfl (by simp) (fun w1 hx1 _ K hK => by go_step; exact hK _ (Ext.refl _)) ?_; simp only [put_lit, List.set_cons_succ, List.set_cons_zero]))
            (first | (refine wpE_move rfl rfl rfl ?_; simp only [put_lit, eval_lit, BigFrame.eval_const, List.set_cons_succ, List.set_cons_zero, List.getD_cons_succ, List.getD_cons_zero]) | (refine wpE_run rfl rfl (by simp) (fun w1 hx1 _ K hK => by go_step; exact hK _ (Ext.refl _)) ?_; simp only [put_lit, List.set_cons_succ, List.set_cons_zero]))
            (first | (refine wpE_move rfl rfl rfl ?_; simp only [put_lit, eval_lit, BigFrame.eval_const, List.set_cons_succ, List.set_cons_zero, List.getD_cons_succ, List.getD_cons_zero]) | (refine wpE_run rfl rfl (by simp) (fun w1 hx1 _ K hK => by go_step; exact hK _ (Ext.refl _)) ?_; simp only [put_lit, List.set_cons_succ, List.set_cons_zero]))
            (first | (refine wpE_move rfl rfl rfl ?_; simp only [put_lit, eval_lit, BigFrame.eval_const, List.set_cons_succ, List.set_cons_zero, List.getD_cons_succ, List.getD_cons_zero]) | (refine wpE_run rfl rfl (by simp) (fun w1 hx1 _ K hK => by go_step; exact hK _ (Ext.refl _)) ?_; simp only [put_lit, List.set_cons_succ, List.set_cons_zero]))
            (refine wpE_run rfl rfl (by simp) (fun w1 hx1 _ K hK => by have c := hx1.cell c1; go_step; exact hK _ (Ext.refl _)) ?_); simp only [put_lit, List.set_cons_succ, List.set_cons_zero]
            (first | (refine wpE_move rfl rfl rfl ?_; simp only [put_lit, eval_lit, BigFrame.eval_const, List.set_cons_succ, List.set_cons_zero, List.getD_cons_succ, List.getD_cons_zero]) | (refine wpE_run rfl rfl (by simp) (fun w1 hx1 _ K hK => by go_step; exact hK _ (Ext.refl _)) ?_; simp only [put_lit, List.set_cons_succ, List.set_cons_zero]))
            (first | (refine wpE_move rfl rfl rfl ?_; simp only [put_lit, eval_lit, BigFrame.eval_const, List.set_cons_succ, List.set_cons_zero, List.getD_cons_succ, List.getD_cons_zero]) | (refine wpE_run rfl rfl (by simp) (fun w1 hx1 _ K hK => by go_step; exact hK _ (Ext.refl _)) ?_; simp only [put_lit, List.set_cons_succ, List.set_cons_zero]))
            (first | (refine wpE_move rfl rfl rfl ?_; simp only [put_lit, eval_lit, BigFrame.eval_const, List.set_cons_succ, List.set_cons_zero, List.getD_cons_succ, List.getD_cons_zero]) | (refine wpE_run rfl rfl (by simp) (fun w1 hx1 _ K hK => by go_step; exact hK _ (Ext.refl _)) ?_; simp only [put_lit, List.set_cons_succ, List.set_cons_zero]))
            (refine wpE_run rfl rfl (by simp) (fun w1 hx1 _ K hK => by have c := hx1.cell c2; go_step; exact hK _ (Ext.refl _)) ?_); simp only [put_lit, List.set_cons_succ, List.set_cons_zero]
            (refine wpE_nil ?_; intro w2 hw2 hF; simp only [List.drop_succ_cons, List.drop_zero])
            have c3' := hw2.cell c3
            have f3' := (HB.out.ext hw2).frozen i
            clear hF c1 c2 c3 f3 hAb
            go_wp2_with fail
            go_roundw
            case rel =>
              refine ⟨i + 1, by omega, by go_num, ?_, (HA.out.ext hw2).other _ (by simp; omega), (HR.out.ext hw2).other _ (by simp; omega), (hL.trans (Below.mono hw2 hL.size)).setCell (by simp; omega) _⟩
              rw [← mixF_upd]
              exact (HB.out.ext hw2).setB i _
            case measure => simp [intOf]; omega
          · obtain rfl : i = 16 := by omega
            clear hA hB hR hi hi16
            go_upto_if 54 with fail
            go_cut [] (fun wx => Blk wx wo.heap.size 23 (row 16 (roundP (n - 1) k (stP (n - 1) ks x k))) ∧ Blk wx g 23 (row 16 (stP (n - 1) ks x k)) ∧ Blk wx (w.heap.size + 1) 23 (row 16 fun _ => 0) ∧ Below w.heap.size w wx)
            case first =>
              by_cases hmx : k + 1 < n - 1
              · have hmx' : (k : Int) < ((n - 1 : Nat) : Int) - 1 := by omega
                have hSlt : ∀ j, subP (stP (n - 1) ks x k) j < 256 := subP_lt _
                have HR0 := Lib.hid (show roundP (n - 1) k (stP (n - 1) ks x k) = mixP (subP (stP (n - 1) ks x k)) by unfold roundP; rw [if_pos hmx])
                have hB := HB.out
                rw [row_mix] at hB
                clear HB
                generalize subP (stP (n - 1) ks x k) = S at hSlt HR0 hB
                have hMlt : ∀ j, j < 16 → mixP S j < 256 := mixP_lt S (fun i _ => hSlt i)
                go_wp2_with fail
                obtain ⟨wp, rfl⟩ : ∃ wp : World, wp = wr := ⟨_, rfl⟩
                go_loopw [10] (fun v10 wr => ∃ c : Nat, c ≤ 4 ∧ v10 = .int .i64 ((4 * c : Nat) : Int) ∧ Blk wr wo.heap.size 23 (row 16 (mixF (4 * c) (mixP S) S)) ∧ Blk wr g 23 (row 16 (stP (n - 1) ks x k)) ∧ Blk wr (w.heap.size + 1) 23 (row 16 fun _ => 0) ∧ Below w.heap.size w wr)
                  (fun v10 _ => 16 - (intOf v10).toNat)
                case atStart => exact ⟨0, by omega, rfl, by rw [mixF_zero]; exact hB, HA.out, HR.out, hL⟩
                case round =>
                  clear hB HA HR hL
                  obtain ⟨c, hc, rfl, hB, hA, hR, hL⟩ := hrel
                  by_cases hc4 : c < 4
                  · have q0 := hB.byte (4 * c) (by omega)
                    have q1 := hB.byte (4 * c + 1) (by omega)
                    have q2 := hB.byte (4 * c + 2) (by omega)
                    have q3 := hB.byte (4 * c + 3) (by omega)
                    rw [mixF_ge _ _ _ _ (by omega)] at q0
                    rw [mixF_ge _ _ _ _ (by omega)] at q1
                    rw [mixF_ge _ _ _ _ (by omega)] at q2
                    rw [mixF_ge _ _ _ _ (by omega)] at q3
                    have HB := Lib.hid hB
                    have HA := Lib.hid hA
                    have HR := Lib.hid hR
                    clear hB hA hR
                    go_wp2_with fail
                    apply wp_region_mid 18 [.det _, .det _, .det _, .det _, .det _, .det _, .det _, .det _, .det _, .det _, .det _, .det _, .det _, .det _, .det _, .det _, .det _, .det _] (by kernel_rfl) rfl (by kernel_rfl)
                    · (first | (refine wpE_move rfl rfl rfl ?_; simp only [put_lit, eval_lit, BigFrame.eval_const, List.set_cons_succ, List.set_cons_zero, List.getD_cons_succ, List.getD_cons_zero]) | (refine wpE_run rfl rfl (by simp) (fun w1 hx1 _ K hK => by go_step; exact hK _ (Ext.refl _)) ?_; simp only [put_lit, List.set_cons_succ, List.set_cons_zero]))
                      (first | (refine wpE_move rfl rfl rfl ?_; simp only [put_lit, eval_lit, BigFrame.eval_const, List.set_cons_succ, List.set_cons_zero, List.getD_cons_succ, List.getD_cons_zero]) | (refine wpE_run rfl rfl (by simp) (fun w1 hx1 _ K hK => by go_step; exact hK _ (Ext.refl _)) ?_; simp only [put_lit, List.set_cons_succ, List.set_cons_zero]))
                      (refine wpE_run rfl rfl (by simp) (fun w1 hx1 _ K hK => by have hc := hx1.cell q0; go_step; exact hK _ (Ext.refl _)) ?_); simp only [put_lit, List.set_cons_succ, List.set_cons_zero]
                      (first | (refine wpE_move rfl rfl rfl ?_; simp only [put_lit, eval_lit, BigFrame.eval_const, List.set_cons_succ, List.set_cons_zero, List.getD_cons_succ, List.getD_cons_zero]) | (refine wpE_run rfl rfl (by simp) (fun w1 hx1 _ K hK => by go_step; exact hK _ (Ext.refl _)) ?_; simp only [put_lit, List.set_cons_succ, List.set_cons_zero]))
                      (first | (refine wpE_move rfl rfl rfl ?_; simp only [put_lit, eval_lit, BigFrame.eval_const, List.set_cons_succ, List.set_cons_zero, List.getD_cons_succ, List.getD_cons_zero]) | (refine wpE_run rfl rfl (by simp) (fun w1 hx1 _ K hK => by go_step; exact hK _ (Ext.refl _)) ?_; simp only [put_lit, List.set_cons_succ, List.set_cons_zero]))
                      (first | (refine wpE_move rfl rfl rfl ?_; simp only [put_lit, eval_lit, BigFrame.eval_const, List.set_cons_succ, List.set_cons_zero, List.getD_cons_succ, List.getD_cons_zero]) | (refine wpE_run rfl rfl (by simp) (fun w1 hx1 _ K hK => by go_step; exact hK _ (Ext.refl _)) ?_; simp only [put_lit, List.set_cons_succ, List.set_cons_zero]))
                      (refine wpE_run rfl rfl (by simp) (fun w1 hx1 _ K hK => by have hc := hx1.cell q1; go_step; exact hK _ (Ext.refl _)) ?_); simp only [put_lit, List.set_cons_succ, List.set_cons_zero]
                      (first | (refine wpE_move rfl rfl rfl ?_; simp only [put_lit, eval_lit, BigFrame.eval_const, List.set_cons_succ, List.set_cons_zero, List.getD_cons_succ, List.getD_cons_zero]) | (refine wpE_run rfl rfl (by simp) (fun w1 hx1 _ K hK => by go_step; exact hK _ (Ext.refl _)) ?_; simp only [put_lit, List.set_cons_succ, List.set_cons_zero]))
                      rw [u8_xor_nat _ _ (hSlt _) (hSlt _)]
                      (first | (refine wpE_move rfl rfl rfl ?_; simp only [put_lit, eval_lit, BigFrame.eval_const, List.set_cons_succ, List.set_cons_zero, List.getD_cons_succ, List.getD_cons_zero]) | (refine wpE_run rfl rfl (by simp) (fun w1 hx1 _ K hK => by go_step; exact hK _ (Ext.refl _)) ?_; simp only [put_lit, List.set_cons_succ, List.set_cons_zero]))
                      (first | (refine wpE_move rfl rfl rfl ?_; simp only [put_lit, eval_lit, BigFrame.eval_const, List.set_cons_succ, List.set_cons_zero, List.getD_cons_succ, List.getD_cons_zero]) | (refine wpE_run rfl rfl (by simp) (fun w1 hx1 _ K hK => by go_step; exact hK _ (Ext.refl _)) ?_; simp only [put_lit, List.set_cons_succ, List.set_cons_zero]))
                      (first | (refine wpE_move rfl rfl rfl ?_; simp only [put_lit, eval_lit, BigFrame.eval_const, List.set_cons_succ, List.set_cons_zero, List.getD_cons_succ, List.getD_cons_zero]) | (refine wpE_run rfl rfl (by simp) (fun w1 hx1 _ K hK => by go_step; exact hK _ (Ext.refl _)) ?_; simp only [put_lit, List.set_cons_succ, List.set_cons_zero]))
                      (refine wpE_run rfl rfl (by simp) (fun w1 hx1 _ K hK => by have hc := hx1.cell q2; go_step; exact hK _ (Ext.refl _)) ?_); simp only [put_lit, List.set_cons_succ, List.set_cons_zero]
                      (first | (refine wpE_move rfl rfl rfl ?_; simp only [put_lit, eval_lit, BigFrame.eval_const, List.set_cons_succ, List.set_cons_zero, List.getD_cons_succ, List.getD_cons_zero]) | (refine wpE_run rfl rfl (by simp) (fun w1 hx1 _ K hK => by go_step; exact hK _ (Ext.refl _)) ?_; simp only [put_lit, List.set_cons_succ, List.set_cons_zero]))
                      rw [u8_xor_nat _ _ (xor_lt (hSlt _) (hSlt _)) (hSlt _)]
                      (first | (refine wpE_move rfl rfl rfl ?_; simp only [put_lit, eval_lit, BigFrame.eval_const, List.set_cons_succ, List.set_cons_zero, List.getD_cons_succ, List.getD_cons_zero]) | (refine wpE_run rfl rfl (by simp) (fun w1 hx1 _ K hK => by go_step; exact hK _ (Ext.refl _)) ?_; simp only [put_lit, List.set_cons_succ, List.set_cons_zero]))
                      (first | (refine wpE_move rfl rfl rfl ?_; simp only [put_lit, eval_lit, BigFrame.eval_const, List.set_cons_succ, List.set_cons_zero, List.getD_cons_succ, List.getD_cons_zero]) | (refine wpE_run rfl rfl (by simp) (fun w1 hx1 _ K hK => by go_step; exact hK _ (Ext.refl _)) ?_; simp only [put_lit, List.set_cons_succ, List.set_cons_zero]))
                      (first | (refine wpE_move rfl rfl rfl ?_; simp only [put_lit, eval_lit, BigFrame.eval_const, List.set_cons_succ, List.set_cons_zero, List.getD_cons_succ, List.getD_cons_zero]) | (refine wpE_run rfl rfl (by simp) (fun w1 hx1 _ K hK => by go_step; exact hK _ (Ext.refl _)) ?_; simp only [put_lit, List.set_cons_succ, List.set_cons_zero]))
                      (refine wpE_run rfl rfl (by simp) (fun w1 hx1 _ K hK => by have hc := hx1.cell q3; go_step; exact hK _ (Ext.refl _)) ?_); simp only [put_lit, List.set_cons_succ, List.set_cons_zero]
                      (first | (refine wpE_move rfl rfl rfl ?_; simp only [put_lit, eval_lit, BigFrame.eval_const, List.set_cons_succ, List.set_cons_zero, List.getD_cons_succ, List.getD_cons_zero]) | (refine wpE_run rfl rfl (by simp) (fun w1 hx1 _ K hK => by go_step; exact hK _ (Ext.refl _)) ?_; simp only [put_lit, List.set_cons_succ, List.set_cons_zero]))
                      rw [u8_xor_nat _ _ (xor_lt (xor_lt (hSlt _) (hSlt _)) (hSlt _)) (hSlt _)]
                      (refine wpE_nil ?_; intro w2 hw2 hF; simp only [List.drop_succ_cons, List.drop_zero])
                      have HB2 := Lib.hid (HB.out.ext hw2)
                      have HA2 := Lib.hid (HA.out.ext hw2)
                      have HR2 := Lib.hid (HR.out.ext hw2)
                      have hL2 := hL.trans (Below.mono hw2 hL.size)
                      have q0' := hw2.cell q0
                      clear hF q0 q1 q2 q3 HB HA HR hL hw2
                      go_wp2_with fail
                      have hB2 := HB2.out
                      obtain ⟨wq, rfl⟩ : ∃ wq : World, wq = wr := ⟨_, rfl⟩
                      clear HB2 q0'
                      go_loopw [80] (fun v80 wr => ∃ j : Nat, j ≤ 4 ∧ v80 = .int .i64 j ∧ Blk wr wo.heap.size 23 (row 16 (mixF (4 * c + j) (mixP S) S)) ∧ Blk wr g 23 (row 16 (stP (n - 1) ks x k)) ∧ Blk wr (w.heap.size + 1) 23 (row 16 fun _ => 0) ∧ Below w.heap.size w wr)
                        (fun v80 _ => 4 - (intOf v80).toNat)
                      case atStart => exact ⟨0, by omega, rfl, hB2, HA2.out, HR2.out, hL2⟩
                      case round =>
                        clear hB2 HA2 HR2 hL2
                        obtain ⟨j, hj, rfl, hB, hA, hR, hL⟩ := hrel
                        by_cases hj4 : j < 4
                        · have p0 := hB.byte (4 * c + j) (by omega)
                          rw [mixF_ge _ _ _ _ (Nat.le_refl _)] at p0
                          have HB := Lib.hid hB
                          have HA := Lib.hid hA
                          have HR := Lib.hid hR
                          have HM : Hid (mixP S (4 * c + j) = S (4 * c + j) ^^^ ((S (4 * c) ^^^ S (4 * c + 1) ^^^ S (4 * c + 2) ^^^ S (4 * c + 3)) ^^^ dbl (S (4 * c + j) ^^^ S (4 * c + (j + 1) % 4)))) := by
                            show mixP S (4 * c + j) = _
                            unfold mixP
                            rw [show (4 * c + j) / 4 * 4 = 4 * c by omega, show ((4 * c + j) % 4 + 1) % 4 = (j + 1) % 4 by omega]
                          have HN : Hid ((¬ j < 3 ∧ (j + 1) % 4 = 0) ∨ (j < 3 ∧ (j + 1) % 4 = j + 1)) := by
                            show (¬ j < 3 ∧ (j + 1) % 4 = 0) ∨ (j < 3 ∧ (j + 1) % 4 = j + 1)
                            omega
                          have hj4' : (j : Int) < 4 := by omega
                          rcases HN.out with ⟨hj3, hjm⟩ | ⟨hj3, hjm⟩
                          · have HJ := Lib.hid hjm
                            have hj3' : 3 ≤ (j : Int) := by omega
                            clear hB hA hR hjm HN
                            go_wp2_with fail
                            apply wp_region_mid 16 [.det _, .det _, .det _, .det _, .det _, .det _, .det _, .det _, .det _, .det _, .det _, .det _, .det _, .det _, .det _, .det _] (by kernel_rfl) rfl (by kernel_rfl)
                            · (first | (refine wpE_move rfl rfl rfl ?_; simp only [put_lit, eval_lit, BigFrame.eval_const, List.set_cons_succ, List.set_cons_zero, List.getD_cons_succ, List.getD_cons_zero]) | (refine wpE_run rfl rfl (by simp) (fun w1 hx1 _ K hK => by go_step; exact hK _ (Ext.refl _)) ?_; simp only [put_lit, List.set_cons_succ, List.set_cons_zero]))
                              (first | (refine wpE_move rfl rfl rfl ?_; simp only [put_lit, eval_lit, BigFrame.eval_const, List.set_cons_succ, List.set_cons_zero, List.getD_cons_succ, List.getD_cons_zero]) | (refine wpE_run rfl rfl (by simp) (fun w1 hx1 _ K hK => by go_step; exact hK _ (Ext.refl _)) ?_; simp only [put_lit, List.set_cons_succ, List.set_cons_zero]))
                              (first | (refine wpE_move rfl rfl rfl ?_; simp only [put_lit, eval_lit, BigFrame.eval_const, List.set_cons_succ, List.set_cons_zero, List.getD_cons_succ, List.getD_cons_zero]) | (refine wpE_run rfl rfl (by simp) (fun w1 hx1 _ K hK => by go_step; exact hK _ (Ext.refl _)) ?_; simp only [put_lit, List.set_cons_succ, List.set_cons_zero]))
                              (first | (refine wpE_move rfl rfl rfl ?_; simp only [put_lit, eval_lit, BigFrame.eval_const, List.set_cons_succ, List.set_cons_zero, List.getD_cons_succ, List.getD_cons_zero]) | (refine wpE_run rfl rfl (by simp) (fun w1 hx1 _ K hK => by go_step; exact hK _ (Ext.refl _)) ?_; simp only [put_lit, List.set_cons_succ, List.set_cons_zero]))
                              (refine wpE_run rfl rfl (by simp) (fun w1 hx1 _ K hK => by have hc := hx1.cell p0; go_step; exact hK _ (Ext.refl _)) ?_); simp only [put_lit, List.set_cons_succ, List.set_cons_zero]
                              (first | (refine wpE_move rfl rfl rfl ?_; simp only [put_lit, eval_lit, BigFrame.eval_const, List.set_cons_succ, List.set_cons_zero, List.getD_cons_succ, List.getD_cons_zero]) | (refine wpE_run rfl rfl (by simp) (fun w1 hx1 _ K hK => by go_step; exact hK _ (Ext.refl _)) ?_; simp only [put_lit, List.set_cons_succ, List.set_cons_zero]))
                              (first | (refine wpE_move rfl rfl rfl ?_; simp only [put_lit, eval_lit, BigFrame.eval_const, List.set_cons_succ, List.set_cons_zero, List.getD_cons_succ, List.getD_cons_zero]) | (refine wpE_run rfl rfl (by simp) (fun w1 hx1 _ K hK => by go_step; exact hK _ (Ext.refl _)) ?_; simp only [put_lit, List.set_cons_succ, List.set_cons_zero]))
                              (first | (refine wpE_move rfl rfl rfl ?_; simp only [put_lit, eval_lit, BigFrame.eval_const, List.set_cons_succ, List.set_cons_zero, List.getD_cons_succ, List.getD_cons_zero]) | (refine wpE_run rfl rfl (by simp) (fun w1 hx1 _ K hK => by go_step; exact hK _ (Ext.refl _)) ?_; simp only [put_lit, List.set_cons_succ, List.set_cons_zero]))
                              (first | (refine wpE_move rfl rfl rfl ?_; simp only [put_lit, eval_lit, BigFrame.eval_const, List.set_cons_succ, List.set_cons_zero, List.getD_cons_succ, List.getD_cons_zero]) | (refine wpE_run rfl rfl (by simp) (fun w1 hx1 _ K hK => by go_step; exact hK _ (Ext.refl _)) ?_; simp only [put_lit, List.set_cons_succ, List.set_cons_zero]))
                              (first | (refine wpE_move rfl rfl rfl ?_; simp only [put_lit, eval_lit, BigFrame.eval_const, List.set_cons_succ, List.set_cons_zero, List.getD_cons_succ, List.getD_cons_zero]) | (refine wpE_run rfl rfl (by simp) (fun w1 hx1 _ K hK => by go_step; exact hK _ (Ext.refl _)) ?_; simp only [put_lit, List.set_cons_succ, List.set_cons_zero]))
                              (refine wpE_run rfl rfl (by simp) (fun w1 hx1 _ K hK => by have hc := hx1.cell p0; go_step; exact hK _ (Ext.refl _)) ?_); simp only [put_lit, List.set_cons_succ, List.set_cons_zero]
                              (first | (refine wpE_move rfl rfl rfl ?_; simp only [put_lit, eval_lit, BigFrame.eval_const, List.set_cons_succ, List.set_cons_zero, List.getD_cons_succ, List.getD_cons_zero]) | (refine wpE_run rfl rfl (by simp) (fun w1 hx1 _ K hK => by go_step; exact hK _ (Ext.refl _)) ?_; simp only [put_lit, List.set_cons_succ, List.set_cons_zero]))
                              (first | (refine wpE_move rfl rfl rfl ?_; simp only [put_lit, eval_lit, BigFrame.eval_const, List.set_cons_succ, List.set_cons_zero, List.getD_cons_succ, List.getD_cons_zero]) | (refine wpE_run rfl rfl (by simp) (fun w1 hx1 _ K hK => by go_step; exact hK _ (Ext.refl _)) ?_; simp only [put_lit, List.set_cons_succ, List.set_cons_zero]))
                              rw [u8_xor_nat _ _ (hSlt _) (hSlt _)]
                              (refine wpE_run rfl rfl (by simp) (fun w1 hx1 _ K hK => by go_wp2_with (go_at_call 49; refine (double_ext _ (xor_lt (hSlt _) (hSlt _)) _).mono ?_; rintro e w2 ⟨rfl, hx2⟩; exact hK _ hx2)) ?_); simp only [put_lit, List.set_cons_succ, List.set_cons_zero]
                              (first | (refine wpE_move rfl rfl rfl ?_; simp only [put_lit, eval_lit, BigFrame.eval_const, List.set_cons_succ, List.set_cons_zero, List.getD_cons_succ, List.getD_cons_zero]) | (refine wpE_run rfl rfl (by simp) (fun w1 hx1 _ K hK => by go_step; exact hK _ (Ext.refl _)) ?_; simp only [put_lit, List.set_cons_succ, List.set_cons_zero]))
                              rw [u8_xor_nat _ _ (xor_lt (xor_lt (xor_lt (hSlt _) (hSlt _)) (hSlt _)) (hSlt _)) (dbl_lt _)]
                              (first | (refine wpE_move rfl rfl rfl ?_; simp only [put_lit, eval_lit, BigFrame.eval_const, List.set_cons_succ, List.set_cons_zero, List.getD_cons_succ, List.getD_cons_zero]) | (refine wpE_run rfl rfl (by simp) (fun w1 hx1 _ K hK => by go_step; exact hK _ (Ext.refl _)) ?_; simp only [put_lit, List.set_cons_succ, List.set_cons_zero]))
                              rw [u8_xor_nat _ _ (hSlt _) (xor_lt (xor_lt (xor_lt (xor_lt (hSlt _) (hSlt _)) (hSlt _)) (hSlt _)) (dbl_lt _))]
                              (refine wpE_nil ?_; intro w2 hw2 hF; simp only [List.drop_succ_cons, List.drop_zero])
                              have p0' := hw2.cell p0
                              have f0' := (HB.out.ext hw2).frozen (4 * c + j)
                              clear hF p0
                              go_wp2_with fail
                              go_roundw
                              case rel =>
                                refine ⟨j + 1, by omega, by go_num, ?_, (HA.out.ext hw2).other _ (by simp; omega), (HR.out.ext hw2).other _ (by simp; omega), (hL.trans (Below.mono hw2 hL.size)).setCell (by simp; omega) _⟩
                                have hm := HM.out
                                simp only [HJ.out, Nat.add_zero] at hm
                                rw [← hm, ← Nat.add_assoc, ← mixF_upd]
                                exact (HB.out.ext hw2).setB _ _
                              case measure => simp [intOf]; omega
                          · have p1 := hB.byte (4 * c + j + 1) (by omega)
                            rw [mixF_ge _ _ _ _ (by omega)] at p1
                            have HJ := Lib.hid hjm
                            have hj3' : (j : Int) < 3 := by omega
                            clear hB hA hR hjm HN
                            go_wp2_with fail
                            apply wp_region_mid 16 [.det _, .det _, .det _, .det _, .det _, .det _, .det _, .det _, .det _, .det _, .det _, .det _, .det _, .det _, .det _, .det _] (by kernel_rfl) rfl (by kernel_rfl)
                            · (first | (refine wpE_move rfl rfl rfl ?_; simp only [put_lit, eval_lit, BigFrame.eval_const, List.set_cons_succ, List.set_cons_zero, List.getD_cons_succ, List.getD_cons_zero]) | (refine wpE_run rfl rfl (by simp) (fun w1 hx1 _ K hK => by go_step; exact hK _ (Ext.refl _)) ?_; simp only [put_lit, List.set_cons_succ, List.set_cons_zero]))
                              (first | (refine wpE_move rfl rfl rfl ?_; simp only [put_lit, eval_lit, BigFrame.eval_const, List.set_cons_succ, List.set_cons_zero, List.getD_cons_succ, List.getD_cons_zero]) | (refine wpE_run rfl rfl (by simp) (fun w1 hx1 _ K hK => by go_step; exact hK _ (Ext.refl _)) ?_; simp only [put_lit, List.set_cons_succ, List.set_cons_zero]))
                              (first | (refine wpE_move rfl rfl rfl ?_; simp only [put_lit, eval_lit, BigFrame.eval_const, List.set_cons_succ, List.set_cons_zero, List.getD_cons_succ, List.getD_cons_zero]) | (refine wpE_run rfl rfl (by simp) (fun w1 hx1 _ K hK => by go_step; exact hK _ (Ext.refl _)) ?_; simp only [put_lit, List.set_cons_succ, List.set_cons_zero]))
                              (first | (refine wpE_move rfl rfl rfl ?_; simp only [put_lit, eval_lit, BigFrame.eval_const, List.set_cons_succ, List.set_cons_zero, List.getD_cons_succ, List.getD_cons_zero]) | (refine wpE_run rfl rfl (by simp) (fun w1 hx1 _ K hK => by go_step; exact hK _ (Ext.refl _)) ?_; simp only [put_lit, List.set_cons_succ, List.set_cons_zero]))
                              (refine wpE_run rfl rfl (by simp) (fun w1 hx1 _ K hK => by have hc := hx1.cell p0; go_step; exact hK _ (Ext.refl _)) ?_); simp only [put_lit, List.set_cons_succ, List.set_cons_zero]
                              (first | (refine wpE_move rfl rfl rfl ?_; simp only [put_lit, eval_lit, BigFrame.eval_const, List.set_cons_succ, List.set_cons_zero, List.getD_cons_succ, List.getD_cons_zero]) | (refine wpE_run rfl rfl (by simp) (fun w1 hx1 _ K hK => by go_step; exact hK _ (Ext.refl _)) ?_; simp only [put_lit, List.set_cons_succ, List.set_cons_zero]))
                              (first | (refine wpE_move rfl rfl rfl ?_; simp only [put_lit, eval_lit, BigFrame.eval_const, List.set_cons_succ, List.set_cons_zero, List.getD_cons_succ, List.getD_cons_zero]) | (refine wpE_run rfl rfl (by simp) (fun w1 hx1 _ K hK => by go_step; exact hK _ (Ext.refl _)) ?_; simp only [put_lit, List.set_cons_succ, List.set_cons_zero]))
                              (first | (refine wpE_move rfl rfl rfl ?_; simp only [put_lit, eval_lit, BigFrame.eval_const, List.set_cons_succ, List.set_cons_zero, List.getD_cons_succ, List.getD_cons_zero]) | (refine wpE_run rfl rfl (by simp) (fun w1 hx1 _ K hK => by go_step; exact hK _ (Ext.refl _)) ?_; simp only [put_lit, List.set_cons_succ, List.set_cons_zero]))
                              (first | (refine wpE_move rfl rfl rfl ?_; simp only [put_lit, eval_lit, BigFrame.eval_const, List.set_cons_succ, List.set_cons_zero, List.getD_cons_succ, List.getD_cons_zero]) | (refine wpE_run rfl rfl (by simp) (fun w1 hx1 _ K hK => by go_step; exact hK _ (Ext.refl _)) ?_; simp only [put_lit, List.set_cons_succ, List.set_cons_zero]))
                              (first | (refine wpE_move rfl rfl rfl ?_; simp only [put_lit, eval_lit, BigFrame.eval_const, List.set_cons_succ, List.set_cons_zero, List.getD_cons_succ, List.getD_cons_zero]) | (refine wpE_run rfl rfl (by simp) (fun w1 hx1 _ K hK => by go_step; exact hK _ (Ext.refl _)) ?_; simp only [put_lit, List.set_cons_succ, List.set_cons_zero]))
                              (refine wpE_run rfl rfl (by simp) (fun w1 hx1 _ K hK => by have hc := hx1.cell p0; go_step; exact hK _ (Ext.refl _)) ?_); simp only [put_lit, List.set_cons_succ, List.set_cons_zero]
                              (first | (refine wpE_move rfl rfl rfl ?_; simp only [put_lit, eval_lit, BigFrame.eval_const, List.set_cons_succ, List.set_cons_zero, List.getD_cons_succ, List.getD_cons_zero]) | (refine wpE_run rfl rfl (by simp) (fun w1 hx1 _ K hK => by go_step; exact hK _ (Ext.refl _)) ?_; simp only [put_lit, List.set_cons_succ, List.set_cons_zero]))
                              (first | (refine wpE_move rfl rfl rfl ?_; simp only [put_lit, eval_lit, BigFrame.eval_const, List.set_cons_succ, List.set_cons_zero, List.getD_cons_succ, List.getD_cons_zero]) | (refine wpE_run rfl rfl (by simp) (fun w1 hx1 _ K hK => by go_step; exact hK _ (Ext.refl _)) ?_; simp only [put_lit, List.set_cons_succ, List.set_cons_zero]))
                              rw [u8_xor_nat _ _ (hSlt _) (hSlt _)]
                              (refine wpE_run rfl rfl (by simp) (fun w1 hx1 _ K hK => by go_wp2_with (go_at_call 49; refine (double_ext _ (xor_lt (hSlt _) (hSlt _)) _).mono ?_; rintro e w2 ⟨rfl, hx2⟩; exact hK _ hx2)) ?_); simp only [put_lit, List.set_cons_succ, List.set_cons_zero]
                              (first | (refine wpE_move rfl rfl rfl ?_; simp only [put_lit, eval_lit, BigFrame.eval_const, List.set_cons_succ, List.set_cons_zero, List.getD_cons_succ, List.getD_cons_zero]) | (refine wpE_run rfl rfl (by simp) (fun w1 hx1 _ K hK => by go_step; exact hK _ (Ext.refl _)) ?_; simp only [put_lit, List.set_cons_succ, List.set_cons_zero]))
                              rw [u8_xor_nat _ _ (xor_lt (xor_lt (xor_lt (hSlt _) (hSlt _)) (hSlt _)) (hSlt _)) (dbl_lt _)]
                              (first | (refine wpE_move rfl rfl rfl ?_; simp only [put_lit, eval_lit, BigFrame.eval_const, List.set_cons_succ, List.set_cons_zero, List.getD_cons_succ, List.getD_cons_zero]) | (refine wpE_run rfl rfl (by simp) (fun w1 hx1 _ K hK => by go_step; exact hK _ (Ext.refl _)) ?_; simp only [put_lit, List.set_cons_succ, List.set_cons_zero]))
                              rw [u8_xor_nat _ _ (hSlt _) (xor_lt (xor_lt (xor_lt (xor_lt (hSlt _) (hSlt _)) (hSlt _)) (hSlt _)) (dbl_lt _))]
                              (refine wpE_nil ?_; intro w2 hw2 hF; simp only [List.drop_succ_cons, List.drop_zero])
                              have p0' := hw2.cell p0
                              have f0' := (HB.out.ext hw2).frozen (4 * c + j)
                              clear hF p0 p1
                              go_wp2_with fail
                              go_roundw
                              case rel =>
                                refine ⟨j + 1, by omega, by go_num, ?_, (HA.out.ext hw2).other _ (by simp; omega), (HR.out.ext hw2).other _ (by simp; omega), (hL.trans (Below.mono hw2 hL.size)).setCell (by simp; omega) _⟩
                                have hm := HM.out
                                rw [HJ.out, ← Nat.add_assoc] at hm
                                rw [← hm, ← Nat.add_assoc, ← mixF_upd]
                                exact (HB.out.ext hw2).setB _ _
                              case measure => simp [intOf]; omega
                        · obtain rfl : j = 4 := by omega
                          have hj4' : ¬ ((4 : Nat) : Int) < 4 := by omega
                          have HB := Lib.hid hB
                          have HA := Lib.hid hA
                          have HR := Lib.hid hR
                          clear hB hA hR hj hj4
                          go_wp2_with fail
                          go_roundw
                          case rel => exact ⟨c + 1, by omega, by go_num, HB.out, HA.out, HR.out, hL⟩
                          case measure => simp [intOf]; omega
                  · obtain rfl : c = 4 := by omega
                    have HB := Lib.hid hB
                    have HA := Lib.hid hA
                    have HR := Lib.hid hR
                    clear hB hA hR hc hc4
                    go_wp2_with fail
                    go_meet
                    case rel =>
                      rw [HR0.out]
                      exact ⟨by rw [← row_mix 16 (mixP S) S]; exact HB.out, HA.out, HR.out, hL⟩
              · have hmx' : ¬ (k : Int) < ((n - 1 : Nat) : Int) - 1 := by omega
                go_wp2_with fail
                go_meet
                case rel =>
                  have hr : roundP (n - 1) k (stP (n - 1) ks x k) = subP (stP (n - 1) ks x k) := by unfold roundP; rw [if_neg hmx]
                  rw [hr]
                  exact ⟨by rw [← row_mix]; exact HB.out, HA.out, HR.out, hL⟩
            case rest =>
              obtain ⟨hB, hA, hR, hL⟩ := hcut
              have hk1 : ∀ j, j < 16 → ks (k + 1) j < 256 := fun j hj => hkl (k + 1) (by omega) j hj
              have hrl : ∀ j, j < 16 → roundP (n - 1) k (stP (n - 1) ks x k) j < 256 := fun j hj => roundP_lt _ _ _ j hj
              obtain ⟨kb', cap', cs', hb1', hb2', hlen', hks'⟩ := HC.out.ext hL
              have hc0 : wc.cell? ⟨b, 0, none⟩ = some (.slice (some ⟨kb', 0, none⟩) n cap') := (hb1'.cell 0).trans (ccells_0 _ _ _)
              clear HA HR HB
              go_wp2_with fail
              apply wp_region_mid 10 [.det _, .det _, .det _, .det _, .det _, .det _, .det _, .det _, .det _, .det _] (by kernel_rfl) rfl (by kernel_rfl)
              · refine wpE_run rfl rfl (by simp) (fun w' hx' _ K hK => wp_loadA 23 _ rfl _ 0 16 rfl agg23 sz23 _ _ (hB.ext hx') (by simp [row_size]) (row 16 (roundP (n - 1) k (stP (n - 1) ks x k))) (row_whole _ _) (hK _ (Ext.refl _))) ?_
                simp only [put_lit, List.set_cons_succ, List.set_cons_zero]
                (first | (refine wpE_move rfl rfl rfl ?_; simp only [put_lit, eval_lit, BigFrame.eval_const, List.set_cons_succ, List.set_cons_zero, List.getD_cons_succ, List.getD_cons_zero]) | (refine wpE_run rfl rfl (by simp) (fun w1 hx1 _ K hK => by go_step; exact hK _ (Ext.refl _)) ?_; simp only [put_lit, List.set_cons_succ, List.set_cons_zero]))
                (first | (refine wpE_move rfl rfl rfl ?_; simp only [put_lit, eval_lit, BigFrame.eval_const, List.set_cons_succ, List.set_cons_zero, List.getD_cons_succ, List.getD_cons_zero]) | (refine wpE_run rfl rfl (by simp) (fun w1 hx1 _ K hK => by go_step; exact hK _ (Ext.refl _)) ?_; simp only [put_lit, List.set_cons_succ, List.set_cons_zero]))
                (first | (refine wpE_move rfl rfl rfl ?_; simp only [put_lit, eval_lit, BigFrame.eval_const, List.set_cons_succ, List.set_cons_zero, List.getD_cons_succ, List.getD_cons_zero]) | (refine wpE_run rfl rfl (by simp) (fun w1 hx1 _ K hK => by go_step; exact hK _ (Ext.refl _)) ?_; simp only [put_lit, List.set_cons_succ, List.set_cons_zero]))
                (refine wpE_run rfl rfl (by simp) (fun w1 hx1 _ K hK => by have hc := hx1.cell hc0; go_step; exact hK _ (Ext.refl _)) ?_); simp only [put_lit, List.set_cons_succ, List.set_cons_zero]
                (first | (refine wpE_move rfl rfl rfl ?_; simp only [put_lit, eval_lit, BigFrame.eval_const, List.set_cons_succ, List.set_cons_zero, List.getD_cons_succ, List.getD_cons_zero]) | (refine wpE_run rfl rfl (by simp) (fun w1 hx1 _ K hK => by go_step; exact hK _ (Ext.refl _)) ?_; simp only [put_lit, List.set_cons_succ, List.set_cons_zero]))
                (first | (refine wpE_move rfl rfl rfl ?_; simp only [put_lit, eval_lit, BigFrame.eval_const, List.set_cons_succ, List.set_cons_zero, List.getD_cons_succ, List.getD_cons_zero]) | (refine wpE_run rfl rfl (by simp) (fun w1 hx1 _ K hK => by go_step; exact hK _ (Ext.refl _)) ?_; simp only [put_lit, List.set_cons_succ, List.set_cons_zero]))
                (refine wpE_run rfl rfl (by simp) (fun w1 hx1 _ K hK => by have hkn : k + 1 < n := (by omega); go_step; exact hK _ (Ext.refl _)) ?_); simp only [put_lit, List.set_cons_succ, List.set_cons_zero]
                refine wpE_run rfl rfl (by simp) (fun w' hx' _ K hK => wp_loadA 23 _ rfl _ ((k + 1) * 16) 16 rfl agg23 sz23 _ _ (hb2'.ext hx') ?_ (row 16 (ks (k + 1))) (part_keys hks' (k + 1) (by omega)) (hK _ (Ext.refl _))) ?_
                · have : (k + 1 + 1) * 16 ≤ n * 16 := Nat.mul_le_mul_right _ (by omega)
                  omega
                simp only [put_lit, List.set_cons_succ, List.set_cons_zero]
                (refine wpE_run rfl rfl (by simp) (fun w1 hx1 _ K hK => by go_wp2_with (go_at_call 53; refine (add_any _ _ hrl hk1 _).mono ?_; rintro e w2 ⟨rfl, hx2⟩; exact hK _ hx2)) ?_); simp only [put_lit, List.set_cons_succ, List.set_cons_zero]
                (refine wpE_nil ?_; intro w2 hw2 hF; simp only [List.drop_succ_cons, List.drop_zero])
                refine wl_storeA rfl 23 _ _ rfl g 0 16 rfl (row 16 fun j => roundP (n - 1) k (stP (n - 1) ks x k) j ^^^ ks (k + 1) j) rfl sz23 (row_size _ _) _ _ (hA.ext hw2) (by simp [row_size]) (row_one _ _) (row 16 (stP (n - 1) ks x (k + 1))) (lay_all _ _ (by simp [row_size])) ?_
                have hA' : Blk (w2.setRow g (row 16 (stP (n - 1) ks x (k + 1)))) g 23 (row 16 (stP (n - 1) ks x (k + 1))) := (hA.ext hw2).setRow _
                have hR' : Blk (w2.setRow g (row 16 (stP (n - 1) ks x (k + 1)))) (w.heap.size + 1) 23 (row 16 fun _ => 0) := (hR.ext hw2).setRow_other _ (Ne.symm hg1)
                have hL' : Below w.heap.size w (w2.setRow g (row 16 (stP (n - 1) ks x (k + 1)))) := below_setRow (hL.trans (Below.mono hw2 hL.size)) (by omega) _
                generalize w2.setRow g (row 16 (stP (n - 1) ks x (k + 1))) = W3 at hA' hR' hL' ⊢
                clear hF hA hR hks' hlen' hb1' hb2' hc0 hB
                go_wp2_with fail
                go_roundw
                case rel => exact ⟨k + 1, by omega, by go_num, hA', hR', hL'⟩
                case measure => simp [intOf]; omega
      · obtain rfl : k = n - 1 := by omega
        have hlt' : ¬ ((n - 1 : Nat) : Int) < ((n - 1 : Nat) : Int) := by omega
        go_wp2_with (first | (refine wl_loadA rfl 23 _ rfl _ 0 16 rfl agg23 sz23 _ _ HA.out (by simp [row_size]) (row 16 (blockP n ks x)) (row_whole _ _) ?_) | (refine wl_storeA rfl 23 _ _ rfl _ 0 16 rfl (row 16 (blockP n ks x)) rfl sz23 (row_size _ _) _ _ HR.out (by simp [row_size]) (row_one _ _) (row 16 (blockP n ks x)) (lay_all _ _ (by simp [row_size])) ?_))
        refine bodyPost_ret (results_blk rfl _ _ (w.heap.size + 1) 16 23 (row 16 (blockP n ks x)) rfl (HR.out.setRow _) agg23 sz23 (row_size _ _).symm) rfl ?_
        exact ⟨rfl, below_setRow (g := w.heap.size + 1) hL (by omega) _⟩

end Go.Proofs.Ytnigpobbckampaa
