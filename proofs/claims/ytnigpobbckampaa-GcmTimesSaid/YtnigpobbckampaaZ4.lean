/- GcmTimes, walked. -/
import Derived.Test.YtnigpobbckampaaZ3
import Derived.Test.YtnigpobbckampaaY14
import Derived.Test.YtnigpobbckampaaQ
namespace Go.Proofs.Ytnigpobbckampaa
open Go.RowKit
set_option linter.unusedSimpArgs false
set_option linter.unusedVariables false

set_option maxRecDepth 100000 in
set_option maxHeartbeats 1000000 in
theorem gcmtimes_any (x y : Nat → Nat) (w : World) (hx : ∀ j, j < 16 → x j < 256) (hy : ∀ j, j < 16 → y j < 256) :
    Calls Try.prog 6 #[.agg (row 16 x), .agg (row 16 y)] w fun e w' => e = .returned (.bool true) ∧ Ext w w' := by
  have HXL := Lib.hid hx
  have HYL := Lib.hid hy
  clear hx hy
  go_enter Try.func6, Try.ntmps6
  go_upto_region 1 with (refine wl_boxA rfl 23 _ rfl _ rfl ?_)
  have hA : Blk ((w.alloc (.cells (row 16 x) 23)).alloc (.cells (row 16 y) 23)) w.heap.size 23 (row 16 x) := (Blk.new w _ _).alloc _
  have hB : Blk ((w.alloc (.cells (row 16 x) 23)).alloc (.cells (row 16 y) 23)) (w.heap.size + 1) 23 (row 16 y) := by
    have := (Blk.new (w.alloc (.cells (row 16 x) 23)) 23 (row 16 y))
    simpa only [World.size_alloc] using this
  have hx : Ext w ((w.alloc (.cells (row 16 x) 23)).alloc (.cells (row 16 y) 23)) := (Ext.alloc _ _).trans (Ext.alloc _ _)
  try simp only [put_lit, List.set_cons_succ, List.set_cons_zero, World.size_alloc]
  generalize (w.alloc (.cells (row 16 x) 23)).alloc (.cells (row 16 y) 23) = w1 at hA hB hx ⊢
  have HA := Lib.hid hA
  have HB := Lib.hid hB
  have HX := Lib.hid hx
  clear hA hB hx
  apply wp_region_mid 19 [.det _, .det _, .det _, .det _, .det _, .det _, .det _, .det _, .det _, .det _, .det _, .det _, .det _, .det _, .det _, .det _, .det _, .det _, .det _] (by kernel_rfl) rfl (by kernel_rfl)
  · skip
    refine wpE_run rfl rfl (by simp) (fun w' hx' _ K hK => wp_loadA 23 _ rfl _ 0 16 rfl agg23 sz23 _ _ (HA.out.ext hx') (by simp [row_size]) (row 16 x) (row_whole _ _) (hK _ (Ext.refl _))) ?_
    simp only [put_lit, List.set_cons_succ, List.set_cons_zero]
    refine wpE_run rfl rfl (by simp) (fun w' hx' _ K hK => wp_loadA 23 _ rfl _ 0 16 rfl agg23 sz23 _ _ (HB.out.ext hx') (by simp [row_size]) (row 16 y) (row_whole _ _) (hK _ (Ext.refl _))) ?_
    simp only [put_lit, List.set_cons_succ, List.set_cons_zero]
    refine wpE_run rfl rfl (by simp) (fun w1 hx1 _ K9 hK9 => by go_wp2_with (go_at_call 32; refine (times32_any x y HXL.out HYL.out _).mono ?_; rintro e w2 ⟨rfl, hx2⟩; exact hK9 _ hx2)) ?_
    simp only [put_lit, List.set_cons_succ, List.set_cons_zero]
    refine wpE_run rfl rfl (by simp) (fun w' hx' _ K hK => wp_loadA 23 _ rfl _ 0 16 rfl agg23 sz23 _ _ (HA.out.ext hx') (by simp [row_size]) (row 16 x) (row_whole _ _) (hK _ (Ext.refl _))) ?_
    simp only [put_lit, List.set_cons_succ, List.set_cons_zero]
    refine wpE_run rfl rfl (by simp) (fun w' hx' _ K hK => wp_loadA 23 _ rfl _ 0 16 rfl agg23 sz23 _ _ (HB.out.ext hx') (by simp [row_size]) (row 16 y) (row_whole _ _) (hK _ (Ext.refl _))) ?_
    simp only [put_lit, List.set_cons_succ, List.set_cons_zero]
    refine wpE_run rfl rfl (by simp) (fun w1 hx1 _ K9 hK9 => by go_wp2_with (go_at_call 33; refine (reftimes33_any x y HXL.out HYL.out _).mono ?_; rintro e w2 ⟨rfl, hx2⟩; exact hK9 _ hx2)) ?_
    simp only [put_lit, List.set_cons_succ, List.set_cons_zero]
    refine wpE_eql23 rfl (.tmp 7) (.tmp 10) rfl (tmsB x y) (tmsB x y) rfl rfl ?_
    simp only [put_lit, List.set_cons_succ, List.set_cons_zero]
    rw [eqN_refl]
    (first | (refine wpE_move rfl rfl rfl ?_; simp only [put_lit, eval_lit, BigFrame.eval_const, List.set_cons_succ, List.set_cons_zero, List.getD_cons_succ, List.getD_cons_zero]) | (refine wpE_run rfl rfl (by simp) (fun w1 hx1 _ K hK => by go_step; exact hK _ (Ext.refl _)) ?_; simp only [put_lit, List.set_cons_succ, List.set_cons_zero]))
    refine wpE_run rfl rfl (by simp) (fun w' hx' _ K hK => wp_loadA 23 _ rfl _ 0 16 rfl agg23 sz23 _ _ (HB.out.ext hx') (by simp [row_size]) (row 16 y) (row_whole _ _) (hK _ (Ext.refl _))) ?_
    simp only [put_lit, List.set_cons_succ, List.set_cons_zero]
    refine wpE_run rfl rfl (by simp) (fun w' hx' _ K hK => wp_loadA 23 _ rfl _ 0 16 rfl agg23 sz23 _ _ (HA.out.ext hx') (by simp [row_size]) (row 16 x) (row_whole _ _) (hK _ (Ext.refl _))) ?_
    simp only [put_lit, List.set_cons_succ, List.set_cons_zero]
    refine wpE_run rfl rfl (by simp) (fun w1 hx1 _ K9 hK9 => by go_wp2_with (go_at_call 32; refine (times32_any y x HYL.out HXL.out _).mono ?_; rintro e w2 ⟨rfl, hx2⟩; exact hK9 _ hx2)) ?_
    simp only [put_lit, List.set_cons_succ, List.set_cons_zero]
    refine wpE_run rfl rfl (by simp) (fun w' hx' _ K hK => wp_loadA 23 _ rfl _ 0 16 rfl agg23 sz23 _ _ (HB.out.ext hx') (by simp [row_size]) (row 16 y) (row_whole _ _) (hK _ (Ext.refl _))) ?_
    simp only [put_lit, List.set_cons_succ, List.set_cons_zero]
    refine wpE_run rfl rfl (by simp) (fun w' hx' _ K hK => wp_loadA 23 _ rfl _ 0 16 rfl agg23 sz23 _ _ (HA.out.ext hx') (by simp [row_size]) (row 16 x) (row_whole _ _) (hK _ (Ext.refl _))) ?_
    simp only [put_lit, List.set_cons_succ, List.set_cons_zero]
    refine wpE_run rfl rfl (by simp) (fun w1 hx1 _ K9 hK9 => by go_wp2_with (go_at_call 33; refine (reftimes33_any y x HYL.out HXL.out _).mono ?_; rintro e w2 ⟨rfl, hx2⟩; exact hK9 _ hx2)) ?_
    simp only [put_lit, List.set_cons_succ, List.set_cons_zero]
    refine wpE_eql23 rfl (.tmp 15) (.tmp 18) rfl (tmsB y x) (tmsB y x) rfl rfl ?_
    simp only [put_lit, List.set_cons_succ, List.set_cons_zero]
    rw [eqN_refl]
    (first | (refine wpE_move rfl rfl rfl ?_; simp only [put_lit, eval_lit, BigFrame.eval_const, List.set_cons_succ, List.set_cons_zero, List.getD_cons_succ, List.getD_cons_zero]) | (refine wpE_run rfl rfl (by simp) (fun w1 hx1 _ K hK => by go_step; exact hK _ (Ext.refl _)) ?_; simp only [put_lit, List.set_cons_succ, List.set_cons_zero]))
    (first | (refine wpE_move rfl rfl rfl ?_; simp only [put_lit, eval_lit, BigFrame.eval_const, List.set_cons_succ, List.set_cons_zero, List.getD_cons_succ, List.getD_cons_zero]) | (refine wpE_run rfl rfl (by simp) (fun w1 hx1 _ K hK => by go_step; exact hK _ (Ext.refl _)) ?_; simp only [put_lit, List.set_cons_succ, List.set_cons_zero]))
    refine wpE_run rfl rfl (by simp) (fun w1 hx1 _ K9 hK9 => by go_wp2_with (go_at_call 34; refine (works34_any _).mono ?_; rintro e w2 ⟨rfl, hx2⟩; exact hK9 _ hx2)) ?_
    simp only [put_lit, List.set_cons_succ, List.set_cons_zero]
    (first | (refine wpE_move rfl rfl rfl ?_; simp only [put_lit, eval_lit, BigFrame.eval_const, List.set_cons_succ, List.set_cons_zero, List.getD_cons_succ, List.getD_cons_zero]) | (refine wpE_run rfl rfl (by simp) (fun w1 hx1 _ K hK => by go_step; exact hK _ (Ext.refl _)) ?_; simp only [put_lit, List.set_cons_succ, List.set_cons_zero]))
    refine wpE_nil ?_
    intro w5 hw5 hF
    simp only [List.drop_succ_cons, List.drop_zero]
    have HX5 := Lib.hid (HX.out.trans hw5)
    clear hF hw5
    go_wp2_with fail
    go_ret
    exact ⟨rfl, HX5.out⟩
end Go.Proofs.Ytnigpobbckampaa
