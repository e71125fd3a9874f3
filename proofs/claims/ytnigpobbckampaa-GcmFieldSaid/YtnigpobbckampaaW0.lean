/- works of layer 4: the known blocks. -/
import Derived.Test.YtnigpobbckampaaE4
import Derived.Test.YtnigpobbckampaaE8
import Derived.Test.YtnigpobbckampaaA3
import Derived.Test.YtnigpobbckampaaN
import Derived.Test.YtnigpobbckampaaL
import Derived.Deep.DeepCutAuto
namespace Go.Proofs.Ytnigpobbckampaa
set_option linter.unusedSimpArgs false
set_option linter.unusedVariables false
open Go.RowKit

theorem wl_buildR {P : Program} {ops : Array Oper} {rest : List Oper} {o : Oper} {a : Act} {w : World} {Q : Exit → Act → World → Prop} (hgd : o.guard = none) (ty : TypeId) (parts : Array (Nat × Operand)) (ho : o.op = .build ty parts) (cs : Array Value)
    (hb : P.built ty (parts.map fun (i, x) => (i, a.eval x)).toList = some cs)
    (h : wpList P ops Q rest (a.put o.dst (.agg cs)) w) : wpList P ops Q (o :: rest) a w :=
  wpList_plain hgd fun _ hK => by
    have h1 := hK _ _ h
    have hr := run_build w ty _ cs hb
    unfold Oper.wp execOp
    simp only [ho, Sem.run_bind, hr, Result.andThen_ok]
    exact h1

theorem put_no (a : Act) (v : Value) : a.put none v = a := rfl

theorem known_mul : mulP 87 131 = 193 := by kernel_rfl
theorem known_inv : invP 83 = 202 := by rw [invP_look 83 (by omega)]; kernel_rfl
theorem known_box : boxP 83 = 237 := by rw [boxP_look 83 (by omega)]; kernel_rfl
theorem known_box0 : boxP 0 = 99 := by rw [boxP_look 0 (by omega)]; kernel_rfl

theorem mul_ext (a b : Nat) (ha : a < 256) (hb : b < 256) (w : World) : Calls Try.prog 26 #[.int .u8 a, .int .u8 b] w fun e w' => e = .returned (.int .u8 ((mulP a b : Nat) : Int)) ∧ Ext w w' :=
  (mul_any a b ha hb w).mono fun _ _ ⟨h1, h2⟩ => ⟨h1, h2 ▸ Ext.refl _⟩

set_option maxRecDepth 100000 in
set_option maxHeartbeats 1000000 in
theorem works_any (w : World) : Calls Try.prog 25 #[] w fun e w' => e = .returned (.bool true) ∧ Ext w w' := by
  go_enter Try.func25, Try.ntmps25
  go_wp2_with fail
  refine (counting_any 16 1 _ (by omega) (by omega)).mono ?_
  rintro e w1 ⟨v9, rfl, h9, hx1⟩
  go_wp2_with fail
  refine (new4_any v9 _ _ h9.rd).mono ?_
  rintro e w2 ⟨b1, rfl, hc1, hb1, hx2⟩
  go_wp2_with fail
  refine (counting_any 32 1 _ (by omega) (by omega)).mono ?_
  rintro e w3 ⟨v14, rfl, h14, hx3⟩
  go_wp2_with fail
  refine (new8_any v14 _ _ h14.rd).mono ?_
  rintro e w4 ⟨b2, rfl, hc2, hb2, hx4⟩
  go_wp2_with fail
  refine (counting_any 16 17 _ (by omega) (by omega)).mono ?_
  rintro e w5 ⟨v32, rfl, h32, hx5⟩
  go_wp2_with fail
  refine (fixed_any v32 16 _ _ (by omega) h32.rd).mono ?_
  rintro e w6 ⟨rfl, hx6⟩
  obtain ⟨X, hX⟩ : ∃ X : Nat → Nat, X = fixF 16 fun i => i * 17 % 256 := ⟨_, rfl⟩
  have hC1 := Lib.hid ((((hc1.ext hx3).ext hx4).ext hx5).ext hx6)
  have hC2 := Lib.hid ((hc2.ext hx5).ext hx6)
  have hXX := Lib.hid (((((hx1.trans hx2).trans hx3).trans hx4).trans hx5).trans hx6)
  have hXl : ∀ i, i < 16 → X i < 256 := fun i hi => by rw [hX]; simp only [fixF]; rw [if_pos hi]; omega
  have hX17 : ∀ i, i < 16 → X i = i * 17 := fun i hi => by rw [hX]; simp only [fixF]; rw [if_pos hi]; omega
  obtain ⟨K4, hK4⟩ : ∃ K : Nat → Nat, K = look (s4.getD 10 []) := ⟨_, rfl⟩
  obtain ⟨K8, hK8⟩ : ∃ K : Nat → Nat, K = look (s8.getD 14 []) := ⟨_, rfl⟩
  have hk4 := Lib.hid (row_congr (n := 16) (fun j hj => known4 X (fun i => i * 1 % 256) (fun m hm => by omega) hX17 j hj))
  have hk8 := Lib.hid (row_congr (n := 16) (fun j hj => known8 X (fun i => i * 1 % 256) (fun m hm => by omega) hX17 j hj))
  rw [← hK4] at hk4
  rw [← hK8] at hk8
  have hL4 : ∀ (A : Array Value), A = row 16 (look (s4.getD 10 [])) → A = row 16 K4 := fun A h => by rw [h, hK4]
  have hL8 : ∀ (A : Array Value), A = row 16 (look (s8.getD 14 [])) → A = row 16 K8 := fun A h => by rw [h, hK8]
  have H4 := Lib.hid hL4
  have H8 := Lib.hid hL8
  rw [← hX]
  clear hX h9 h14 h32 hx1 hx2 hx3 hx4 hx5 hx6 hc1 hc2 hX17 hL4 hL8 hK4 hK8
  have HM := Lib.hid known_mul
  have HI := Lib.hid known_inv
  have HBX := Lib.hid known_box
  have HB0 := Lib.hid known_box0
  go_upto_region 6 with (first | (refine wl_allocA rfl 23 rfl _ zero23 ?_) | (refine wl_storeA rfl 23 (.tmp 5) _ rfl _ 0 16 rfl (row 16 X) rfl sz23 (row_size _ _) _ _ (Blk.new _ _ _) (by simp [row_size]) (row_one _ _) (row 16 X) (lay_all _ _ (by simp [row_size])) ?_))
  obtain ⟨wa, hwa⟩ : ∃ W : World, W = (w6.alloc (.cells (row 16 fun _ => 0) 23)).setRow w6.heap.size (row 16 X) := ⟨_, rfl⟩
  have hxwa : Ext w6 wa := by rw [hwa]; exact below_setRow (g := w6.heap.size) (Ext.alloc _ _) (Nat.le_refl _) _
  have B5 : Blk wa w6.heap.size 23 (row 16 X) := by rw [hwa]; exact (Blk.new _ _ _).setRow _
  rw [← hwa]
  clear hwa
  generalize w6.heap.size = g5 at B5 ⊢
  go_upto_region 7 with (first | (refine wl_allocA rfl 23 rfl _ zero23 ?_) | (refine wl_storeA rfl 23 (.tmp 6) _ rfl _ 0 16 rfl (row 16 K4) (congrArg Value.agg (H4.out _ (by kernel_rfl))) sz23 (row_size _ _) _ _ (Blk.new _ _ _) (by simp [row_size]) (row_one _ _) (row 16 K4) (lay_all _ _ (by simp [row_size])) ?_))
  obtain ⟨wb, hwb⟩ : ∃ W : World, W = (wa.alloc (.cells (row 16 fun _ => 0) 23)).setRow wa.heap.size (row 16 K4) := ⟨_, rfl⟩
  have hxwb : Ext wa wb := by rw [hwb]; exact below_setRow (g := wa.heap.size) (Ext.alloc _ _) (Nat.le_refl _) _
  have B6 : Blk wb wa.heap.size 23 (row 16 K4) := by rw [hwb]; exact (Blk.new _ _ _).setRow _
  replace B5 := B5.ext hxwb
  rw [← hwb]
  clear hwb
  generalize wa.heap.size = g6 at B6 ⊢
  go_upto_region 8 with (first | (refine wl_allocA rfl 23 rfl _ zero23 ?_) | (refine wl_storeA rfl 23 (.tmp 7) _ rfl _ 0 16 rfl (row 16 K8) (congrArg Value.agg (H8.out _ (by kernel_rfl))) sz23 (row_size _ _) _ _ (Blk.new _ _ _) (by simp [row_size]) (row_one _ _) (row 16 K8) (lay_all _ _ (by simp [row_size])) ?_))
  obtain ⟨wc, hwc⟩ : ∃ W : World, W = (wb.alloc (.cells (row 16 fun _ => 0) 23)).setRow wb.heap.size (row 16 K8) := ⟨_, rfl⟩
  have hxwc : Ext wb wc := by rw [hwc]; exact below_setRow (g := wb.heap.size) (Ext.alloc _ _) (Nat.le_refl _) _
  have B7 : Blk wc wb.heap.size 23 (row 16 K8) := by rw [hwc]; exact (Blk.new _ _ _).setRow _
  replace B5 := B5.ext hxwc
  replace B6 := B6.ext hxwc
  rw [← hwc]
  clear hwc
  generalize wb.heap.size = g7 at B7 ⊢
  go_wp2_with fail
  have C1 : Cph wc b1 11 (keysP 4 fun i => i * 1 % 256) := ((hC1.out.ext hxwa).ext hxwb).ext hxwc
  have C2 : Cph wc b2 15 (keysP 8 fun i => i * 1 % 256) := ((hC2.out.ext hxwa).ext hxwb).ext hxwc
  have hXw := Lib.hid (((hXX.out.trans hxwa).trans hxwb).trans hxwc)
  have HC1 := Lib.hid C1
  have HC2 := Lib.hid C2
  have HB5 := Lib.hid B5
  have HB6 := Lib.hid B6
  have HB7 := Lib.hid B7
  have hk4' : row 16 (blockP 11 (keysP 4 fun i => i * 1 % 256) X) = row 16 K4 := hk4.out
  have hk8' : row 16 (blockP 15 (keysP 8 fun i => i * 1 % 256) X) = row 16 K8 := hk8.out
  have hk4 := Lib.hid hk4'
  have hk8 := Lib.hid hk8'
  clear hC1 hC2 hXX hxwa hxwb hxwc C1 C2 B5 B6 B7 H4 H8 hk4' hk8' hb1 hb2
  simp only [put_no, put_lit, List.set_cons_succ, List.set_cons_zero]
  apply wp_region_mid 29 [.det _, .det _, .det _, .det _, .det _, .det _, .det _, .det _, .det _, .det _, .det _, .det _, .det _, .det _, .det _, .det _, .det _, .det _, .det _, .det _, .det _, .det _, .det _, .det _, .det _, .det _, .det _, .det _, .det _] (by kernel_rfl) rfl (by kernel_rfl)
  · (first | (refine wpE_move rfl rfl rfl ?_; simp only [put_lit, eval_lit, BigFrame.eval_const, List.set_cons_succ, List.set_cons_zero, List.getD_cons_succ, List.getD_cons_zero]) | (refine wpE_run rfl rfl (by simp) (fun w1 hx1 _ K hK => by go_step; exact hK _ (Ext.refl _)) ?_; simp only [put_lit, List.set_cons_succ, List.set_cons_zero]))
    refine wpE_run rfl rfl (by simp) (fun w' hx' _ K hK => wp_loadA 23 _ rfl _ 0 16 rfl agg23 sz23 _ _ (HB5.out.ext hx') (by simp [row_size]) (row 16 X) (row_whole _ _) (hK _ (Ext.refl _))) ?_
    simp only [put_lit, List.set_cons_succ, List.set_cons_zero]
    (refine wpE_run rfl rfl (by simp) (fun w1 hx1 _ K hK => by go_wp2_with (go_at_call 21; refine (block_any b1 11 _ (by omega) (by omega) X hXl _ (HC1.out.ext hx1)).mono ?_; rintro e w2 ⟨rfl, hx2⟩; exact hK _ hx2)) ?_); simp only [put_lit, List.set_cons_succ, List.set_cons_zero]
    rw [hk4.out]
    refine wpE_run rfl rfl (by simp) (fun w' hx' _ K hK => wp_loadA 23 _ rfl _ 0 16 rfl agg23 sz23 _ _ (HB6.out.ext hx') (by simp [row_size]) (row 16 K4) (row_whole _ _) (hK _ (Ext.refl _))) ?_
    simp only [put_lit, List.set_cons_succ, List.set_cons_zero]
    refine wpE_eql23 rfl (.tmp 38) (.tmp 39) rfl K4 K4 rfl rfl ?_
    rw [eqN_refl]
    simp only [put_lit, List.set_cons_succ, List.set_cons_zero]
    (first | (refine wpE_move rfl rfl rfl ?_; simp only [put_lit, eval_lit, BigFrame.eval_const, List.set_cons_succ, List.set_cons_zero, List.getD_cons_succ, List.getD_cons_zero]) | (refine wpE_run rfl rfl (by simp) (fun w1 hx1 _ K hK => by go_step; exact hK _ (Ext.refl _)) ?_; simp only [put_lit, List.set_cons_succ, List.set_cons_zero]))
    (first | (refine wpE_move rfl rfl rfl ?_; simp only [put_lit, eval_lit, BigFrame.eval_const, List.set_cons_succ, List.set_cons_zero, List.getD_cons_succ, List.getD_cons_zero]) | (refine wpE_run rfl rfl (by simp) (fun w1 hx1 _ K hK => by go_step; exact hK _ (Ext.refl _)) ?_; simp only [put_lit, List.set_cons_succ, List.set_cons_zero]))
    refine wpE_run rfl rfl (by simp) (fun w' hx' _ K hK => wp_loadA 23 _ rfl _ 0 16 rfl agg23 sz23 _ _ (HB5.out.ext hx') (by simp [row_size]) (row 16 X) (row_whole _ _) (hK _ (Ext.refl _))) ?_
    simp only [put_lit, List.set_cons_succ, List.set_cons_zero]
    (refine wpE_run rfl rfl (by simp) (fun w1 hx1 _ K hK => by go_wp2_with (go_at_call 21; refine (block_any b2 15 _ (by omega) (by omega) X hXl _ (HC2.out.ext hx1)).mono ?_; rintro e w2 ⟨rfl, hx2⟩; exact hK _ hx2)) ?_); simp only [put_lit, List.set_cons_succ, List.set_cons_zero]
    rw [hk8.out]
    refine wpE_run rfl rfl (by simp) (fun w' hx' _ K hK => wp_loadA 23 _ rfl _ 0 16 rfl agg23 sz23 _ _ (HB7.out.ext hx') (by simp [row_size]) (row 16 K8) (row_whole _ _) (hK _ (Ext.refl _))) ?_
    simp only [put_lit, List.set_cons_succ, List.set_cons_zero]
    refine wpE_eql23 rfl (.tmp 44) (.tmp 45) rfl K8 K8 rfl rfl ?_
    rw [eqN_refl]
    simp only [put_lit, List.set_cons_succ, List.set_cons_zero]
    (first | (refine wpE_move rfl rfl rfl ?_; simp only [put_lit, eval_lit, BigFrame.eval_const, List.set_cons_succ, List.set_cons_zero, List.getD_cons_succ, List.getD_cons_zero]) | (refine wpE_run rfl rfl (by simp) (fun w1 hx1 _ K hK => by go_step; exact hK _ (Ext.refl _)) ?_; simp only [put_lit, List.set_cons_succ, List.set_cons_zero]))
    (first | (refine wpE_move rfl rfl rfl ?_; simp only [put_lit, eval_lit, BigFrame.eval_const, List.set_cons_succ, List.set_cons_zero, List.getD_cons_succ, List.getD_cons_zero]) | (refine wpE_run rfl rfl (by simp) (fun w1 hx1 _ K hK => by go_step; exact hK _ (Ext.refl _)) ?_; simp only [put_lit, List.set_cons_succ, List.set_cons_zero]))
    (refine wpE_run rfl rfl (by simp) (fun w1 hx1 _ K hK => by go_wp2_with (go_at_call 26; refine (mul_ext 87 131 (by omega) (by omega) _).mono ?_; rintro e w2 ⟨rfl, hx2⟩; exact hK _ hx2)) ?_); simp only [put_lit, List.set_cons_succ, List.set_cons_zero]
    rw [HM.out]
    (first | (refine wpE_move rfl rfl rfl ?_; simp only [put_lit, eval_lit, BigFrame.eval_const, List.set_cons_succ, List.set_cons_zero, List.getD_cons_succ, List.getD_cons_zero]) | (refine wpE_run rfl rfl (by simp) (fun w1 hx1 _ K hK => by go_step; exact hK _ (Ext.refl _)) ?_; simp only [put_lit, List.set_cons_succ, List.set_cons_zero]))
    (first | (refine wpE_move rfl rfl rfl ?_; simp only [put_lit, eval_lit, BigFrame.eval_const, List.set_cons_succ, List.set_cons_zero, List.getD_cons_succ, List.getD_cons_zero]) | (refine wpE_run rfl rfl (by simp) (fun w1 hx1 _ K hK => by go_step; exact hK _ (Ext.refl _)) ?_; simp only [put_lit, List.set_cons_succ, List.set_cons_zero]))
    (first | (refine wpE_move rfl rfl rfl ?_; simp only [put_lit, eval_lit, BigFrame.eval_const, List.set_cons_succ, List.set_cons_zero, List.getD_cons_succ, List.getD_cons_zero]) | (refine wpE_run rfl rfl (by simp) (fun w1 hx1 _ K hK => by go_step; exact hK _ (Ext.refl _)) ?_; simp only [put_lit, List.set_cons_succ, List.set_cons_zero]))
    (refine wpE_run rfl rfl (by simp) (fun w1 hx1 _ K hK => by go_wp2_with (go_at_call 28; refine (inv_any 83 (by omega) _).mono ?_; rintro e w2 ⟨rfl, hx2⟩; exact hK _ hx2)) ?_); simp only [put_lit, List.set_cons_succ, List.set_cons_zero]
    rw [HI.out]
    (first | (refine wpE_move rfl rfl rfl ?_; simp only [put_lit, eval_lit, BigFrame.eval_const, List.set_cons_succ, List.set_cons_zero, List.getD_cons_succ, List.getD_cons_zero]) | (refine wpE_run rfl rfl (by simp) (fun w1 hx1 _ K hK => by go_step; exact hK _ (Ext.refl _)) ?_; simp only [put_lit, List.set_cons_succ, List.set_cons_zero]))
    (first | (refine wpE_move rfl rfl rfl ?_; simp only [put_lit, eval_lit, BigFrame.eval_const, List.set_cons_succ, List.set_cons_zero, List.getD_cons_succ, List.getD_cons_zero]) | (refine wpE_run rfl rfl (by simp) (fun w1 hx1 _ K hK => by go_step; exact hK _ (Ext.refl _)) ?_; simp only [put_lit, List.set_cons_succ, List.set_cons_zero]))
    (first | (refine wpE_move rfl rfl rfl ?_; simp only [put_lit, eval_lit, BigFrame.eval_const, List.set_cons_succ, List.set_cons_zero, List.getD_cons_succ, List.getD_cons_zero]) | (refine wpE_run rfl rfl (by simp) (fun w1 hx1 _ K hK => by go_step; exact hK _ (Ext.refl _)) ?_; simp only [put_lit, List.set_cons_succ, List.set_cons_zero]))
    (refine wpE_run rfl rfl (by simp) (fun w1 hx1 _ K hK => by go_wp2_with (go_at_call 30; refine (box_any 83 (by omega) _).mono ?_; rintro e w2 ⟨rfl, hx2⟩; exact hK _ hx2)) ?_); simp only [put_lit, List.set_cons_succ, List.set_cons_zero]
    rw [HBX.out]
    (first | (refine wpE_move rfl rfl rfl ?_; simp only [put_lit, eval_lit, BigFrame.eval_const, List.set_cons_succ, List.set_cons_zero, List.getD_cons_succ, List.getD_cons_zero]) | (refine wpE_run rfl rfl (by simp) (fun w1 hx1 _ K hK => by go_step; exact hK _ (Ext.refl _)) ?_; simp only [put_lit, List.set_cons_succ, List.set_cons_zero]))
    (first | (refine wpE_move rfl rfl rfl ?_; simp only [put_lit, eval_lit, BigFrame.eval_const, List.set_cons_succ, List.set_cons_zero, List.getD_cons_succ, List.getD_cons_zero]) | (refine wpE_run rfl rfl (by simp) (fun w1 hx1 _ K hK => by go_step; exact hK _ (Ext.refl _)) ?_; simp only [put_lit, List.set_cons_succ, List.set_cons_zero]))
    (first | (refine wpE_move rfl rfl rfl ?_; simp only [put_lit, eval_lit, BigFrame.eval_const, List.set_cons_succ, List.set_cons_zero, List.getD_cons_succ, List.getD_cons_zero]) | (refine wpE_run rfl rfl (by simp) (fun w1 hx1 _ K hK => by go_step; exact hK _ (Ext.refl _)) ?_; simp only [put_lit, List.set_cons_succ, List.set_cons_zero]))
    (refine wpE_run rfl rfl (by simp) (fun w1 hx1 _ K hK => by go_wp2_with (go_at_call 30; refine (box_any 0 (by omega) _).mono ?_; rintro e w2 ⟨rfl, hx2⟩; exact hK _ hx2)) ?_); simp only [put_lit, List.set_cons_succ, List.set_cons_zero]
    rw [HB0.out]
    (first | (refine wpE_move rfl rfl rfl ?_; simp only [put_lit, eval_lit, BigFrame.eval_const, List.set_cons_succ, List.set_cons_zero, List.getD_cons_succ, List.getD_cons_zero]) | (refine wpE_run rfl rfl (by simp) (fun w1 hx1 _ K hK => by go_step; exact hK _ (Ext.refl _)) ?_; simp only [put_lit, List.set_cons_succ, List.set_cons_zero]))
    (first | (refine wpE_move rfl rfl rfl ?_; simp only [put_lit, eval_lit, BigFrame.eval_const, List.set_cons_succ, List.set_cons_zero, List.getD_cons_succ, List.getD_cons_zero]) | (refine wpE_run rfl rfl (by simp) (fun w1 hx1 _ K hK => by go_step; exact hK _ (Ext.refl _)) ?_; simp only [put_lit, List.set_cons_succ, List.set_cons_zero]))
    (first | (refine wpE_move rfl rfl rfl ?_; simp only [put_lit, eval_lit, BigFrame.eval_const, List.set_cons_succ, List.set_cons_zero, List.getD_cons_succ, List.getD_cons_zero]) | (refine wpE_run rfl rfl (by simp) (fun w1 hx1 _ K hK => by go_step; exact hK _ (Ext.refl _)) ?_; simp only [put_lit, List.set_cons_succ, List.set_cons_zero]))
    (refine wpE_nil ?_; intro w2 hw2 hF; simp only [List.drop_succ_cons, List.drop_zero])
    go_wp2_with fail
    go_ret
    exact ⟨rfl, hXw.out.trans hw2⟩

end Go.Proofs.Ytnigpobbckampaa
