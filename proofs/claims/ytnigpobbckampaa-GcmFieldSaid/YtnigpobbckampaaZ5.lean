/- GcmField, walked. -/
import Derived.Test.YtnigpobbckampaaZ2
import Derived.Test.YtnigpobbckampaaY0
import Derived.Test.YtnigpobbckampaaL
import Derived.Test.YtnigpobbckampaaR1
import Derived.Test.YtnigpobbckampaaW0
import Derived.Test.YtnigpobbckampaaP5
namespace Go.Proofs.Ytnigpobbckampaa
open Go.RowKit
set_option linter.unusedSimpArgs false
set_option linter.unusedVariables false

/-- The block of 1. -/
def oneF : Nat → Nat := fun j => if j = 0 then 128 else 0
theorem oneF_lt (j : Nat) : oneF j < 256 := by unfold oneF; split <;> omega
theorem be_one : be oneF 16 = 2 ^ 127 := by kernel_rfl
theorem be_zero16 : be (fun _ => 0) 16 = 0 := by kernel_rfl
theorem be_tmsB {x : Nat → Nat} (hx : ∀ j, j < 16 → x j < 256) (y : Nat → Nat) : be (tmsB x y) 16 = tms (be x 16) (be y 16) := be_byP (tms_lt _ (be_lt 16 hx))
theorem tmsB_comm {x y : Nat → Nat} (hx : ∀ j, j < 16 → x j < 256) (hy : ∀ j, j < 16 → y j < 256) : tmsB x y = tmsB y x := by
  unfold tmsB
  rw [tms_comm _ _ (be_lt 16 hx) (be_lt 16 hy)]
theorem tmsB_assoc {x y z : Nat → Nat} (hx : ∀ j, j < 16 → x j < 256) (hy : ∀ j, j < 16 → y j < 256) (hz : ∀ j, j < 16 → z j < 256) : tmsB (tmsB x y) z = tmsB x (tmsB y z) := by
  show byP (tms (be (tmsB x y) 16) (be z 16)) = byP (tms (be x 16) (be (tmsB y z) 16))
  rw [be_tmsB hx, be_tmsB hy, tms_assoc _ _ _ (be_lt 16 hx) (be_lt 16 hy) (be_lt 16 hz)]
theorem tmsB_mix {x y z : Nat → Nat} (hy : ∀ j, j < 16 → y j < 256) (hz : ∀ j, j < 16 → z j < 256) (j : Nat) : tmsB x (fun j => y j ^^^ z j) j = tmsB x y j ^^^ tmsB x z j := by
  unfold tmsB
  rw [be_xor hy hz, tms_right, byP_xor]
theorem tmsB_one {x : Nat → Nat} (hx : ∀ j, j < 16 → x j < 256) (j : Nat) (hj : j < 16) : tmsB x oneF j = x j := by
  unfold tmsB
  rw [be_one, tms_one, byP_be hx j hj]
theorem one_tmsB {x : Nat → Nat} (hx : ∀ j, j < 16 → x j < 256) (j : Nat) (hj : j < 16) : tmsB oneF x j = x j := by
  rw [tmsB_comm (fun j _ => oneF_lt j) hx, tmsB_one hx j hj]
theorem tmsB_zero (x : Nat → Nat) (j : Nat) : tmsB x (fun _ => 0) j = 0 := by
  unfold tmsB
  rw [be_zero16, tms_zero]
  unfold byP
  simp

set_option maxRecDepth 100000 in
set_option maxHeartbeats 1000000 in
theorem gcmfield_any (x y z : Nat → Nat) (w : World) (hx : ∀ j, j < 16 → x j < 256) (hy : ∀ j, j < 16 → y j < 256) (hz : ∀ j, j < 16 → z j < 256) :
    Calls Try.prog 7 #[.agg (row 16 x), .agg (row 16 y), .agg (row 16 z)] w fun e w' => e = .returned (.bool true) ∧ Ext w w' := by
  have E1 := Lib.hid (eqN_iff.2 (fun i (_ : i < 16) => congrFun (tmsB_comm hx hy) i))
  have E2 := Lib.hid (eqN_iff.2 (fun i (_ : i < 16) => congrFun (tmsB_assoc hx hy hz) i))
  have E3 := Lib.hid (eqN_iff.2 (fun i (h : i < 16) => tmsB_one hx i h))
  have E4 := Lib.hid (eqN_iff.2 (fun i (h : i < 16) => one_tmsB hy i h))
  have E5 := Lib.hid (eqN_iff.2 (fun i (_ : i < 16) => (tmsB_zero x i : tmsB x (fun _ => 0) i = (fun _ => 0) i)))
  have EM := Lib.hid (fun i => tmsB_mix (x := x) hy hz i)
  have HML := Lib.hid (show ∀ j, j < 16 → y j ^^^ z j < 256 from fun j hj => xor_lt (hy j hj) (hz j hj))
  have HXL := Lib.hid hx
  have HYL := Lib.hid hy
  have HZL := Lib.hid hz
  clear hx hy hz
  go_enter Try.func7, Try.ntmps7
  go_upto_region 1 with (refine wl_boxA rfl 23 _ rfl _ rfl ?_)
  have hA : Blk (((w.alloc (.cells (row 16 x) 23)).alloc (.cells (row 16 y) 23)).alloc (.cells (row 16 z) 23)) w.heap.size 23 (row 16 x) := ((Blk.new w _ _).alloc _).alloc _
  have hB : Blk (((w.alloc (.cells (row 16 x) 23)).alloc (.cells (row 16 y) 23)).alloc (.cells (row 16 z) 23)) (w.heap.size + 1) 23 (row 16 y) := by
    have := (Blk.new (w.alloc (.cells (row 16 x) 23)) 23 (row 16 y)).alloc (.cells (row 16 z) 23)
    simpa only [World.size_alloc] using this
  have hC : Blk (((w.alloc (.cells (row 16 x) 23)).alloc (.cells (row 16 y) 23)).alloc (.cells (row 16 z) 23)) (w.heap.size + 2) 23 (row 16 z) := by
    have := Blk.new ((w.alloc (.cells (row 16 x) 23)).alloc (.cells (row 16 y) 23)) 23 (row 16 z)
    simpa only [World.size_alloc] using this
  have hx : Ext w (((w.alloc (.cells (row 16 x) 23)).alloc (.cells (row 16 y) 23)).alloc (.cells (row 16 z) 23)) := ((Ext.alloc _ _).trans (Ext.alloc _ _)).trans (Ext.alloc _ _)
  try simp only [put_lit, List.set_cons_succ, List.set_cons_zero, World.size_alloc]
  generalize ((w.alloc (.cells (row 16 x) 23)).alloc (.cells (row 16 y) 23)).alloc (.cells (row 16 z) 23) = w1 at hA hB hC hx ⊢
  have HA := Lib.hid hA
  have HB := Lib.hid hB
  have HC := Lib.hid hC
  have HX := Lib.hid hx
  clear hA hB hC hx
  go_upto_region 2 with (first | (refine wl_buildR rfl 23 _ rfl (row 16 oneF) (by kernel_rfl) ?_) | (refine wl_allocA rfl 23 rfl _ zero23 ?_) | (refine wl_storeA rfl 23 _ _ rfl _ 0 16 rfl (row 16 oneF) rfl sz23 (row_size _ _) _ _ (Blk.new _ _ _) (by simp [row_size]) (row_one _ _) (row 16 oneF) (lay_all _ _ (by simp [row_size])) ?_))
  have hO : Blk ((w1.alloc (.cells (row 16 fun _ => 0) 23)).setRow w1.heap.size (row 16 oneF)) w1.heap.size 23 (row 16 oneF) := (Blk.new _ _ _).setRow _
  have hx : Ext w1 ((w1.alloc (.cells (row 16 fun _ => 0) 23)).setRow w1.heap.size (row 16 oneF)) := below_setRow (g := w1.heap.size) (Ext.alloc _ _) (Nat.le_refl _) _
  try simp only [put_lit, put_no, List.set_cons_succ, List.set_cons_zero, World.size_alloc]
  obtain ⟨go, hgo⟩ : ∃ g, g = w1.heap.size := ⟨_, rfl⟩
  rw [← hgo] at hO hx ⊢
  clear hgo
  generalize (w1.alloc (.cells (row 16 fun _ => 0) 23)).setRow go (row 16 oneF) = w2 at hO hx ⊢
  have HO := Lib.hid hO
  have HA2 := Lib.hid (HA.out.ext hx)
  have HB2 := Lib.hid (HB.out.ext hx)
  have HC2 := Lib.hid (HC.out.ext hx)
  have HX2 := Lib.hid (HX.out.trans hx)
  clear HA HB HC HX hO hx
  go_upto_region 3 with (first | (refine wl_loadA rfl 23 _ rfl _ 0 16 rfl agg23 sz23 _ _ HB2.out (by simp [row_size]) (row 16 y) (row_whole _ _) ?_) | (refine wl_allocA rfl 23 rfl _ zero23 ?_) | (refine wl_storeA rfl 23 _ _ rfl _ 0 16 rfl (row 16 y) rfl sz23 (row_size _ _) _ _ (Blk.new _ _ _) (by simp [row_size]) (row_one _ _) (row 16 y) (lay_all _ _ (by simp [row_size])) ?_))
  have hM : Blk ((w2.alloc (.cells (row 16 fun _ => 0) 23)).setRow w2.heap.size (row 16 y)) w2.heap.size 23 (row 16 y) := (Blk.new _ _ _).setRow _
  have hx : Ext w2 ((w2.alloc (.cells (row 16 fun _ => 0) 23)).setRow w2.heap.size (row 16 y)) := below_setRow (g := w2.heap.size) (Ext.alloc _ _) (Nat.le_refl _) _
  try simp only [put_lit, put_no, List.set_cons_succ, List.set_cons_zero, World.size_alloc]
  obtain ⟨gm, hgm⟩ : ∃ g, g = w2.heap.size := ⟨_, rfl⟩
  rw [← hgm] at hM hx ⊢
  generalize (w2.alloc (.cells (row 16 fun _ => 0) 23)).setRow gm (row 16 y) = w3 at hM hx ⊢
  have HGM := Lib.hid hgm
  clear hgm
  go_wp2_with fail
  go_loopw [9] (fun v9 wr => ∃ k : Nat, k ≤ 16 ∧ v9 = .int .i64 k ∧ Blk wr gm 23 (row 16 (mixF k (fun j => y j ^^^ z j) y)) ∧ Ext w2 wr) (fun v9 _ => 16 - (intOf v9).toNat)
  case atStart => exact ⟨0, by omega, rfl, by rw [mixF_zero]; exact hM, hx⟩
  case round =>
    clear hM hx
    obtain ⟨k, hk, rfl, hm, hx⟩ := hrel
    have HM := Lib.hid hm
    have HX := Lib.hid hx
    clear hm hx
    by_cases hlt : k < 16
    · have hlt' : (k : Int) < 16 := by omega
      have hcb := (HB2.out.ext HX.out).byte k hlt
      have hcc := (HC2.out.ext HX.out).byte k hlt
      have hcm := HM.out.byte k hlt
      have hly := HYL.out k hlt
      have hlz := HZL.out k hlt
      go_upto_region 6 with fail
      apply wp_region_mid 9 [.det _, .det _, .det _, .det _, .det _, .det _, .det _, .det _, .det _] (by kernel_rfl) rfl (by kernel_rfl)
      · (first | (refine wpE_move rfl rfl rfl ?_; simp only [put_lit, eval_lit, BigFrame.eval_const, List.set_cons_succ, List.set_cons_zero, List.getD_cons_succ, List.getD_cons_zero]) | (refine wpE_run rfl rfl (by simp) (fun w1 hx1 _ K hK => by go_step; exact hK _ (Ext.refl _)) ?_; simp only [put_lit, List.set_cons_succ, List.set_cons_zero]))
        (first | (refine wpE_move rfl rfl rfl ?_; simp only [put_lit, eval_lit, BigFrame.eval_const, List.set_cons_succ, List.set_cons_zero, List.getD_cons_succ, List.getD_cons_zero]) | (refine wpE_run rfl rfl (by simp) (fun w1 hx1 _ K hK => by go_step; exact hK _ (Ext.refl _)) ?_; simp only [put_lit, List.set_cons_succ, List.set_cons_zero]))
        (first | (refine wpE_move rfl rfl rfl ?_; simp only [put_lit, eval_lit, BigFrame.eval_const, List.set_cons_succ, List.set_cons_zero, List.getD_cons_succ, List.getD_cons_zero]) | (refine wpE_run rfl rfl (by simp) (fun w1 hx1 _ K hK => by go_step; exact hK _ (Ext.refl _)) ?_; simp only [put_lit, List.set_cons_succ, List.set_cons_zero]))
        (refine wpE_run rfl rfl (by simp) (fun w1 hx1 _ K hK => by have hc := hx1.cell hcb; go_step; exact hK _ (Ext.refl _)) ?_); simp only [put_lit, List.set_cons_succ, List.set_cons_zero]
        (first | (refine wpE_move rfl rfl rfl ?_; simp only [put_lit, eval_lit, BigFrame.eval_const, List.set_cons_succ, List.set_cons_zero, List.getD_cons_succ, List.getD_cons_zero]) | (refine wpE_run rfl rfl (by simp) (fun w1 hx1 _ K hK => by go_step; exact hK _ (Ext.refl _)) ?_; simp only [put_lit, List.set_cons_succ, List.set_cons_zero]))
        (first | (refine wpE_move rfl rfl rfl ?_; simp only [put_lit, eval_lit, BigFrame.eval_const, List.set_cons_succ, List.set_cons_zero, List.getD_cons_succ, List.getD_cons_zero]) | (refine wpE_run rfl rfl (by simp) (fun w1 hx1 _ K hK => by go_step; exact hK _ (Ext.refl _)) ?_; simp only [put_lit, List.set_cons_succ, List.set_cons_zero]))
        (refine wpE_run rfl rfl (by simp) (fun w1 hx1 _ K hK => by have hc := hx1.cell hcc; go_step; exact hK _ (Ext.refl _)) ?_); simp only [put_lit, List.set_cons_succ, List.set_cons_zero]
        (first | (refine wpE_move rfl rfl rfl ?_; simp only [put_lit, eval_lit, BigFrame.eval_const, List.set_cons_succ, List.set_cons_zero, List.getD_cons_succ, List.getD_cons_zero]) | (refine wpE_run rfl rfl (by simp) (fun w1 hx1 _ K hK => by go_step; exact hK _ (Ext.refl _)) ?_; simp only [put_lit, List.set_cons_succ, List.set_cons_zero]))
        rw [u8_xor_nat _ _ hly hlz]
        (first | (refine wpE_move rfl rfl rfl ?_; simp only [put_lit, eval_lit, BigFrame.eval_const, List.set_cons_succ, List.set_cons_zero, List.getD_cons_succ, List.getD_cons_zero]) | (refine wpE_run rfl rfl (by simp) (fun w1 hx1 _ K hK => by go_step; exact hK _ (Ext.refl _)) ?_; simp only [put_lit, List.set_cons_succ, List.set_cons_zero]))
        (refine wpE_nil ?_; intro w2 hw2 hF; simp only [List.drop_succ_cons, List.drop_zero])
        have hc4 := hw2.cell hcm
        have hff := (HM.out.ext hw2).frozen k
        have HW := Lib.hid hw2
        clear hF hcb hcc hcm hw2
        go_wp2_with fail
        go_roundw
        case rel =>
          refine ⟨k + 1, by omega, by go_num, ?_, (HX.out.trans HW.out).setCell (Nat.le_of_eq HGM.out.symm) _⟩
          rw [← mixF_upd]
          exact (HM.out.ext HW.out).setB k _
        case measure => simp [intOf]; omega
    · obtain rfl : k = 16 := by omega
      have hlt' : ¬ ((16 : Nat) : Int) < 16 := by omega
      have HM' := Lib.hid (show Blk wr gm 23 (row 16 fun j => y j ^^^ z j) from by
        rw [show row 16 (fun j => y j ^^^ z j) = row 16 (mixF 16 (fun j => y j ^^^ z j) y) from row_congr fun j hj => by simp only [mixF]; rw [if_pos hj]]
        exact HM.out)
      clear HM
      have HM := HM'
      have HA := Lib.hid (HA2.out.ext HX.out)
      have HB := Lib.hid (HB2.out.ext HX.out)
      have HC := Lib.hid (HC2.out.ext HX.out)
      have HO1 := Lib.hid (HO.out.ext HX.out)
      have HXX := Lib.hid (HX2.out.trans HX.out)
      clear HM' HA2 HB2 HC2 HO HX2 HX HGM
      have HO := HO1
      clear HO1
      go_upto_region 7 with fail
      apply wp_region_midN 12 [.det _, .det _, .det _, .det _, .det _, .det _, .det _, .det _, .det _, .any (Fresh wr 23 (row 16 fun _ => 0)), .any (Fresh wr 23 (row 16 fun _ => 0)), .any (Fresh wr 23 (row 16 fun _ => 0))] [9, 10, 11] (fun k hk => by
        simp only [List.mem_cons, List.not_mem_nil, or_false] at hk
        rcases hk with rfl | rfl | rfl <;> exact ⟨_, rfl, rfl, newOp_alloc rfl zero23⟩) (by kernel_rfl) rfl (by kernel_rfl)
      · skip
        refine wpE_run rfl rfl (by simp) (fun w' hx' _ K hK => wp_loadA 23 _ rfl _ 0 16 rfl agg23 sz23 _ _ (HA.out.ext hx') (by simp [row_size]) (row 16 x) (row_whole _ _) (hK _ (Ext.refl _))) ?_
        simp only [put_lit, List.set_cons_succ, List.set_cons_zero]
        refine wpE_run rfl rfl (by simp) (fun w' hx' _ K hK => wp_loadA 23 _ rfl _ 0 16 rfl agg23 sz23 _ _ (HB.out.ext hx') (by simp [row_size]) (row 16 y) (row_whole _ _) (hK _ (Ext.refl _))) ?_
        simp only [put_lit, List.set_cons_succ, List.set_cons_zero]
        refine wpE_run rfl rfl (by simp) (fun w1 hx1 _ K9 hK9 => by go_wp2_with (go_at_call 32; refine (times32_any x y (HXL.out) (HYL.out) _).mono ?_; rintro e w2 ⟨rfl, hx2⟩; exact hK9 _ hx2)) ?_
        simp only [put_lit, List.set_cons_succ, List.set_cons_zero]
        refine wpE_run rfl rfl (by simp) (fun w' hx' _ K hK => wp_loadA 23 _ rfl _ 0 16 rfl agg23 sz23 _ _ (HA.out.ext hx') (by simp [row_size]) (row 16 x) (row_whole _ _) (hK _ (Ext.refl _))) ?_
        simp only [put_lit, List.set_cons_succ, List.set_cons_zero]
        refine wpE_run rfl rfl (by simp) (fun w' hx' _ K hK => wp_loadA 23 _ rfl _ 0 16 rfl agg23 sz23 _ _ (HC.out.ext hx') (by simp [row_size]) (row 16 z) (row_whole _ _) (hK _ (Ext.refl _))) ?_
        simp only [put_lit, List.set_cons_succ, List.set_cons_zero]
        refine wpE_run rfl rfl (by simp) (fun w1 hx1 _ K9 hK9 => by go_wp2_with (go_at_call 32; refine (times32_any x z (HXL.out) (HZL.out) _).mono ?_; rintro e w2 ⟨rfl, hx2⟩; exact hK9 _ hx2)) ?_
        simp only [put_lit, List.set_cons_succ, List.set_cons_zero]
        refine wpE_run rfl rfl (by simp) (fun w' hx' _ K hK => wp_loadA 23 _ rfl _ 0 16 rfl agg23 sz23 _ _ (HA.out.ext hx') (by simp [row_size]) (row 16 x) (row_whole _ _) (hK _ (Ext.refl _))) ?_
        simp only [put_lit, List.set_cons_succ, List.set_cons_zero]
        refine wpE_run rfl rfl (by simp) (fun w' hx' _ K hK => wp_loadA 23 _ rfl _ 0 16 rfl agg23 sz23 _ _ (HM.out.ext hx') (by simp [row_size]) (row 16 (fun j => y j ^^^ z j)) (row_whole _ _) (hK _ (Ext.refl _))) ?_
        simp only [put_lit, List.set_cons_succ, List.set_cons_zero]
        refine wpE_run rfl rfl (by simp) (fun w1 hx1 _ K9 hK9 => by go_wp2_with (go_at_call 32; refine (times32_any x (fun j => y j ^^^ z j) (HXL.out) (HML.out) _).mono ?_; rintro e w2 ⟨rfl, hx2⟩; exact hK9 _ hx2)) ?_
        simp only [put_lit, List.set_cons_succ, List.set_cons_zero]
        refine wpE_alloc rfl zero23 rfl (by simp) rfl (fun u10 => ?_)
        simp only [put_lit, List.set_cons_succ, List.set_cons_zero]
        refine wpE_alloc rfl zero23 rfl (by simp) rfl (fun u11 => ?_)
        simp only [put_lit, List.set_cons_succ, List.set_cons_zero]
        refine wpE_alloc rfl zero23 rfl (by simp) rfl (fun u12 => ?_)
        simp only [put_lit, List.set_cons_succ, List.set_cons_zero]
        refine wpE_nil ?_
        intro w8 hw8 hF hD
        simp only [List.drop_succ_cons, List.drop_zero]
        obtain ⟨g12, rfl, hg12, hb12⟩ := hF _ (List.mem_cons_self ..)
        obtain ⟨g11, rfl, hg11, hb11⟩ := hF _ (List.mem_cons_of_mem _ (List.mem_cons_self ..))
        obtain ⟨g10, rfl, hg10, hb10⟩ := hF _ (List.mem_cons_of_mem _ (List.mem_cons_of_mem _ (List.mem_cons_self ..)))
        have d1 : g10 ≠ g11 := fun e => hD 9 (by decide) 10 (by decide) (by decide) 10 11 (by kernel_rfl) (by kernel_rfl) (congrArg some e)
        have d2 : g10 ≠ g12 := fun e => hD 9 (by decide) 11 (by decide) (by decide) 10 12 (by kernel_rfl) (by kernel_rfl) (congrArg some e)
        have d3 : g11 ≠ g12 := fun e => hD 10 (by decide) 11 (by decide) (by decide) 11 12 (by kernel_rfl) (by kernel_rfl) (congrArg some e)
        clear hF hD
        refine wl_storeA rfl 23 _ _ rfl g10 0 16 rfl (row 16 (tmsB x y)) rfl sz23 (row_size _ _) _ _ hb10 (by simp [row_size]) (row_one _ _) (row 16 (tmsB x y)) (lay_all _ _ (by simp [row_size])) ?_
        refine wl_storeA rfl 23 _ _ rfl g11 0 16 rfl (row 16 (tmsB x z)) rfl sz23 (row_size _ _) _ _ (hb11.setRow_other _ (Ne.symm d1)) (by simp [row_size]) (row_one _ _) (row 16 (tmsB x z)) (lay_all _ _ (by simp [row_size])) ?_
        refine wl_storeA rfl 23 _ _ rfl g12 0 16 rfl (row 16 (tmsB x fun j => y j ^^^ z j)) rfl sz23 (row_size _ _) _ _ ((hb12.setRow_other _ (Ne.symm d2)).setRow_other _ (Ne.symm d3)) (by simp [row_size]) (row_one _ _) (row 16 (tmsB x fun j => y j ^^^ z j)) (lay_all _ _ (by simp [row_size])) ?_
        have h10 := (((hb10.setRow (row 16 (tmsB x y))).setRow_other (row 16 (tmsB x z)) d1).setRow_other (row 16 (tmsB x fun j => y j ^^^ z j)) d2)
        have h11 := (((hb11.setRow_other (row 16 (tmsB x y)) (Ne.symm d1)).setRow (row 16 (tmsB x z))).setRow_other (row 16 (tmsB x fun j => y j ^^^ z j)) d3)
        have h12 := ((hb12.setRow_other (row 16 (tmsB x y)) (Ne.symm d2)).setRow_other (row 16 (tmsB x z)) (Ne.symm d3)).setRow (row 16 (tmsB x fun j => y j ^^^ z j))
        have hx9 : Ext wr (((w8.setRow g10 (row 16 (tmsB x y))).setRow g11 (row 16 (tmsB x z))).setRow g12 (row 16 (tmsB x fun j => y j ^^^ z j))) := below_setRow (below_setRow (below_setRow hw8 hg10 _) hg11 _) hg12 _
        generalize ((w8.setRow g10 (row 16 (tmsB x y))).setRow g11 (row 16 (tmsB x z))).setRow g12 (row 16 (tmsB x fun j => y j ^^^ z j)) = w9 at h10 h11 h12 hx9 ⊢
        clear hb10 hb11 hb12 hw8
        have G1 := Lib.hid h10
        have G2 := Lib.hid h11
        have G3 := Lib.hid h12
        have HA9 := Lib.hid (HA.out.ext hx9)
        have HB9 := Lib.hid (HB.out.ext hx9)
        have HC9 := Lib.hid (HC.out.ext hx9)
        have HO9 := Lib.hid (HO.out.ext hx9)
        have HX9 := Lib.hid (HXX.out.trans hx9)
        clear h10 h11 h12 HA HB HC HO HM HXX hx9
        have HA := HA9
        have HB := HB9
        have HC := HC9
        have HO := HO9
        clear HA9 HB9 HC9 HO9
        go_upto_region 9 with fail
        try simp only [put_no, put_lit, List.set_cons_succ, List.set_cons_zero]
        go_loopw [13] (fun v13 wq => ∃ k : Nat, k ≤ 16 ∧ v13 = .int .i64 k ∧ Ext w9 wq) (fun v13 _ => 16 - (intOf v13).toNat)
        case atStart => exact ⟨0, by omega, rfl, Ext.refl _⟩
        case round =>
          obtain ⟨k, hk, rfl, hx⟩ := hrel
          have HX := Lib.hid hx
          clear hx
          by_cases hlt : k < 16
          · have hlt' : (k : Int) < 16 := by omega
            have hc1 := (G1.out.ext HX.out).byte k hlt
            have hc2 := (G2.out.ext HX.out).byte k hlt
            have hc3 := (G3.out.ext HX.out).byte k hlt
            rw [EM.out k] at hc3
            have hl1 : tmsB x y k < 256 := byP_lt _ _
            have hl2 : tmsB x z k < 256 := byP_lt _ _
            generalize tmsB x y k = p1 at hc1 hc3 hl1
            generalize tmsB x z k = p2 at hc2 hc3 hl2
            go_upto_region 11 with fail
            apply wp_region_mid 11 [.det _, .det _, .det _, .det _, .det _, .det _, .det _, .det _, .det _, .det _, .det _] (by kernel_rfl) rfl (by kernel_rfl)
            · skip
              (first | (refine wpE_move rfl rfl rfl ?_; simp only [put_lit, eval_lit, BigFrame.eval_const, List.set_cons_succ, List.set_cons_zero, List.getD_cons_succ, List.getD_cons_zero]) | (refine wpE_run rfl rfl (by simp) (fun w1 hx1 _ K hK => by go_step; exact hK _ (Ext.refl _)) ?_; simp only [put_lit, List.set_cons_succ, List.set_cons_zero]))
              (first | (refine wpE_move rfl rfl rfl ?_; simp only [put_lit, eval_lit, BigFrame.eval_const, List.set_cons_succ, List.set_cons_zero, List.getD_cons_succ, List.getD_cons_zero]) | (refine wpE_run rfl rfl (by simp) (fun w1 hx1 _ K hK => by go_step; exact hK _ (Ext.refl _)) ?_; simp only [put_lit, List.set_cons_succ, List.set_cons_zero]))
              (refine wpE_run rfl rfl (by simp) (fun w1 hx1 _ K hK => by have hc := hx1.cell hc3; go_step; exact hK _ (Ext.refl _)) ?_); simp only [put_lit, List.set_cons_succ, List.set_cons_zero]
              (first | (refine wpE_move rfl rfl rfl ?_; simp only [put_lit, eval_lit, BigFrame.eval_const, List.set_cons_succ, List.set_cons_zero, List.getD_cons_succ, List.getD_cons_zero]) | (refine wpE_run rfl rfl (by simp) (fun w1 hx1 _ K hK => by go_step; exact hK _ (Ext.refl _)) ?_; simp only [put_lit, List.set_cons_succ, List.set_cons_zero]))
              (first | (refine wpE_move rfl rfl rfl ?_; simp only [put_lit, eval_lit, BigFrame.eval_const, List.set_cons_succ, List.set_cons_zero, List.getD_cons_succ, List.getD_cons_zero]) | (refine wpE_run rfl rfl (by simp) (fun w1 hx1 _ K hK => by go_step; exact hK _ (Ext.refl _)) ?_; simp only [put_lit, List.set_cons_succ, List.set_cons_zero]))
              (refine wpE_run rfl rfl (by simp) (fun w1 hx1 _ K hK => by have hc := hx1.cell hc1; go_step; exact hK _ (Ext.refl _)) ?_); simp only [put_lit, List.set_cons_succ, List.set_cons_zero]
              (first | (refine wpE_move rfl rfl rfl ?_; simp only [put_lit, eval_lit, BigFrame.eval_const, List.set_cons_succ, List.set_cons_zero, List.getD_cons_succ, List.getD_cons_zero]) | (refine wpE_run rfl rfl (by simp) (fun w1 hx1 _ K hK => by go_step; exact hK _ (Ext.refl _)) ?_; simp only [put_lit, List.set_cons_succ, List.set_cons_zero]))
              (first | (refine wpE_move rfl rfl rfl ?_; simp only [put_lit, eval_lit, BigFrame.eval_const, List.set_cons_succ, List.set_cons_zero, List.getD_cons_succ, List.getD_cons_zero]) | (refine wpE_run rfl rfl (by simp) (fun w1 hx1 _ K hK => by go_step; exact hK _ (Ext.refl _)) ?_; simp only [put_lit, List.set_cons_succ, List.set_cons_zero]))
              (refine wpE_run rfl rfl (by simp) (fun w1 hx1 _ K hK => by have hc := hx1.cell hc2; go_step; exact hK _ (Ext.refl _)) ?_); simp only [put_lit, List.set_cons_succ, List.set_cons_zero]
              (first | (refine wpE_move rfl rfl rfl ?_; simp only [put_lit, eval_lit, BigFrame.eval_const, List.set_cons_succ, List.set_cons_zero, List.getD_cons_succ, List.getD_cons_zero]) | (refine wpE_run rfl rfl (by simp) (fun w1 hx1 _ K hK => by go_step; exact hK _ (Ext.refl _)) ?_; simp only [put_lit, List.set_cons_succ, List.set_cons_zero]))
              rw [u8_xor_nat _ _ hl1 hl2]
              (first | (refine wpE_move rfl rfl rfl ?_; simp only [put_lit, eval_lit, BigFrame.eval_const, List.set_cons_succ, List.set_cons_zero, List.getD_cons_succ, List.getD_cons_zero]) | (refine wpE_run rfl rfl (by simp) (fun w1 hx1 _ K hK => by go_step; exact hK _ (Ext.refl _)) ?_; simp only [put_lit, List.set_cons_succ, List.set_cons_zero]))
              (refine wpE_nil ?_; intro w2 hw2 hF; simp only [List.drop_succ_cons, List.drop_zero])
              have HW := Lib.hid hw2
              clear hF hc1 hc2 hc3 hw2
              have hne : ((((p1 ^^^ p2 : Nat)) : Int) != (((p1 ^^^ p2 : Nat)) : Int)) = false := by simp
              go_wp2_with fail
              go_roundw
              case rel => exact ⟨k + 1, by omega, by go_num, HX.out.trans HW.out⟩
              case measure => simp [intOf]; omega
          · obtain rfl : k = 16 := by omega
            have hlt' : ¬ ((16 : Nat) : Int) < 16 := by omega
            have HA9 := Lib.hid (HA.out.ext HX.out)
            have HB9 := Lib.hid (HB.out.ext HX.out)
            have HC9 := Lib.hid (HC.out.ext HX.out)
            have HO9 := Lib.hid (HO.out.ext HX.out)
            have G19 := Lib.hid (G1.out.ext HX.out)
            have HX10 := Lib.hid (HX9.out.trans HX.out)
            clear HA HB HC HO G1 G2 G3 HX HX9
            have HA := HA9
            have HB := HB9
            have HC := HC9
            have HO := HO9
            have G1 := G19
            clear HA9 HB9 HC9 HO9 G19
            go_upto_region 13 with fail
            apply wp_region_mid 40 (.det _ :: .det _ :: .det _ :: .det _ :: .det _ :: .det _ :: .det _ :: .det _ :: .det _ :: .det _ :: .det _ :: .det _ :: .det _ :: .det _ :: .det _ :: .det _ :: .det _ :: .det _ :: .det _ :: .det _ :: .det _ :: .det _ :: .det _ :: .det _ :: .det _ :: .det _ :: .det _ :: .det _ :: .det _ :: .det _ :: .det _ :: .det _ :: .det _ :: .det _ :: .det _ :: .det _ :: .det _ :: .det _ :: .det _ :: .det _ :: []) (by kernel_rfl) rfl (by kernel_rfl)
            · skip
              refine wpE_run rfl rfl (by simp) (fun w' hx' _ K hK => wp_loadA 23 _ rfl _ 0 16 rfl agg23 sz23 _ _ (G1.out.ext hx') (by simp [row_size]) (row 16 (tmsB x y)) (row_whole _ _) (hK _ (Ext.refl _))) ?_
              simp only [put_lit, List.set_cons_succ, List.set_cons_zero]
              refine wpE_run rfl rfl (by simp) (fun w' hx' _ K hK => wp_loadA 23 _ rfl _ 0 16 rfl agg23 sz23 _ _ (HB.out.ext hx') (by simp [row_size]) (row 16 y) (row_whole _ _) (hK _ (Ext.refl _))) ?_
              simp only [put_lit, List.set_cons_succ, List.set_cons_zero]
              refine wpE_run rfl rfl (by simp) (fun w' hx' _ K hK => wp_loadA 23 _ rfl _ 0 16 rfl agg23 sz23 _ _ (HA.out.ext hx') (by simp [row_size]) (row 16 x) (row_whole _ _) (hK _ (Ext.refl _))) ?_
              simp only [put_lit, List.set_cons_succ, List.set_cons_zero]
              refine wpE_run rfl rfl (by simp) (fun w1 hx1 _ K9 hK9 => by go_wp2_with (go_at_call 32; refine (times32_any y x (HYL.out) (HXL.out) _).mono ?_; rintro e w2 ⟨rfl, hx2⟩; exact hK9 _ hx2)) ?_
              simp only [put_lit, List.set_cons_succ, List.set_cons_zero]
              refine wpE_eql23 rfl (.tmp 53) (.tmp 56) rfl (tmsB x y) (tmsB y x) rfl rfl ?_
              simp only [put_lit, List.set_cons_succ, List.set_cons_zero]
              rw [E1.out]
              (first | (refine wpE_move rfl rfl rfl ?_; simp only [put_lit, eval_lit, BigFrame.eval_const, List.set_cons_succ, List.set_cons_zero, List.getD_cons_succ, List.getD_cons_zero]) | (refine wpE_run rfl rfl (by simp) (fun w1 hx1 _ K hK => by go_step; exact hK _ (Ext.refl _)) ?_; simp only [put_lit, List.set_cons_succ, List.set_cons_zero]))
              refine wpE_run rfl rfl (by simp) (fun w' hx' _ K hK => wp_loadA 23 _ rfl _ 0 16 rfl agg23 sz23 _ _ (G1.out.ext hx') (by simp [row_size]) (row 16 (tmsB x y)) (row_whole _ _) (hK _ (Ext.refl _))) ?_
              simp only [put_lit, List.set_cons_succ, List.set_cons_zero]
              refine wpE_run rfl rfl (by simp) (fun w' hx' _ K hK => wp_loadA 23 _ rfl _ 0 16 rfl agg23 sz23 _ _ (HC.out.ext hx') (by simp [row_size]) (row 16 z) (row_whole _ _) (hK _ (Ext.refl _))) ?_
              simp only [put_lit, List.set_cons_succ, List.set_cons_zero]
              refine wpE_run rfl rfl (by simp) (fun w1 hx1 _ K9 hK9 => by go_wp2_with (go_at_call 32; refine (times32_any (tmsB x y) z (fun j _ => byP_lt _ j) (HZL.out) _).mono ?_; rintro e w2 ⟨rfl, hx2⟩; exact hK9 _ hx2)) ?_
              simp only [put_lit, List.set_cons_succ, List.set_cons_zero]
              refine wpE_run rfl rfl (by simp) (fun w' hx' _ K hK => wp_loadA 23 _ rfl _ 0 16 rfl agg23 sz23 _ _ (HA.out.ext hx') (by simp [row_size]) (row 16 x) (row_whole _ _) (hK _ (Ext.refl _))) ?_
              simp only [put_lit, List.set_cons_succ, List.set_cons_zero]
              refine wpE_run rfl rfl (by simp) (fun w' hx' _ K hK => wp_loadA 23 _ rfl _ 0 16 rfl agg23 sz23 _ _ (HB.out.ext hx') (by simp [row_size]) (row 16 y) (row_whole _ _) (hK _ (Ext.refl _))) ?_
              simp only [put_lit, List.set_cons_succ, List.set_cons_zero]
              refine wpE_run rfl rfl (by simp) (fun w' hx' _ K hK => wp_loadA 23 _ rfl _ 0 16 rfl agg23 sz23 _ _ (HC.out.ext hx') (by simp [row_size]) (row 16 z) (row_whole _ _) (hK _ (Ext.refl _))) ?_
              simp only [put_lit, List.set_cons_succ, List.set_cons_zero]
              refine wpE_run rfl rfl (by simp) (fun w1 hx1 _ K9 hK9 => by go_wp2_with (go_at_call 32; refine (times32_any y z (HYL.out) (HZL.out) _).mono ?_; rintro e w2 ⟨rfl, hx2⟩; exact hK9 _ hx2)) ?_
              simp only [put_lit, List.set_cons_succ, List.set_cons_zero]
              refine wpE_run rfl rfl (by simp) (fun w1 hx1 _ K9 hK9 => by go_wp2_with (go_at_call 32; refine (times32_any x (tmsB y z) (HXL.out) (fun j _ => byP_lt _ j) _).mono ?_; rintro e w2 ⟨rfl, hx2⟩; exact hK9 _ hx2)) ?_
              simp only [put_lit, List.set_cons_succ, List.set_cons_zero]
              refine wpE_eql23 rfl (.tmp 61) (.tmp 66) rfl (tmsB (tmsB x y) z) (tmsB x (tmsB y z)) rfl rfl ?_
              simp only [put_lit, List.set_cons_succ, List.set_cons_zero]
              rw [E2.out]
              (first | (refine wpE_move rfl rfl rfl ?_; simp only [put_lit, eval_lit, BigFrame.eval_const, List.set_cons_succ, List.set_cons_zero, List.getD_cons_succ, List.getD_cons_zero]) | (refine wpE_run rfl rfl (by simp) (fun w1 hx1 _ K hK => by go_step; exact hK _ (Ext.refl _)) ?_; simp only [put_lit, List.set_cons_succ, List.set_cons_zero]))
              (first | (refine wpE_move rfl rfl rfl ?_; simp only [put_lit, eval_lit, BigFrame.eval_const, List.set_cons_succ, List.set_cons_zero, List.getD_cons_succ, List.getD_cons_zero]) | (refine wpE_run rfl rfl (by simp) (fun w1 hx1 _ K hK => by go_step; exact hK _ (Ext.refl _)) ?_; simp only [put_lit, List.set_cons_succ, List.set_cons_zero]))
              refine wpE_run rfl rfl (by simp) (fun w' hx' _ K hK => wp_loadA 23 _ rfl _ 0 16 rfl agg23 sz23 _ _ (HA.out.ext hx') (by simp [row_size]) (row 16 x) (row_whole _ _) (hK _ (Ext.refl _))) ?_
              simp only [put_lit, List.set_cons_succ, List.set_cons_zero]
              refine wpE_run rfl rfl (by simp) (fun w' hx' _ K hK => wp_loadA 23 _ rfl _ 0 16 rfl agg23 sz23 _ _ (HO.out.ext hx') (by simp [row_size]) (row 16 oneF) (row_whole _ _) (hK _ (Ext.refl _))) ?_
              simp only [put_lit, List.set_cons_succ, List.set_cons_zero]
              refine wpE_run rfl rfl (by simp) (fun w1 hx1 _ K9 hK9 => by go_wp2_with (go_at_call 32; refine (times32_any x oneF (HXL.out) (fun j _ => oneF_lt j) _).mono ?_; rintro e w2 ⟨rfl, hx2⟩; exact hK9 _ hx2)) ?_
              simp only [put_lit, List.set_cons_succ, List.set_cons_zero]
              refine wpE_run rfl rfl (by simp) (fun w' hx' _ K hK => wp_loadA 23 _ rfl _ 0 16 rfl agg23 sz23 _ _ (HA.out.ext hx') (by simp [row_size]) (row 16 x) (row_whole _ _) (hK _ (Ext.refl _))) ?_
              simp only [put_lit, List.set_cons_succ, List.set_cons_zero]
              refine wpE_eql23 rfl (.tmp 72) (.tmp 73) rfl (tmsB x oneF) x rfl rfl ?_
              simp only [put_lit, List.set_cons_succ, List.set_cons_zero]
              rw [E3.out]
              (first | (refine wpE_move rfl rfl rfl ?_; simp only [put_lit, eval_lit, BigFrame.eval_const, List.set_cons_succ, List.set_cons_zero, List.getD_cons_succ, List.getD_cons_zero]) | (refine wpE_run rfl rfl (by simp) (fun w1 hx1 _ K hK => by go_step; exact hK _ (Ext.refl _)) ?_; simp only [put_lit, List.set_cons_succ, List.set_cons_zero]))
              (first | (refine wpE_move rfl rfl rfl ?_; simp only [put_lit, eval_lit, BigFrame.eval_const, List.set_cons_succ, List.set_cons_zero, List.getD_cons_succ, List.getD_cons_zero]) | (refine wpE_run rfl rfl (by simp) (fun w1 hx1 _ K hK => by go_step; exact hK _ (Ext.refl _)) ?_; simp only [put_lit, List.set_cons_succ, List.set_cons_zero]))
              refine wpE_run rfl rfl (by simp) (fun w' hx' _ K hK => wp_loadA 23 _ rfl _ 0 16 rfl agg23 sz23 _ _ (HO.out.ext hx') (by simp [row_size]) (row 16 oneF) (row_whole _ _) (hK _ (Ext.refl _))) ?_
              simp only [put_lit, List.set_cons_succ, List.set_cons_zero]
              refine wpE_run rfl rfl (by simp) (fun w' hx' _ K hK => wp_loadA 23 _ rfl _ 0 16 rfl agg23 sz23 _ _ (HB.out.ext hx') (by simp [row_size]) (row 16 y) (row_whole _ _) (hK _ (Ext.refl _))) ?_
              simp only [put_lit, List.set_cons_succ, List.set_cons_zero]
              refine wpE_run rfl rfl (by simp) (fun w1 hx1 _ K9 hK9 => by go_wp2_with (go_at_call 32; refine (times32_any oneF y (fun j _ => oneF_lt j) (HYL.out) _).mono ?_; rintro e w2 ⟨rfl, hx2⟩; exact hK9 _ hx2)) ?_
              simp only [put_lit, List.set_cons_succ, List.set_cons_zero]
              refine wpE_run rfl rfl (by simp) (fun w' hx' _ K hK => wp_loadA 23 _ rfl _ 0 16 rfl agg23 sz23 _ _ (HB.out.ext hx') (by simp [row_size]) (row 16 y) (row_whole _ _) (hK _ (Ext.refl _))) ?_
              simp only [put_lit, List.set_cons_succ, List.set_cons_zero]
              refine wpE_eql23 rfl (.tmp 79) (.tmp 80) rfl (tmsB oneF y) y rfl rfl ?_
              simp only [put_lit, List.set_cons_succ, List.set_cons_zero]
              rw [E4.out]
              (first | (refine wpE_move rfl rfl rfl ?_; simp only [put_lit, eval_lit, BigFrame.eval_const, List.set_cons_succ, List.set_cons_zero, List.getD_cons_succ, List.getD_cons_zero]) | (refine wpE_run rfl rfl (by simp) (fun w1 hx1 _ K hK => by go_step; exact hK _ (Ext.refl _)) ?_; simp only [put_lit, List.set_cons_succ, List.set_cons_zero]))
              (first | (refine wpE_move rfl rfl rfl ?_; simp only [put_lit, eval_lit, BigFrame.eval_const, List.set_cons_succ, List.set_cons_zero, List.getD_cons_succ, List.getD_cons_zero]) | (refine wpE_run rfl rfl (by simp) (fun w1 hx1 _ K hK => by go_step; exact hK _ (Ext.refl _)) ?_; simp only [put_lit, List.set_cons_succ, List.set_cons_zero]))
              refine wpE_run rfl rfl (by simp) (fun w' hx' _ K hK => wp_loadA 23 _ rfl _ 0 16 rfl agg23 sz23 _ _ (HA.out.ext hx') (by simp [row_size]) (row 16 x) (row_whole _ _) (hK _ (Ext.refl _))) ?_
              simp only [put_lit, List.set_cons_succ, List.set_cons_zero]
              refine wpE_run rfl rfl (by simp) (fun w1 hx1 _ K hK => by have hz := run_build23z8 w1; go_step; exact hK _ (Ext.refl _)) ?_
              simp only [put_lit, List.set_cons_succ, List.set_cons_zero]
              refine wpE_run rfl rfl (by simp) (fun w1 hx1 _ K9 hK9 => by go_wp2_with (go_at_call 32; refine (times32_any x (fun _ => 0) (HXL.out) (fun _ _ => by omega) _).mono ?_; rintro e w2 ⟨rfl, hx2⟩; exact hK9 _ hx2)) ?_
              simp only [put_lit, List.set_cons_succ, List.set_cons_zero]
              refine wpE_run rfl rfl (by simp) (fun w1 hx1 _ K hK => by have hz := run_build23z8 w1; go_step; exact hK _ (Ext.refl _)) ?_
              simp only [put_lit, List.set_cons_succ, List.set_cons_zero]
              refine wpE_eql23 rfl (.tmp 86) (.tmp 87) rfl (tmsB x fun _ => 0) (fun _ => 0) rfl rfl ?_
              simp only [put_lit, List.set_cons_succ, List.set_cons_zero]
              rw [E5.out]
              (first | (refine wpE_move rfl rfl rfl ?_; simp only [put_lit, eval_lit, BigFrame.eval_const, List.set_cons_succ, List.set_cons_zero, List.getD_cons_succ, List.getD_cons_zero]) | (refine wpE_run rfl rfl (by simp) (fun w1 hx1 _ K hK => by go_step; exact hK _ (Ext.refl _)) ?_; simp only [put_lit, List.set_cons_succ, List.set_cons_zero]))
              (first | (refine wpE_move rfl rfl rfl ?_; simp only [put_lit, eval_lit, BigFrame.eval_const, List.set_cons_succ, List.set_cons_zero, List.getD_cons_succ, List.getD_cons_zero]) | (refine wpE_run rfl rfl (by simp) (fun w1 hx1 _ K hK => by go_step; exact hK _ (Ext.refl _)) ?_; simp only [put_lit, List.set_cons_succ, List.set_cons_zero]))
              refine wpE_run rfl rfl (by simp) (fun w1 hx1 _ K9 hK9 => by go_wp2_with (go_at_call 34; refine (works34_any _).mono ?_; rintro e w2 ⟨rfl, hx2⟩; exact hK9 _ hx2)) ?_
              simp only [put_lit, List.set_cons_succ, List.set_cons_zero]
              (first | (refine wpE_move rfl rfl rfl ?_; simp only [put_lit, eval_lit, BigFrame.eval_const, List.set_cons_succ, List.set_cons_zero, List.getD_cons_succ, List.getD_cons_zero]) | (refine wpE_run rfl rfl (by simp) (fun w1 hx1 _ K hK => by go_step; exact hK _ (Ext.refl _)) ?_; simp only [put_lit, List.set_cons_succ, List.set_cons_zero]))
              (refine wpE_nil ?_; intro w2 hw2 hF; simp only [List.drop_succ_cons, List.drop_zero])
              have HX11 := Lib.hid (HX10.out.trans hw2)
              clear hF hw2
              go_wp2_with fail
              go_ret
              exact ⟨rfl, HX11.out⟩
end Go.Proofs.Ytnigpobbckampaa
