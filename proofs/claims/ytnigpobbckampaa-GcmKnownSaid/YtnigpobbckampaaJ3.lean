/- GcmBack, walked. -/
import Derived.Test.YtnigpobbckampaaZ6
import Derived.Test.YtnigpobbckampaaZ2
import Derived.Test.YtnigpobbckampaaL
namespace Go.Proofs.Ytnigpobbckampaa
open Go.RowKit
set_option linter.unusedSimpArgs false
set_option linter.unusedVariables false

set_option maxRecDepth 100000 in
set_option maxHeartbeats 1000000 in
theorem gcmback_any (v : Value) (n : Nat) (f X : Nat → Nat) (u t : Value) (m : Nat) (g : Nat → Nat) (l : Nat) (e : Nat → Nat) (w : World) (hn : n ≤ 9223372036854775807) (hv : RdF w v n f) (hX : ∀ j, j < 12 → X j < 256)
    (hm : m ≤ 9223372036854775807) (hu : RdF w u m g) (hl : l ≤ 9223372036854775807) (ht : RdF w t l e) :
    Calls Try.prog 14 #[v, .agg (row 12 X), .agg #[u, t]] w fun e w' => e = .returned (.bool true) ∧ Ext w w' := by
  obtain ⟨uo, uc, rfl, huc⟩ := hu.len
  obtain ⟨so, tc, rfl, htc⟩ := ht.len
  have HV := Lib.hid hv
  have HU := Lib.hid hu
  have HT := Lib.hid ht
  clear hv hu ht
  go_enter Try.func14, Try.ntmps14
  go_upto_region 1 with (first | (refine wl_boxA rfl 55 _ rfl _ rfl ?_) | (refine wl_boxA rfl 56 _ rfl _ rfl ?_))
  have hB : Blk ((w.alloc (.cells (row 12 X) 55)).alloc (.cells #[.slice uo m uc, .slice so l tc] 56)) w.heap.size 55 (row 12 X) := (Blk.new w _ _).alloc _
  have hA : Blk ((w.alloc (.cells (row 12 X) 55)).alloc (.cells #[.slice uo m uc, .slice so l tc] 56)) (w.heap.size + 1) 56 #[.slice uo m uc, .slice so l tc] := by
    have := Blk.new (w.alloc (.cells (row 12 X) 55)) 56 #[.slice uo m uc, .slice so l tc]
    simpa only [World.size_alloc] using this
  have hx : Ext w ((w.alloc (.cells (row 12 X) 55)).alloc (.cells #[.slice uo m uc, .slice so l tc] 56)) := (Ext.alloc _ _).trans (Ext.alloc _ _)
  try simp only [put_lit, put_nil7, List.set_cons_succ, List.set_cons_zero, World.size_alloc]
  generalize (w.alloc (.cells (row 12 X) 55)).alloc (.cells #[.slice uo m uc, .slice so l tc] 56) = w1 at hB hA hx ⊢
  have hc0 : w1.cell? ⟨w.heap.size + 1, 0, none⟩ = some (.slice uo m uc) := (hA.cell 0).trans rfl
  have hc1 : w1.cell? ⟨w.heap.size + 1, 1, none⟩ = some (.slice so l tc) := (hA.cell 1).trans rfl
  have HB := Lib.hid hB
  have HX := Lib.hid hx
  clear hB hA hx
  obtain ⟨p, hp⟩ : ∃ p, p = min m 500 := ⟨_, rfl⟩
  obtain ⟨q, hq⟩ : ∃ q, q = min l 500 := ⟨_, rfl⟩
  have hpm : p ≤ m := by omega
  have hp5 : p ≤ 500 := by omega
  have hql : q ≤ l := by omega
  have hq5 : q ≤ 500 := by omega
  have e1 : (if 500 < (m : Int) then 500 else (m : Int)) = (p : Int) := by split <;> omega
  have e2 : (if 500 < (l : Int) then 500 else (l : Int)) = (q : Int) := by split <;> omega
  have E1 := Lib.hid e1
  have E2 := Lib.hid e2
  clear hp hq e1 e2
  apply wp_region_mid 16 [.det _, .det _, .det _, .det _, .det _, .det _, .det _, .det _, .det _, .det _, .det _, .det _, .det _, .det _, .det _, .det _] (by kernel_rfl) rfl (by kernel_rfl)
  · (first | (refine wpE_move rfl rfl rfl ?_; simp only [put_lit, eval_lit, BigFrame.eval_const, List.set_cons_succ, List.set_cons_zero, List.getD_cons_succ, List.getD_cons_zero]) | (refine wpE_run rfl rfl (by simp) (fun w1 hx1 _ K hK => by go_step; exact hK _ (Ext.refl _)) ?_; simp only [put_lit, List.set_cons_succ, List.set_cons_zero]))
    (refine wpE_run rfl rfl (by simp) (fun w1 hx1 _ K hK => by have hc := hx1.cell hc0; go_step; exact hK _ (Ext.refl _)) ?_); simp only [put_lit, List.set_cons_succ, List.set_cons_zero]
    (first | (refine wpE_move rfl rfl rfl ?_; simp only [put_lit, eval_lit, BigFrame.eval_const, List.set_cons_succ, List.set_cons_zero, List.getD_cons_succ, List.getD_cons_zero]) | (refine wpE_run rfl rfl (by simp) (fun w1 hx1 _ K hK => by go_step; exact hK _ (Ext.refl _)) ?_; simp only [put_lit, List.set_cons_succ, List.set_cons_zero]))
    (refine wpE_run rfl rfl (by simp) (fun w1 hx1 _ K hK => by have hc := hx1.cell hc0; go_step; exact hK _ (Ext.refl _)) ?_); simp only [put_lit, List.set_cons_succ, List.set_cons_zero]
    (first | (refine wpE_move rfl rfl rfl ?_; simp only [put_lit, eval_lit, BigFrame.eval_const, List.set_cons_succ, List.set_cons_zero, List.getD_cons_succ, List.getD_cons_zero]) | (refine wpE_run rfl rfl (by simp) (fun w1 hx1 _ K hK => by go_step; exact hK _ (Ext.refl _)) ?_; simp only [put_lit, List.set_cons_succ, List.set_cons_zero]))
    (first | (refine wpE_move rfl rfl rfl ?_; simp only [put_lit, eval_lit, BigFrame.eval_const, List.set_cons_succ, List.set_cons_zero, List.getD_cons_succ, List.getD_cons_zero]) | (refine wpE_run rfl rfl (by simp) (fun w1 hx1 _ K hK => by go_step; exact hK _ (Ext.refl _)) ?_; simp only [put_lit, List.set_cons_succ, List.set_cons_zero]))
    rw [E1.out]
    (first | (refine wpE_move rfl rfl rfl ?_; simp only [put_lit, eval_lit, BigFrame.eval_const, List.set_cons_succ, List.set_cons_zero, List.getD_cons_succ, List.getD_cons_zero]) | (refine wpE_run rfl rfl (by simp) (fun w1 hx1 _ K hK => by go_step; exact hK _ (Ext.refl _)) ?_; simp only [put_lit, List.set_cons_succ, List.set_cons_zero]))
    (first | (refine wpE_move rfl rfl rfl ?_; simp only [put_lit, eval_lit, BigFrame.eval_const, List.set_cons_succ, List.set_cons_zero, List.getD_cons_succ, List.getD_cons_zero]) | (refine wpE_run rfl rfl (by simp) (fun w1 hx1 _ K hK => by go_step; exact hK _ (Ext.refl _)) ?_; simp only [put_lit, List.set_cons_succ, List.set_cons_zero]))
    (refine wpE_run rfl rfl (by simp) (fun w1 hx1 _ K hK => by have hc := hx1.cell hc1; go_step; exact hK _ (Ext.refl _)) ?_); simp only [put_lit, List.set_cons_succ, List.set_cons_zero]
    (first | (refine wpE_move rfl rfl rfl ?_; simp only [put_lit, eval_lit, BigFrame.eval_const, List.set_cons_succ, List.set_cons_zero, List.getD_cons_succ, List.getD_cons_zero]) | (refine wpE_run rfl rfl (by simp) (fun w1 hx1 _ K hK => by go_step; exact hK _ (Ext.refl _)) ?_; simp only [put_lit, List.set_cons_succ, List.set_cons_zero]))
    (refine wpE_run rfl rfl (by simp) (fun w1 hx1 _ K hK => by have hc := hx1.cell hc1; go_step; exact hK _ (Ext.refl _)) ?_); simp only [put_lit, List.set_cons_succ, List.set_cons_zero]
    (first | (refine wpE_move rfl rfl rfl ?_; simp only [put_lit, eval_lit, BigFrame.eval_const, List.set_cons_succ, List.set_cons_zero, List.getD_cons_succ, List.getD_cons_zero]) | (refine wpE_run rfl rfl (by simp) (fun w1 hx1 _ K hK => by go_step; exact hK _ (Ext.refl _)) ?_; simp only [put_lit, List.set_cons_succ, List.set_cons_zero]))
    (first | (refine wpE_move rfl rfl rfl ?_; simp only [put_lit, eval_lit, BigFrame.eval_const, List.set_cons_succ, List.set_cons_zero, List.getD_cons_succ, List.getD_cons_zero]) | (refine wpE_run rfl rfl (by simp) (fun w1 hx1 _ K hK => by go_step; exact hK _ (Ext.refl _)) ?_; simp only [put_lit, List.set_cons_succ, List.set_cons_zero]))
    rw [E2.out]
    (first | (refine wpE_move rfl rfl rfl ?_; simp only [put_lit, eval_lit, BigFrame.eval_const, List.set_cons_succ, List.set_cons_zero, List.getD_cons_succ, List.getD_cons_zero]) | (refine wpE_run rfl rfl (by simp) (fun w1 hx1 _ K hK => by go_step; exact hK _ (Ext.refl _)) ?_; simp only [put_lit, List.set_cons_succ, List.set_cons_zero]))
    (first | (refine wpE_move rfl rfl rfl ?_; simp only [put_lit, eval_lit, BigFrame.eval_const, List.set_cons_succ, List.set_cons_zero, List.getD_cons_succ, List.getD_cons_zero]) | (refine wpE_run rfl rfl (by simp) (fun w1 hx1 _ K hK => by go_step; exact hK _ (Ext.refl _)) ?_; simp only [put_lit, List.set_cons_succ, List.set_cons_zero]))
    (first | (refine wpE_move rfl rfl rfl ?_; simp only [put_lit, eval_lit, BigFrame.eval_const, List.set_cons_succ, List.set_cons_zero, List.getD_cons_succ, List.getD_cons_zero]) | (refine wpE_run rfl rfl (by simp) (fun w1 hx1 _ K hK => by go_step; exact hK _ (Ext.refl _)) ?_; simp only [put_lit, List.set_cons_succ, List.set_cons_zero]))
    refine wpE_nil ?_
    intro w2 hw2 hF
    simp only [List.drop_succ_cons, List.drop_zero]
    clear hF
    have HB2 := Lib.hid (HB.out.ext hw2)
    have HX2 := Lib.hid (HX.out.trans hw2)
    have HP := Lib.hid (HU.out.head p hpm)
    have HQ := Lib.hid (HT.out.head q hql)
    clear hw2 hc0 hc1 HB HX HU HT E1 E2
    go_wp2_with fail
    refine (key38_any v n f _ hn (HV.out.ext HX2.out)).mono ?_
    rintro e3 w3 ⟨v3, rfl, ho3, hx3⟩
    have HO3 := Lib.hid ho3.rd
    have HX3 := Lib.hid (HX2.out.trans hx3)
    have HB3 := Lib.hid (HB2.out.ext hx3)
    clear ho3 hx3 HB2 HX2
    go_wp2_with fail
    refine (newk19_any v3 n _ _ HO3.out).mono ?_
    rintro e4 w4 ⟨b, rfl, hC, hx4⟩
    have HC4 := Lib.hid hC
    have HX4 := Lib.hid (HX3.out.trans hx4)
    have HB4 := Lib.hid (HB3.out.ext hx4)
    clear hC hx4 HB3 HX3 HO3
    go_wp2_with (refine wl_loadA rfl 55 _ rfl _ 0 12 rfl agg55 sz55 _ _ HB4.out (by simp [row_size]) (row 12 X) (row_whole _ _) ?_)
    refine (seal39_any _ _ p q b (Kn n) g e X (ksn n (keyF n f)) _ (by omega) (by omega) (HP.out.ext HX4.out) (HQ.out.ext HX4.out) hX HC4.out (Kn_ge n) (Kn_le n)).mono ?_
    rintro e5 w5 ⟨v5, rfl, ho5, hx5⟩
    obtain ⟨ro, rc, rfl, hrc⟩ := ho5.rd.len
    have HO5 := Lib.hid ho5.rd
    have HX5 := Lib.hid (HX4.out.trans hx5)
    have HB5 := Lib.hid (HB4.out.ext hx5)
    have HC5 := Lib.hid (HC4.out.ext hx5)
    clear ho5 hx5 HB4 HX4 HC4
    go_wp2_with (refine wl_loadA rfl 55 _ rfl _ 0 12 rfl agg55 sz55 _ _ HB5.out (by simp [row_size]) (row 12 X) (row_whole _ _) ?_)
    refine (opened42_any _ _ p q b (Kn n) g e X (ksn n (keyF n f)) _ (by omega) (by omega) HO5.out (HQ.out.ext HX5.out) hX HC5.out (Kn_ge n) (Kn_le n)).mono ?_
    rintro e6 w6 ⟨v6, rfl, ho6, hx6⟩
    have HO6 := Lib.hid ho6.rd
    have HX6 := Lib.hid (HX5.out.trans hx6)
    clear ho6 hx6 HB5 HX5 HC5
    have hlen : ((p + 16 : Nat) : Int) = (p : Int) + 16 := by omega
    go_wp2_with fail
    refine (eqb41_any _ _ p p _ _ _ HO6.out (HP.out.ext HX6.out)).mono ?_
    rintro e7 w7 ⟨rfl, hx7⟩
    rw [eqU_true rfl (fun _ _ => rfl)]
    have HX7 := Lib.hid (HX6.out.trans hx7)
    clear hx7
    go_wp2_with fail
    refine (works34_any _).mono ?_
    rintro e8 w8 ⟨rfl, hx8⟩
    have HX8 := Lib.hid (HX7.out.trans hx8)
    clear hx8
    go_wp2_with fail
    go_ret
    exact ⟨rfl, HX8.out⟩
end Go.Proofs.Ytnigpobbckampaa
