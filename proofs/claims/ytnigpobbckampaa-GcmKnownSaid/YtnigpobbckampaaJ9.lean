/- GcmSeals, walked. -/
import Derived.Test.YtnigpobbckampaaJ2
import Derived.Test.YtnigpobbckampaaJ8
import Derived.Test.YtnigpobbckampaaZ6
import Derived.Test.YtnigpobbckampaaZ2
import Derived.Test.YtnigpobbckampaaP9
namespace Go.Proofs.Ytnigpobbckampaa
open Go.RowKit
set_option linter.unusedSimpArgs false
set_option linter.unusedVariables false

theorem OwnF.otherCell {w : World} {b : Nat} {v : Value} {n : Nat} {f : Nat → Nat} (h : OwnF w b v n f) {g j : Nat} (u : Value) (hg : g < b) : OwnF (w.setCell ⟨g, j, none⟩ u) b v n f := by
  rcases h with h | ⟨g', off, cap, t, cur, hv, hb, hB, rest⟩
  · exact .inl h
  · exact .inr ⟨g', off, cap, t, cur, hv, hb, hB.other _ (by simp; omega), rest⟩

set_option maxRecDepth 100000 in
set_option maxHeartbeats 1000000 in
theorem gcmseals_any (v : Value) (n : Nat) (f X : Nat → Nat) (u t : Value) (m : Nat) (g : Nat → Nat) (l : Nat) (e : Nat → Nat) (w : World) (hn : n ≤ 9223372036854775807) (hv : RdF w v n f) (hX : ∀ j, j < 12 → X j < 256)
    (hm : m ≤ 9223372036854775807) (hu : RdF w u m g) (hl : l ≤ 9223372036854775807) (ht : RdF w t l e) :
    Calls Try.prog 12 #[v, .agg (row 12 X), .agg #[u, t]] w fun e w' => e = .returned (.bool true) ∧ Ext w w' := by
  obtain ⟨uo, uc, rfl, huc⟩ := hu.len
  obtain ⟨so, tc, rfl, htc⟩ := ht.len
  have HV := Lib.hid hv
  have HU := Lib.hid hu
  have HT := Lib.hid ht
  have HKF := Lib.hid (keyF_lt hv.lt (16 + 16 * (n % 2)))
  clear hv hu ht
  go_enter Try.func12, Try.ntmps12
  go_upto_region 1 with (first | (refine wl_boxA rfl 55 _ rfl _ rfl ?_) | (refine wl_boxA rfl 56 _ rfl _ rfl ?_))
  have hB : Blk ((w.alloc (.cells (row 12 X) 55)).alloc (.cells #[.slice uo m uc, .slice so l tc] 56)) w.heap.size 55 (row 12 X) := (Blk.new w _ _).alloc _
  have hA : Blk ((w.alloc (.cells (row 12 X) 55)).alloc (.cells #[.slice uo m uc, .slice so l tc] 56)) (w.heap.size + 1) 56 #[.slice uo m uc, .slice so l tc] := by
    have := Blk.new (w.alloc (.cells (row 12 X) 55)) 56 #[.slice uo m uc, .slice so l tc]
    simpa only [World.size_alloc] using this
  have hx : Ext w ((w.alloc (.cells (row 12 X) 55)).alloc (.cells #[.slice uo m uc, .slice so l tc] 56)) := (Ext.alloc _ _).trans (Ext.alloc _ _)
  try simp only [put_lit, put_nil7, List.set_cons_succ, List.set_cons_zero, World.size_alloc]
  generalize (w.alloc (.cells (row 12 X) 55)).alloc (.cells #[.slice uo m uc, .slice so l tc] 56) = w1 at hB hA hx ⊢
  have hc0 : w1.cell? ⟨w.heap.size + 1, 0, none⟩ = some (.slice uo m uc) := (hA.cell 0).trans rfl
  have hc1 : w1.cell? ⟨w.heap.size + 1, 1, none⟩ = some (.slice so l tc) := (hA.cell 1).trans rfl
  have HB := Lib.hid hB
  have HX := Lib.hid hx
  clear hB hA hx
  obtain ⟨p, hp⟩ : ∃ p, p = min m 300 := ⟨_, rfl⟩
  obtain ⟨q, hq⟩ : ∃ q, q = min l 300 := ⟨_, rfl⟩
  have hpm : p ≤ m := by omega
  have hp5 : p ≤ 300 := by omega
  have hql : q ≤ l := by omega
  have hq5 : q ≤ 300 := by omega
  have e1 : (if 300 < (m : Int) then 300 else (m : Int)) = (p : Int) := by split <;> omega
  have e2 : (if 300 < (l : Int) then 300 else (l : Int)) = (q : Int) := by split <;> omega
  have E1 := Lib.hid e1
  have E2 := Lib.hid e2
  clear hp hq e1 e2
  apply wp_region_mid 16 [.det _, .det _, .det _, .det _, .det _, .det _, .det _, .det _, .det _, .det _, .det _, .det _, .det _, .det _, .det _, .det _] (by kernel_rfl) rfl (by kernel_rfl)
  · (first | (refine wpE_move rfl rfl rfl ?_; simp only [put_lit, eval_lit, BigFrame.eval_const, List.set_cons_succ, List.set_cons_zero, List.getD_cons_succ, List.getD_cons_zero]) | (refine wpE_run rfl rfl (by simp) (fun w1 hx1 _ K hK => by go_step; exact hK _ (Ext.refl _)) ?_; simp only [put_lit, List.set_cons_succ, List.set_cons_zero]))
    (refine wpE_run rfl rfl (by simp) (fun w1 hx1 _ K hK => by have hc := hx1.cell hc0; go_step; exact hK _ (Ext.refl _)) ?_); simp only [put_lit, List.set_cons_succ, List.set_cons_zero]
    (first | (refine wpE_move rfl rfl rfl ?_; simp only [put_lit, eval_lit, BigFrame.eval_const, List.set_cons_succ, List.set_cons_zero, List.getD_cons_succ, List.getD_cons_zero]) | (refine wpE_run rfl rfl (by simp) (fun w1 hx1 _ K hK => by go_step; exact hK _ (Ext.refl _)) ?_; simp only [put_lit, List.set_cons_succ, List.set_cons_zero]))
    (refine wpE_run rfl rfl (by simp) (fun w1 hx1 _ K hK => by have hc := hx1.cell hc0; go_step; exact hK _ (Ext.refl _)) ?_); simp only [put_lit, List.set_cons_succ, List.set_cons_zero]
    (first | (refine wpE_move rfl rfl rfl ?_; simp only [put_lit, eval_lit, BigFrame.eval_const, List.set_cons_succ, List.set_cons_zero, List.getD_cons_succ, List.getD_cons_zero]) | (refine wpE_run rfl rfl (by simp) (fun w1 hx1 _ K hK => by go_step; exact hK _ (Ext.refl _)) ?_; simp only [put_lit, List.set_cons_succ, List.set_cons_zero]))
    (first | (refine wpE_move rfl rfl rfl ?_; simp only [put_lit, eval_lit, BigFrame.eval_const, List.set_cons_succ, List.set_cons_zero, List.getD_cons_succ, List.getD_cons_zero]) | (refine wpE_run rfl rfl (by simp) (fun w1 hx1 _ K hK => by go_step; exact hK _ (Ext.refl _)) ?_; simp only [put_lit, List.set_cons_succ, List.set_cons_zero]))
    rw [E1.out]
    (first | (refine wpE_move rfl rfl rfl ?_; simp only [put_lit, eval_lit, BigFrame.eval_const, List.set_cons_succ, List.set_cons_zero, List.getD_cons_succ, List.getD_cons_zero]) | (refine wpE_run rfl rfl (by simp) (fun w1 hx1 _ K hK => by go_step; exact hK _ (Ext.refl _)) ?_; simp only [put_lit, List.set_cons_succ, List.set_cons_zero]))
    (first | (refine wpE_move rfl rfl rfl ?_; simp only [put_lit, eval_lit, BigFrame.eval_const, List.set_cons_succ, List.set_cons_zero, List.getD_cons_succ, List.getD_cons_zero]) | (refine wpE_run rfl rfl (by simp) (fun w1 hx1 _ K hK => by go_step; exact hK _ (Ext.refl _)) ?_; simp only [put_lit, List.set_cons_succ, List.set_cons_zero]))
    (refine wpE_run rfl rfl (by simp) (fun w1 hx1 _ K hK => by have hc := hx1.cell hc1; go_step; exact hK _ (Ext.refl _)) ?_); simp only [put_lit, List.set_cons_succ, List.set_cons_zero]
    (first | (refine wpE_move rfl rfl rfl ?_; simp only [put_lit, eval_lit, BigFrame.eval_const, List.set_cons_succ, List.set_cons_zero, List.getD_cons_succ, List.getD_cons_zero]) | (refine wpE_run rfl rfl (by simp) (fun w1 hx1 _ K hK => by go_step; exact hK _ (Ext.refl _)) ?_; simp only [put_lit, List.set_cons_succ, List.set_cons_zero]))
    (refine wpE_run rfl rfl (by simp) (fun w1 hx1 _ K hK => by have hc := hx1.cell hc1; go_step; exact hK _ (Ext.refl _)) ?_); simp only [put_lit, List.set_cons_succ, List.set_cons_zero]
    (first | (refine wpE_move rfl rfl rfl ?_; simp only [put_lit, eval_lit, BigFrame.eval_const, List.set_cons_succ, List.set_cons_zero, List.getD_cons_succ, List.getD_cons_zero]) | (refine wpE_run rfl rfl (by simp) (fun w1 hx1 _ K hK => by go_step; exact hK _ (Ext.refl _)) ?_; simp only [put_lit, List.set_cons_succ, List.set_cons_zero]))
    (first | (refine wpE_move rfl rfl rfl ?_; simp only [put_lit, eval_lit, BigFrame.eval_const, List.set_cons_succ, List.set_cons_zero, List.getD_cons_succ, List.getD_cons_zero]) | (refine wpE_run rfl rfl (by simp) (fun w1 hx1 _ K hK => by go_step; exact hK _ (Ext.refl _)) ?_; simp only [put_lit, List.set_cons_succ, List.set_cons_zero]))
    rw [E2.out]
    (first | (refine wpE_move rfl rfl rfl ?_; simp only [put_lit, eval_lit, BigFrame.eval_const, List.set_cons_succ, List.set_cons_zero, List.getD_cons_succ, List.getD_cons_zero]) | (refine wpE_run rfl rfl (by simp) (fun w1 hx1 _ K hK => by go_step; exact hK _ (Ext.refl _)) ?_; simp only [put_lit, List.set_cons_succ, List.set_cons_zero]))
    (first | (refine wpE_move rfl rfl rfl ?_; simp only [put_lit, eval_lit, BigFrame.eval_const, List.set_cons_succ, List.set_cons_zero, List.getD_cons_succ, List.getD_cons_zero]) | (refine wpE_run rfl rfl (by simp) (fun w1 hx1 _ K hK => by go_step; exact hK _ (Ext.refl _)) ?_; simp only [put_lit, List.set_cons_succ, List.set_cons_zero]))
    (first | (refine wpE_move rfl rfl rfl ?_; simp only [put_lit, eval_lit, BigFrame.eval_const, List.set_cons_succ, List.set_cons_zero, List.getD_cons_succ, List.getD_cons_zero]) | (refine wpE_run rfl rfl (by simp) (fun w1 hx1 _ K hK => by go_step; exact hK _ (Ext.refl _)) ?_; simp only [put_lit, List.set_cons_succ, List.set_cons_zero]))
    refine wpE_nil ?_
    intro w2 hw2 hF
    simp only [List.drop_succ_cons, List.drop_zero]
    clear hF
    have HB2 := Lib.hid (HB.out.ext hw2)
    have HX2 := Lib.hid (HX.out.trans hw2)
    have HP := Lib.hid (HU.out.head p hpm)
    have HQ := Lib.hid (HT.out.head q hql)
    clear hw2 hc0 hc1 HB HX HU HT E1 E2
    go_wp2_with fail
    refine (key38_any v n f _ hn (HV.out.ext HX2.out)).mono ?_
    rintro e3 w3 ⟨v3, rfl, ho3, hx3⟩
    have HO3 := Lib.hid ho3.rd
    have HX3 := Lib.hid (HX2.out.trans hx3)
    have HB3 := Lib.hid (HB2.out.ext hx3)
    clear ho3 hx3 HB2 HX2
    go_wp2_with fail
    refine (newk19_any v3 n _ _ HO3.out).mono ?_
    rintro e4 w4 ⟨b, rfl, hC, hx4⟩
    have HC4 := Lib.hid hC
    have HX4 := Lib.hid (HX3.out.trans hx4)
    have HB4 := Lib.hid (HB3.out.ext hx4)
    clear hC hx4 HB3 HX3 HO3
    go_wp2_with fail
    refine (key38_any v n f _ hn (HV.out.ext HX4.out)).mono ?_
    rintro e31 w31 ⟨v31, rfl, ho31, hx31⟩
    have HO31 := Lib.hid ho31.rd
    have HX31 := Lib.hid (HX4.out.trans hx31)
    have HY31 := Lib.hid hx31
    clear ho31 hx31 HX4
    go_wp2_with fail
    refine (newk20_any v31 n _ _ HO31.out).mono ?_
    rintro e5 w5 ⟨c, rfl, hD, hx5⟩
    have HD5 := Lib.hid hD
    have HC5 := Lib.hid (HC4.out.ext (HY31.out.trans hx5))
    have HB5 := Lib.hid (HB4.out.ext (HY31.out.trans hx5))
    have HX5 := Lib.hid (HX31.out.trans hx5)
    clear hD hx5 HX31 HY31 HB4 HC4 HO31
    go_wp2_with fail
    refine (copyT_any _ p g _ (by omega) (HP.out.ext HX5.out)).mono ?_
    rintro e6 w6 ⟨v6, rfl, ho6, hx6⟩
    obtain ⟨ko, kc, rfl, hkc⟩ := ho6.len
    have hgl : ∀ gi, ko = some ⟨gi, 0, none⟩ → gi < w6.heap.size := fun gi he => by
      rcases ho6 with ⟨h, _⟩ | ⟨g', cap', cur', hv', _, hB', _⟩
      · cases h; cases he
      · cases hv'; cases he; exact hB'.lt
    have HGL := Lib.hid hgl
    have HI6 := Lib.hid ho6
    have HY6 := Lib.hid hx6
    clear ho6 hx6 hgl
    go_wp2_with fail
    refine (copy_any _ q e _ (by omega) (HQ.out.ext (HX5.out.trans HY6.out))).mono ?_
    rintro e7 w7 ⟨v7, rfl, ho7, hx7⟩
    obtain ⟨oo, oc, rfl, hoc⟩ := ho7.rd.len
    have HO7 := Lib.hid ho7
    have HI7 := Lib.hid (HI6.out.ext hx7)
    have HY7 := Lib.hid (HY6.out.trans hx7)
    have hs7 := hx7.size
    clear ho7 hx7 HI6 HY6
    have HB7 := Lib.hid (HB5.out.ext HY7.out)
    go_wp2_with (refine wl_loadA rfl 55 _ rfl _ 0 12 rfl agg55 sz55 _ _ HB7.out (by simp [row_size]) (row 12 X) (row_whole _ _) ?_)
    refine (seal39_any _ _ p q b (Kn n) g e X (ksn n (keyF n f)) _ (by omega) (by omega) HI7.out.own.rd HO7.out.rd hX (HC5.out.ext HY7.out) (Kn_ge n) (Kn_le n)).mono ?_
    rintro e8 w8 ⟨v8, rfl, ho8, hx8⟩
    obtain ⟨ro, rc, rfl, hrc⟩ := ho8.rd.len
    have HA8 := Lib.hid ho8
    have HI8 := Lib.hid (HI7.out.ext hx8)
    have HO8 := Lib.hid (HO7.out.ext hx8)
    have HY8 := Lib.hid (HY7.out.trans hx8)
    have hs8 := hx8.size
    clear ho8 hx8 HI7 HO7 HY7 HB7
    have HB8 := Lib.hid (HB5.out.ext HY8.out)
    go_wp2_with (refine wl_loadA rfl 55 _ rfl _ 0 12 rfl agg55 sz55 _ _ HB8.out (by simp [row_size]) (row 12 X) (row_whole _ _) ?_)
    refine (refseal40_any _ _ p q c (Kn n) g e X (ksn n (keyF n f)) _ (by omega) (by omega) (HP.out.ext (HX5.out.trans HY8.out)) (HQ.out.ext (HX5.out.trans HY8.out)) hX (HD5.out.ext HY8.out) (Kn_ge n) (Kn_le n) (ksn_lt n _ HKF.out)).mono ?_
    rintro e9 w9 ⟨v9, rfl, ho9, hx9⟩
    obtain ⟨bo, bc, rfl, hbc⟩ := ho9.rd.len
    have HR9 := Lib.hid ho9
    have HA9 := Lib.hid (HA8.out.ext hx9)
    have HI9 := Lib.hid (HI8.out.ext hx9)
    have HO9 := Lib.hid (HO8.out.ext hx9)
    have HY9 := Lib.hid (HY8.out.trans hx9)
    have hs9 := hx9.size
    clear ho9 hx9 HI8 HO8 HA8 HY8 HB8 HD5
    go_wp2_with fail
    refine (eqb41_any _ _ (p + 16) (p + 16) _ _ _ HA9.out.rd HR9.out.rd).mono ?_
    rintro e10 w10 ⟨rfl, hx10⟩
    rw [eqU_true rfl (fun _ _ => rfl)]
    have HZ10 := Lib.hid hx10
    clear hx10
    go_wp2_with fail
    refine (eqb41_any _ _ p p _ _ _ (HI9.out.own.rd.ext HZ10.out) (HP.out.ext ((HX5.out.trans HY9.out).trans HZ10.out))).mono ?_
    rintro e11 w11 ⟨rfl, hx11⟩
    rw [eqU_true rfl (fun _ _ => rfl)]
    have HZ11 := Lib.hid (HZ10.out.trans hx11)
    clear hx11 HZ10
    go_wp2_with fail
    refine (eqb41_any _ _ q q _ _ _ (HO9.out.rd.ext HZ11.out) (HQ.out.ext ((HX5.out.trans HY9.out).trans HZ11.out))).mono ?_
    rintro e12 w12 ⟨rfl, hx12⟩
    rw [eqU_true rfl (fun _ _ => rfl)]
    have hz := HZ11.out.trans hx12
    have HI := Lib.hid (HI9.out.ext hz)
    have HO := Lib.hid (HO9.out.ext hz)
    have HA := Lib.hid (HA9.out.ext hz)
    have HR := Lib.hid (HR9.out.ext hz)
    have HY := Lib.hid (HY9.out.trans hz)
    clear hx12 hz HZ11 HI9 HO9 HA9 HR9 HY9
    go_wp2_with fail
    go_loopw [19] (fun v19 wr => ∃ i : Nat, i ≤ p ∧ v19 = .int .i64 i ∧ (∃ F, OwnT wr w5.heap.size (.slice ko p kc) p F) ∧ OwnF wr w6.heap.size (.slice oo q oc) q e ∧ OwnF wr w7.heap.size (.slice ro (p + 16) rc) (p + 16) (sealP (Kn n) (ksn n (keyF n f)) X p q g e) ∧ OwnF wr w8.heap.size (.slice bo (p + 16) bc) (p + 16) (sealP (Kn n) (ksn n (keyF n f)) X p q g e) ∧ Ext w5 wr) (fun v19 _ => p - (intOf v19).toNat)
    case atStart => exact ⟨0, by omega, rfl, ⟨_, HI.out⟩, HO.out, HA.out, HR.out, HY.out⟩
    case round =>
      clear HI HO HA HR HY
      obtain ⟨i, hi, rfl, ⟨F, hin⟩, ho, ha, hr, hy⟩ := hrel
      have HI := Lib.hid hin
      have HO := Lib.hid ho
      have HA := Lib.hid ha
      have HR := Lib.hid hr
      have HY := Lib.hid hy
      clear hin ho ha hr hy
      by_cases him : i < p
      · have him' : (i : Int) < (p : Int) := by omega
        obtain ⟨gi, kc', cur, he, hg, hK1, hc1, hc2, hf⟩ := HI.out.form (by omega)
        obtain ⟨rfl, rfl⟩ : ko = some ⟨gi, 0, none⟩ ∧ kc = kc' := by cases he; exact ⟨rfl, rfl⟩
        have hg6 := HGL.out gi rfl
        obtain ⟨hfl, hcur⟩ := hf i him
        have c1 : wr.cell? ⟨gi, i, none⟩ = some (.int .u8 ((F i : Nat) : Int)) := (hK1.cell i).trans hcur
        have f1 := hK1.frozen i
        have hxl := xor_lt hfl (show 90 < 256 by omega)
        clear he hf hcur hK1
        go_wp2_with fail
        rw [show (90 : Int) = ((90 : Nat) : Int) from rfl, u8_xor_nat _ _ hfl (by omega)]
        go_roundw
        case rel =>
          exact ⟨i + 1, by omega, by go_num, ⟨_, HI.out.stored i _ hxl him⟩, HO.out.otherCell _ hg6, HA.out.otherCell _ (by omega), HR.out.otherCell _ (by omega), HY.out.setCell hg _⟩
        case measure => simp [intOf]; omega
      · obtain rfl : i = p := by omega
        have him' : ¬ (i : Int) < (i : Int) := by omega
        have HBB := Lib.hid (HB5.out.ext HY.out)
        go_wp2_with (refine wl_loadA rfl 55 _ rfl _ 0 12 rfl agg55 sz55 _ _ HBB.out (by simp [row_size]) (row 12 X) (row_whole _ _) ?_)
        refine (opened42_any _ _ i q b (Kn n) g e X (ksn n (keyF n f)) _ (by omega) (by omega) HA.out.rd HO.out.rd hX (HC5.out.ext HY.out) (Kn_ge n) (Kn_le n)).mono ?_
        rintro e13 w13 ⟨v13, rfl, ho13, hx13⟩
        obtain ⟨qo, qc, rfl, hqc⟩ := ho13.rd.len
        have HP13 := Lib.hid ho13.rd
        have HX13 := Lib.hid hx13
        clear ho13 hx13
        go_wp2_with fail
        refine (eqb41_any _ _ (i + 16) (i + 16) _ _ _ (HA.out.rd.ext HX13.out) (HR.out.rd.ext HX13.out)).mono ?_
        rintro e14 w14 ⟨rfl, hx14⟩
        rw [eqU_true rfl (fun _ _ => rfl)]
        have HX14 := Lib.hid hx14
        clear hx14
        go_wp2_with fail
        refine (eqb41_any _ _ i i _ _ _ (HP13.out.ext HX14.out) (HP.out.ext (((HX5.out.trans HY.out).trans HX13.out).trans HX14.out))).mono ?_
        rintro e15 w15 ⟨rfl, hx15⟩
        rw [eqU_true rfl (fun _ _ => rfl)]
        have HX15 := Lib.hid (((((HX5.out.trans HY.out).trans HX13.out).trans HX14.out).trans hx15))
        clear hx15
        go_wp2_with fail
        refine (works34_any _).mono ?_
        rintro e16 w16 ⟨rfl, hx16⟩
        have HX16 := Lib.hid (HX15.out.trans hx16)
        clear hx16
        go_wp2_with fail
        go_ret
        exact ⟨rfl, HX16.out⟩
end Go.Proofs.Ytnigpobbckampaa
