/- GcmOpens, walked. -/
import Derived.Test.YtnigpobbckampaaJ9
namespace Go.Proofs.Ytnigpobbckampaa
open Go.RowKit
set_option linter.unusedSimpArgs false
set_option linter.unusedVariables false

theorem nilRd {w : World} {f : Nat → Nat} : RdF w (.slice none 0 0) 0 f := ⟨none, 0, rfl, Nat.le_refl _, fun _ => rfl, fun i hi => absurd hi (Nat.not_lt_zero _)⟩

set_option maxRecDepth 100000 in
set_option maxHeartbeats 1000000 in
theorem gcmopens_any (v : Value) (n : Nat) (f X : Nat → Nat) (u t : Value) (m : Nat) (g : Nat → Nat) (l : Nat) (e : Nat → Nat) (w : World) (hn : n ≤ 9223372036854775807) (hv : RdF w v n f) (hX : ∀ j, j < 12 → X j < 256)
    (hm : m ≤ 9223372036854775807) (hu : RdF w u m g) (hl : l ≤ 9223372036854775807) (ht : RdF w t l e) :
    Calls Try.prog 13 #[v, .agg (row 12 X), .agg #[u, t]] w fun e w' => e = .returned (.bool true) ∧ Ext w w' := by
  obtain ⟨uo, uc, rfl, huc⟩ := hu.len
  obtain ⟨so, tc, rfl, htc⟩ := ht.len
  have HV := Lib.hid hv
  have HU := Lib.hid hu
  have HT := Lib.hid ht
  have HKF := Lib.hid (keyF_lt hv.lt (16 + 16 * (n % 2)))
  clear hv hu ht
  go_enter Try.func13, Try.ntmps13
  go_upto_region 1 with (first | (refine wl_boxA rfl 55 _ rfl _ rfl ?_) | (refine wl_boxA rfl 56 _ rfl _ rfl ?_))
  have hB : Blk ((w.alloc (.cells (row 12 X) 55)).alloc (.cells #[.slice uo m uc, .slice so l tc] 56)) w.heap.size 55 (row 12 X) := (Blk.new w _ _).alloc _
  have hA : Blk ((w.alloc (.cells (row 12 X) 55)).alloc (.cells #[.slice uo m uc, .slice so l tc] 56)) (w.heap.size + 1) 56 #[.slice uo m uc, .slice so l tc] := by
    have := Blk.new (w.alloc (.cells (row 12 X) 55)) 56 #[.slice uo m uc, .slice so l tc]
    simpa only [World.size_alloc] using this
  have hx : Ext w ((w.alloc (.cells (row 12 X) 55)).alloc (.cells #[.slice uo m uc, .slice so l tc] 56)) := (Ext.alloc _ _).trans (Ext.alloc _ _)
  try simp only [put_lit, put_nil7, List.set_cons_succ, List.set_cons_zero, World.size_alloc]
  generalize (w.alloc (.cells (row 12 X) 55)).alloc (.cells #[.slice uo m uc, .slice so l tc] 56) = w1 at hB hA hx ⊢
  have hc0 : w1.cell? ⟨w.heap.size + 1, 0, none⟩ = some (.slice uo m uc) := (hA.cell 0).trans rfl
  have hc1 : w1.cell? ⟨w.heap.size + 1, 1, none⟩ = some (.slice so l tc) := (hA.cell 1).trans rfl
  have HB := Lib.hid hB
  have HX := Lib.hid hx
  clear hB hA hx
  obtain ⟨p, hp⟩ : ∃ p, p = min m 300 := ⟨_, rfl⟩
  obtain ⟨q, hq⟩ : ∃ q, q = min l 300 := ⟨_, rfl⟩
  have hpm : p ≤ m := by omega
  have hp5 : p ≤ 300 := by omega
  have hql : q ≤ l := by omega
  have hq5 : q ≤ 300 := by omega
  have e1 : (if 300 < (m : Int) then 300 else (m : Int)) = (p : Int) := by split <;> omega
  have e2 : (if 300 < (l : Int) then 300 else (l : Int)) = (q : Int) := by split <;> omega
  have E1 := Lib.hid e1
  have E2 := Lib.hid e2
  clear hp hq e1 e2
  apply wp_region_mid 16 [.det _, .det _, .det _, .det _, .det _, .det _, .det _, .det _, .det _, .det _, .det _, .det _, .det _, .det _, .det _, .det _] (by kernel_rfl) rfl (by kernel_rfl)
  · (first | (refine wpE_move rfl rfl rfl ?_; simp only [put_lit, eval_lit, BigFrame.eval_const, List.set_cons_succ, List.set_cons_zero, List.getD_cons_succ, List.getD_cons_zero]) | (refine wpE_run rfl rfl (by simp) (fun w1 hx1 _ K hK => by go_step; exact hK _ (Ext.refl _)) ?_; simp only [put_lit, List.set_cons_succ, List.set_cons_zero]))
    (refine wpE_run rfl rfl (by simp) (fun w1 hx1 _ K hK => by have hc := hx1.cell hc0; go_step; exact hK _ (Ext.refl _)) ?_); simp only [put_lit, List.set_cons_succ, List.set_cons_zero]
    (first | (refine wpE_move rfl rfl rfl ?_; simp only [put_lit, eval_lit, BigFrame.eval_const, List.set_cons_succ, List.set_cons_zero, List.getD_cons_succ, List.getD_cons_zero]) | (refine wpE_run rfl rfl (by simp) (fun w1 hx1 _ K hK => by go_step; exact hK _ (Ext.refl _)) ?_; simp only [put_lit, List.set_cons_succ, List.set_cons_zero]))
    (refine wpE_run rfl rfl (by simp) (fun w1 hx1 _ K hK => by have hc := hx1.cell hc0; go_step; exact hK _ (Ext.refl _)) ?_); simp only [put_lit, List.set_cons_succ, List.set_cons_zero]
    (first | (refine wpE_move rfl rfl rfl ?_; simp only [put_lit, eval_lit, BigFrame.eval_const, List.set_cons_succ, List.set_cons_zero, List.getD_cons_succ, List.getD_cons_zero]) | (refine wpE_run rfl rfl (by simp) (fun w1 hx1 _ K hK => by go_step; exact hK _ (Ext.refl _)) ?_; simp only [put_lit, List.set_cons_succ, List.set_cons_zero]))
    (first | (refine wpE_move rfl rfl rfl ?_; simp only [put_lit, eval_lit, BigFrame.eval_const, List.set_cons_succ, List.set_cons_zero, List.getD_cons_succ, List.getD_cons_zero]) | (refine wpE_run rfl rfl (by simp) (fun w1 hx1 _ K hK => by go_step; exact hK _ (Ext.refl _)) ?_; simp only [put_lit, List.set_cons_succ, List.set_cons_zero]))
    rw [E1.out]
    (first | (refine wpE_move rfl rfl rfl ?_; simp only [put_lit, eval_lit, BigFrame.eval_const, List.set_cons_succ, List.set_cons_zero, List.getD_cons_succ, List.getD_cons_zero]) | (refine wpE_run rfl rfl (by simp) (fun w1 hx1 _ K hK => by go_step; exact hK _ (Ext.refl _)) ?_; simp only [put_lit, List.set_cons_succ, List.set_cons_zero]))
    (first | (refine wpE_move rfl rfl rfl ?_; simp only [put_lit, eval_lit, BigFrame.eval_const, List.set_cons_succ, List.set_cons_zero, List.getD_cons_succ, List.getD_cons_zero]) | (refine wpE_run rfl rfl (by simp) (fun w1 hx1 _ K hK => by go_step; exact hK _ (Ext.refl _)) ?_; simp only [put_lit, List.set_cons_succ, List.set_cons_zero]))
    (refine wpE_run rfl rfl (by simp) (fun w1 hx1 _ K hK => by have hc := hx1.cell hc1; go_step; exact hK _ (Ext.refl _)) ?_); simp only [put_lit, List.set_cons_succ, List.set_cons_zero]
    (first | (refine wpE_move rfl rfl rfl ?_; simp only [put_lit, eval_lit, BigFrame.eval_const, List.set_cons_succ, List.set_cons_zero, List.getD_cons_succ, List.getD_cons_zero]) | (refine wpE_run rfl rfl (by simp) (fun w1 hx1 _ K hK => by go_step; exact hK _ (Ext.refl _)) ?_; simp only [put_lit, List.set_cons_succ, List.set_cons_zero]))
    (refine wpE_run rfl rfl (by simp) (fun w1 hx1 _ K hK => by have hc := hx1.cell hc1; go_step; exact hK _ (Ext.refl _)) ?_); simp only [put_lit, List.set_cons_succ, List.set_cons_zero]
    (first | (refine wpE_move rfl rfl rfl ?_; simp only [put_lit, eval_lit, BigFrame.eval_const, List.set_cons_succ, List.set_cons_zero, List.getD_cons_succ, List.getD_cons_zero]) | (refine wpE_run rfl rfl (by simp) (fun w1 hx1 _ K hK => by go_step; exact hK _ (Ext.refl _)) ?_; simp only [put_lit, List.set_cons_succ, List.set_cons_zero]))
    (first | (refine wpE_move rfl rfl rfl ?_; simp only [put_lit, eval_lit, BigFrame.eval_const, List.set_cons_succ, List.set_cons_zero, List.getD_cons_succ, List.getD_cons_zero]) | (refine wpE_run rfl rfl (by simp) (fun w1 hx1 _ K hK => by go_step; exact hK _ (Ext.refl _)) ?_; simp only [put_lit, List.set_cons_succ, List.set_cons_zero]))
    rw [E2.out]
    (first | (refine wpE_move rfl rfl rfl ?_; simp only [put_lit, eval_lit, BigFrame.eval_const, List.set_cons_succ, List.set_cons_zero, List.getD_cons_succ, List.getD_cons_zero]) | (refine wpE_run rfl rfl (by simp) (fun w1 hx1 _ K hK => by go_step; exact hK _ (Ext.refl _)) ?_; simp only [put_lit, List.set_cons_succ, List.set_cons_zero]))
    (first | (refine wpE_move rfl rfl rfl ?_; simp only [put_lit, eval_lit, BigFrame.eval_const, List.set_cons_succ, List.set_cons_zero, List.getD_cons_succ, List.getD_cons_zero]) | (refine wpE_run rfl rfl (by simp) (fun w1 hx1 _ K hK => by go_step; exact hK _ (Ext.refl _)) ?_; simp only [put_lit, List.set_cons_succ, List.set_cons_zero]))
    (first | (refine wpE_move rfl rfl rfl ?_; simp only [put_lit, eval_lit, BigFrame.eval_const, List.set_cons_succ, List.set_cons_zero, List.getD_cons_succ, List.getD_cons_zero]) | (refine wpE_run rfl rfl (by simp) (fun w1 hx1 _ K hK => by go_step; exact hK _ (Ext.refl _)) ?_; simp only [put_lit, List.set_cons_succ, List.set_cons_zero]))
    refine wpE_nil ?_
    intro w2 hw2 hF
    simp only [List.drop_succ_cons, List.drop_zero]
    clear hF
    have HB2 := Lib.hid (HB.out.ext hw2)
    have HX2 := Lib.hid (HX.out.trans hw2)
    have HP := Lib.hid (HU.out.head p hpm)
    have HQ := Lib.hid (HT.out.head q hql)
    clear hw2 hc0 hc1 HB HX HU HT E1 E2
    go_wp2_with fail
    refine (key38_any v n f _ hn (HV.out.ext HX2.out)).mono ?_
    rintro e3 w3 ⟨v3, rfl, ho3, hx3⟩
    have HO3 := Lib.hid ho3.rd
    have HX3 := Lib.hid (HX2.out.trans hx3)
    have HB3 := Lib.hid (HB2.out.ext hx3)
    clear ho3 hx3 HB2 HX2
    go_wp2_with fail
    refine (newk19_any v3 n _ _ HO3.out).mono ?_
    rintro e4 w4 ⟨b, rfl, hC, hx4⟩
    have HC4 := Lib.hid hC
    have HX4 := Lib.hid (HX3.out.trans hx4)
    have HB4 := Lib.hid (HB3.out.ext hx4)
    clear hC hx4 HB3 HX3 HO3
    go_wp2_with fail
    refine (key38_any v n f _ hn (HV.out.ext HX4.out)).mono ?_
    rintro e31 w31 ⟨v31, rfl, ho31, hx31⟩
    have HO31 := Lib.hid ho31.rd
    have HX31 := Lib.hid (HX4.out.trans hx31)
    have HY31 := Lib.hid hx31
    clear ho31 hx31 HX4
    go_wp2_with fail
    refine (newk20_any v31 n _ _ HO31.out).mono ?_
    rintro e5 w5 ⟨c, rfl, hD, hx5⟩
    have HD5 := Lib.hid hD
    have HC5 := Lib.hid (HC4.out.ext (HY31.out.trans hx5))
    have HB5 := Lib.hid (HB4.out.ext (HY31.out.trans hx5))
    have HX5 := Lib.hid (HX31.out.trans hx5)
    clear hD hx5 HX31 HY31 HB4 HC4 HO31
    have HQ0 := HQ
    clear HQ
    have HBB := HB5
    go_wp2_with (refine wl_loadA rfl 55 _ rfl _ 0 12 rfl agg55 sz55 _ _ HB5.out (by simp [row_size]) (row 12 X) (row_whole _ _) ?_)
    refine (refseal40_any _ _ p q c (Kn n) g e X (ksn n (keyF n f)) _ (by omega) (by omega) (HP.out.ext HX5.out) (HQ0.out.ext HX5.out) hX HD5.out (Kn_ge n) (Kn_le n) (ksn_lt n _ HKF.out)).mono ?_
    rintro e6 w6 ⟨v6, rfl, ho6, hx6⟩
    obtain ⟨gs, off, cs, t6, cur, rfl, hbs, hBs, hcs, hss, hfs⟩ := ho6.form (by omega)
    have HS6 := Lib.hid ho6
    have HX6 := Lib.hid hx6
    have HBS := Lib.hid hBs
    have HFS := Lib.hid hfs
    clear ho6 hx6 hBs hfs HBB
    rcases Nat.eq_zero_or_pos q with hq0 | hq0
    · have hq0' : ¬ (0 : Int) < (q : Int) := by omega
      clear hq0
      have HS := Lib.hid HS6.out.rd
      have HX8 := HX6
      clear HS6 HBS HFS HX6
      obtain ⟨w8, hw8⟩ : ∃ w8, w8 = w6 := ⟨_, rfl⟩
      rw [← hw8] at HS HX8 ⊢
      clear hw8
      go_wp2_with fail
      have hg0 : Blk (w8.alloc (.cells #[.slice uo p uc, .slice (some ⟨gs, off, none⟩) (p + 16 : Nat) cs] 22)) w8.heap.size 22 #[.slice uo p uc, .slice (some ⟨gs, off, none⟩) (p + 16 : Nat) cs] := Blk.new _ _ _
      have hxa : Ext w8 (w8.alloc (.cells #[.slice uo p uc, .slice (some ⟨gs, off, none⟩) (p + 16 : Nat) cs] 22)) := Ext.alloc _ _
      try simp only [put_lit, put_nil7, List.set_cons_succ, List.set_cons_zero]
      obtain ⟨gr, hgr⟩ : ∃ gr, gr = w8.heap.size := ⟨_, rfl⟩
      rw [← hgr] at hg0 ⊢
      try generalize Value.bool (decide (0 < q)) = b63
      generalize w8.alloc (.cells #[.slice uo p uc, .slice (some ⟨gs, off, none⟩) (p + 16 : Nat) cs] 22) = w9 at hg0 hxa ⊢
      have HG9 := Lib.hid hg0
      have HX9 := Lib.hid (HX8.out.trans hxa)
      have HS9 := Lib.hid (HS.out.ext hxa)
      clear hg0 hxa hgr hq0'
      go_loopw [16] (fun v16 wr => ∃ i : Nat, i ≤ 2 ∧ v16 = .int .i64 i ∧ Ext w9 wr) (fun v16 _ => 2 - (intOf v16).toNat)
      case atStart => exact ⟨0, by omega, rfl, Ext.refl _⟩
      case round =>
        obtain ⟨i, hi, rfl, hx⟩ := hrel
        have HXR := Lib.hid hx
        clear hx
        by_cases hi2 : i < 2
        · have hi2' : (i : Int) < 2 := by omega
          obtain ⟨oo, oc, nb, F, hcell, hrr, hnb, hnoc⟩ : ∃ oo oc nb F, wr.cell? ⟨gr, i, none⟩ = some (.slice oo nb oc) ∧ RdF wr (.slice oo nb oc) nb F ∧ nb ≤ 65552 ∧ nb ≤ oc := by
            rcases (by omega : i = 0 ∨ i = 1) with rfl | rfl
            · exact ⟨uo, uc, p, g, ((HG9.out.ext HXR.out).cell 0).trans rfl, HP.out.ext ((HX5.out.trans HX9.out).trans HXR.out), by omega, by omega⟩
            · exact ⟨_, _, p + 16, _, ((HG9.out.ext HXR.out).cell 1).trans rfl, HS9.out.ext HXR.out, by omega, by omega⟩
          have HCELL := Lib.hid hcell
          have HRR := Lib.hid hrr
          have HB := Lib.hid (HB5.out.ext (HX9.out.trans HXR.out))
          have HC := Lib.hid (HC5.out.ext (HX9.out.trans HXR.out))
          have HD := Lib.hid (HD5.out.ext (HX9.out.trans HXR.out))
          have HQ := Lib.hid (HQ0.out.ext ((HX5.out.trans HX9.out).trans HXR.out))
          clear hcell hrr
          by_cases hW : WholeP (Kn n) (ksn n (keyF n f)) X nb q F e
          · have HW := Lib.hid hW
            clear hW
            go_upto_region 13 with fail
            apply wp_region_mid 13 [.det _, .det _, .det _, .det _, .det _, .det _, .det _, .any (TupV (nb - 16) (hideP (Kn n) (ksn n (keyF n f)) X F)), .any (TupV (nb - 16) (hideP (Kn n) (ksn n (keyF n f)) X F)), .any (RdV (nb - 16) (hideP (Kn n) (ksn n (keyF n f)) X F)), .det _, .any (RdV (nb - 16) (hideP (Kn n) (ksn n (keyF n f)) X F)), .det _] (by kernel_rfl) rfl (by kernel_rfl)
            · skip
              (first | (refine wpE_move rfl rfl rfl ?_; simp only [put_lit, eval_lit, BigFrame.eval_const, List.set_cons_succ, List.set_cons_zero, List.getD_cons_succ, List.getD_cons_zero]) | (refine wpE_run rfl rfl (by simp) (fun w1 hx1 _ K hK => by go_step; exact hK _ (Ext.refl _)) ?_; simp only [put_lit, List.set_cons_succ, List.set_cons_zero]))
              refine wpE_run rfl rfl (by simp) (fun w' hx' _ K9 hK9 => wp_loadA 55 _ rfl _ 0 12 rfl agg55 sz55 _ _ (HB.out.ext hx') (by simp [row_size]) (row 12 X) (row_whole _ _) (hK9 _ (Ext.refl _))) ?_
              simp only [put_lit, List.set_cons_succ, List.set_cons_zero]
              (first | (refine wpE_move rfl rfl rfl ?_; simp only [put_lit, eval_lit, BigFrame.eval_const, List.set_cons_succ, List.set_cons_zero, List.getD_cons_succ, List.getD_cons_zero]) | (refine wpE_run rfl rfl (by simp) (fun w1 hx1 _ K hK => by go_step; exact hK _ (Ext.refl _)) ?_; simp only [put_lit, List.set_cons_succ, List.set_cons_zero]))
              (first | (refine wpE_move rfl rfl rfl ?_; simp only [put_lit, eval_lit, BigFrame.eval_const, List.set_cons_succ, List.set_cons_zero, List.getD_cons_succ, List.getD_cons_zero]) | (refine wpE_run rfl rfl (by simp) (fun w1 hx1 _ K hK => by go_step; exact hK _ (Ext.refl _)) ?_; simp only [put_lit, List.set_cons_succ, List.set_cons_zero]))
              (first | (refine wpE_move rfl rfl rfl ?_; simp only [put_lit, eval_lit, BigFrame.eval_const, List.set_cons_succ, List.set_cons_zero, List.getD_cons_succ, List.getD_cons_zero]) | (refine wpE_run rfl rfl (by simp) (fun w1 hx1 _ K hK => by go_step; exact hK _ (Ext.refl _)) ?_; simp only [put_lit, List.set_cons_succ, List.set_cons_zero]))
              (refine wpE_run rfl rfl (by simp) (fun w1 hx1 _ K hK => by have hc := hx1.cell HCELL.out; go_step; exact hK _ (Ext.refl _)) ?_); simp only [put_lit, List.set_cons_succ, List.set_cons_zero]
              (first | (refine wpE_move rfl rfl rfl ?_; simp only [put_lit, eval_lit, BigFrame.eval_const, List.set_cons_succ, List.set_cons_zero, List.getD_cons_succ, List.getD_cons_zero]) | (refine wpE_run rfl rfl (by simp) (fun w1 hx1 _ K hK => by go_step; exact hK _ (Ext.refl _)) ?_; simp only [put_lit, List.set_cons_succ, List.set_cons_zero]))
              refine wpE_any (V := TupV (nb - 16) (hideP (Kn n) (ksn n (keyF n f)) X F)) rfl (fun _ _ _ hx h => h.mono hx) rfl (by simp) (fun w1 hx1 hfc K9 hK9 => by clear hfc; go_wp2_with (go_at_call 42; refine (open42_any _ _ nb q b (Kn n) F e X (ksn n (keyF n f)) _ hnb (by omega) (HRR.out.ext hx1) (HQ.out.ext hx1) hX (HC.out.ext hx1) (Kn_ge n) (Kn_le n)).mono ?_; rintro e2 w2 ⟨hx2, h2⟩; rcases h2 with ⟨_, v2, rfl, ho2⟩ | ⟨hnw, _⟩; exact hK9 _ _ hx2 ⟨v2, rfl, ho2.rd⟩; exact absurd HW.out hnw)) ?_
              intro u97
              simp only [put_lit, List.set_cons_succ, List.set_cons_zero]
              refine wpE_any (V := TupV (nb - 16) (hideP (Kn n) (ksn n (keyF n f)) X F)) rfl (fun _ _ _ hx h => h.mono hx) rfl (by simp) (fun w1 hx1 hfc K9 hK9 => by have hr := hfc (97, TupV (nb - 16) (hideP (Kn n) (ksn n (keyF n f)) X F) u97) (by simp) (by show (97 : Nat) ∈ _; decide); go_step; exact hK9 _ _ (Ext.refl _) hr) ?_
              intro u89
              simp only [put_lit, List.set_cons_succ, List.set_cons_zero]
              refine wpE_any (V := RdV (nb - 16) (hideP (Kn n) (ksn n (keyF n f)) X F)) rfl (fun _ _ _ hx h => h.mono hx) rfl (by simp) (fun w1 hx1 hfc K9 hK9 => by obtain ⟨v', rfl, hr⟩ := hfc (89, TupV (nb - 16) (hideP (Kn n) (ksn n (keyF n f)) X F) u89) (by simp) (by show (89 : Nat) ∈ _; decide); go_step; exact hK9 _ _ (Ext.refl _) hr) ?_
              intro u98
              simp only [put_lit, List.set_cons_succ, List.set_cons_zero]
              refine wpE_run rfl rfl (by simp) (fun w1 hx1 hfc K9 hK9 => by obtain ⟨v', rfl, hr⟩ := hfc (89, TupV (nb - 16) (hideP (Kn n) (ksn n (keyF n f)) X F) u89) (by simp) (by show (89 : Nat) ∈ _; decide); go_step; exact hK9 _ (Ext.refl _)) ?_
              simp only [put_lit, List.set_cons_succ, List.set_cons_zero]
              refine wpE_any (V := RdV (nb - 16) (hideP (Kn n) (ksn n (keyF n f)) X F)) rfl (fun _ _ _ hx h => h.mono hx) rfl (by simp) (fun w1 hx1 hfc K9 hK9 => by have hr := hfc (98, RdV (nb - 16) (hideP (Kn n) (ksn n (keyF n f)) X F) u98) (by simp) (by show (98 : Nat) ∈ _; decide); go_step; exact hK9 _ _ (Ext.refl _) hr) ?_
              intro u17
              simp only [put_lit, List.set_cons_succ, List.set_cons_zero]
              (first | (refine wpE_move rfl rfl rfl ?_; simp only [put_lit, eval_lit, BigFrame.eval_const, List.set_cons_succ, List.set_cons_zero, List.getD_cons_succ, List.getD_cons_zero]) | (refine wpE_run rfl rfl (by simp) (fun w1 hx1 _ K hK => by go_step; exact hK _ (Ext.refl _)) ?_; simp only [put_lit, List.set_cons_succ, List.set_cons_zero]))
              refine wpE_nil ?_
              intro w5 hw5 hF
              simp only [List.drop_succ_cons, List.drop_zero]
              have HA5 := Lib.hid (show RdF w5 u17 (nb - 16) (hideP (Kn n) (ksn n (keyF n f)) X F) from hF (17, RdV (nb - 16) (hideP (Kn n) (ksn n (keyF n f)) X F) u17) (by simp))
              clear hF
              have HB5 := Lib.hid (HB.out.ext hw5)
              have HC5 := Lib.hid (HC.out.ext hw5)
              have HD5 := Lib.hid (HD.out.ext hw5)
              have HRR5 := Lib.hid (HRR.out.ext hw5)
              have HQ5 := Lib.hid (HQ.out.ext hw5)
              have HCELL5 := Lib.hid (hw5.cell HCELL.out)
              have HXR5 := Lib.hid (HXR.out.trans hw5)
              clear hw5 HB HC HD HRR HQ HCELL HXR
              have HB := HB5
              have HC := HC5
              have HD := HD5
              have HRR := HRR5
              have HQ := HQ5
              have HCELL := HCELL5
              have HXR := HXR5
              clear HB5 HC5 HD5 HRR5 HQ5 HCELL5 HXR5
              go_upto_region 14 with fail
              apply wp_region_mid 13 [.det _, .det _, .det _, .det _, .det _, .det _, .det _, .any (TupV (nb - 16) (hideP (Kn n) (ksn n (keyF n f)) X F)), .any (TupV (nb - 16) (hideP (Kn n) (ksn n (keyF n f)) X F)), .any (RdV (nb - 16) (hideP (Kn n) (ksn n (keyF n f)) X F)), .det _, .any (RdV (nb - 16) (hideP (Kn n) (ksn n (keyF n f)) X F)), .det _] (by kernel_rfl) rfl (by kernel_rfl)
              · skip
                (first | (refine wpE_move rfl rfl rfl ?_; simp only [put_lit, eval_lit, BigFrame.eval_const, List.set_cons_succ, List.set_cons_zero, List.getD_cons_succ, List.getD_cons_zero]) | (refine wpE_run rfl rfl (by simp) (fun w1 hx1 _ K hK => by go_step; exact hK _ (Ext.refl _)) ?_; simp only [put_lit, List.set_cons_succ, List.set_cons_zero]))
                refine wpE_run rfl rfl (by simp) (fun w' hx' _ K9 hK9 => wp_loadA 55 _ rfl _ 0 12 rfl agg55 sz55 _ _ (HB.out.ext hx') (by simp [row_size]) (row 12 X) (row_whole _ _) (hK9 _ (Ext.refl _))) ?_
                simp only [put_lit, List.set_cons_succ, List.set_cons_zero]
                (first | (refine wpE_move rfl rfl rfl ?_; simp only [put_lit, eval_lit, BigFrame.eval_const, List.set_cons_succ, List.set_cons_zero, List.getD_cons_succ, List.getD_cons_zero]) | (refine wpE_run rfl rfl (by simp) (fun w1 hx1 _ K hK => by go_step; exact hK _ (Ext.refl _)) ?_; simp only [put_lit, List.set_cons_succ, List.set_cons_zero]))
                (first | (refine wpE_move rfl rfl rfl ?_; simp only [put_lit, eval_lit, BigFrame.eval_const, List.set_cons_succ, List.set_cons_zero, List.getD_cons_succ, List.getD_cons_zero]) | (refine wpE_run rfl rfl (by simp) (fun w1 hx1 _ K hK => by go_step; exact hK _ (Ext.refl _)) ?_; simp only [put_lit, List.set_cons_succ, List.set_cons_zero]))
                (first | (refine wpE_move rfl rfl rfl ?_; simp only [put_lit, eval_lit, BigFrame.eval_const, List.set_cons_succ, List.set_cons_zero, List.getD_cons_succ, List.getD_cons_zero]) | (refine wpE_run rfl rfl (by simp) (fun w1 hx1 _ K hK => by go_step; exact hK _ (Ext.refl _)) ?_; simp only [put_lit, List.set_cons_succ, List.set_cons_zero]))
                (refine wpE_run rfl rfl (by simp) (fun w1 hx1 _ K hK => by have hc := hx1.cell HCELL.out; go_step; exact hK _ (Ext.refl _)) ?_); simp only [put_lit, List.set_cons_succ, List.set_cons_zero]
                (first | (refine wpE_move rfl rfl rfl ?_; simp only [put_lit, eval_lit, BigFrame.eval_const, List.set_cons_succ, List.set_cons_zero, List.getD_cons_succ, List.getD_cons_zero]) | (refine wpE_run rfl rfl (by simp) (fun w1 hx1 _ K hK => by go_step; exact hK _ (Ext.refl _)) ?_; simp only [put_lit, List.set_cons_succ, List.set_cons_zero]))
                refine wpE_any (V := TupV (nb - 16) (hideP (Kn n) (ksn n (keyF n f)) X F)) rfl (fun _ _ _ hx h => h.mono hx) rfl (by simp) (fun w1 hx1 hfc K9 hK9 => by clear hfc; go_wp2_with (go_at_call 43; refine (refopen43_any _ _ nb q c (Kn n) F e X (ksn n (keyF n f)) _ hnb (by omega) (HRR.out.ext hx1) (HQ.out.ext hx1) hX (HD.out.ext hx1) (Kn_ge n) (Kn_le n) (ksn_lt n _ HKF.out)).mono ?_; rintro e2 w2 ⟨hx2, h2⟩; rcases h2 with ⟨_, v2, rfl, ho2⟩ | ⟨hnw, _⟩; exact hK9 _ _ hx2 ⟨v2, rfl, ho2⟩; exact absurd HW.out hnw)) ?_
                intro u108
                simp only [put_lit, List.set_cons_succ, List.set_cons_zero]
                refine wpE_any (V := TupV (nb - 16) (hideP (Kn n) (ksn n (keyF n f)) X F)) rfl (fun _ _ _ hx h => h.mono hx) rfl (by simp) (fun w1 hx1 hfc K9 hK9 => by have hr := hfc (108, TupV (nb - 16) (hideP (Kn n) (ksn n (keyF n f)) X F) u108) (by simp) (by show (108 : Nat) ∈ _; decide); go_step; exact hK9 _ _ (Ext.refl _) hr) ?_
                intro u100
                simp only [put_lit, List.set_cons_succ, List.set_cons_zero]
                refine wpE_any (V := RdV (nb - 16) (hideP (Kn n) (ksn n (keyF n f)) X F)) rfl (fun _ _ _ hx h => h.mono hx) rfl (by simp) (fun w1 hx1 hfc K9 hK9 => by obtain ⟨v', rfl, hr⟩ := hfc (100, TupV (nb - 16) (hideP (Kn n) (ksn n (keyF n f)) X F) u100) (by simp) (by show (100 : Nat) ∈ _; decide); go_step; exact hK9 _ _ (Ext.refl _) hr) ?_
                intro u109
                simp only [put_lit, List.set_cons_succ, List.set_cons_zero]
                refine wpE_run rfl rfl (by simp) (fun w1 hx1 hfc K9 hK9 => by obtain ⟨v', rfl, hr⟩ := hfc (100, TupV (nb - 16) (hideP (Kn n) (ksn n (keyF n f)) X F) u100) (by simp) (by show (100 : Nat) ∈ _; decide); go_step; exact hK9 _ (Ext.refl _)) ?_
                simp only [put_lit, List.set_cons_succ, List.set_cons_zero]
                refine wpE_any (V := RdV (nb - 16) (hideP (Kn n) (ksn n (keyF n f)) X F)) rfl (fun _ _ _ hx h => h.mono hx) rfl (by simp) (fun w1 hx1 hfc K9 hK9 => by have hr := hfc (109, RdV (nb - 16) (hideP (Kn n) (ksn n (keyF n f)) X F) u109) (by simp) (by show (109 : Nat) ∈ _; decide); go_step; exact hK9 _ _ (Ext.refl _) hr) ?_
                intro u19
                simp only [put_lit, List.set_cons_succ, List.set_cons_zero]
                (first | (refine wpE_move rfl rfl rfl ?_; simp only [put_lit, eval_lit, BigFrame.eval_const, List.set_cons_succ, List.set_cons_zero, List.getD_cons_succ, List.getD_cons_zero]) | (refine wpE_run rfl rfl (by simp) (fun w1 hx1 _ K hK => by go_step; exact hK _ (Ext.refl _)) ?_; simp only [put_lit, List.set_cons_succ, List.set_cons_zero]))
                refine wpE_nil ?_
                intro w5 hw5 hF
                simp only [List.drop_succ_cons, List.drop_zero]
                have HB19 := Lib.hid (show RdF w5 u19 (nb - 16) (hideP (Kn n) (ksn n (keyF n f)) X F) from hF (19, RdV (nb - 16) (hideP (Kn n) (ksn n (keyF n f)) X F) u19) (by simp))
                clear hF
                obtain ⟨ao5, ac5, rfl, _⟩ := HA5.out.len
                obtain ⟨bo5, bc5, rfl, _⟩ := HB19.out.len
                have HX5 := Lib.hid (HXR.out.trans hw5)
                have HA6 := Lib.hid (HA5.out.ext hw5)
                clear hw5
                go_wp2_with fail
                refine (eqb41_any _ _ (nb - 16) (nb - 16) _ _ _ HA6.out HB19.out).mono ?_
                rintro e6 w6 ⟨rfl, hx6⟩
                rw [eqU_true rfl (fun _ _ => rfl)]
                have HX6 := Lib.hid (HX5.out.trans hx6)
                clear hx6
                go_wp2_with fail
                go_roundw
                case rel => exact ⟨i + 1, by omega, by go_num, HX6.out⟩
                case measure => simp [intOf]; omega
          · have HW := Lib.hid hW
            clear hW
            go_upto_region 13 with fail
            apply wp_region_mid 13 [.det _, .det _, .det _, .det _, .det _, .det _, .det _, .det _, .det _, .det _, .det _, .det _, .det _] (by kernel_rfl) rfl (by kernel_rfl)
            · skip
              (first | (refine wpE_move rfl rfl rfl ?_; simp only [put_lit, eval_lit, BigFrame.eval_const, List.set_cons_succ, List.set_cons_zero, List.getD_cons_succ, List.getD_cons_zero]) | (refine wpE_run rfl rfl (by simp) (fun w1 hx1 _ K hK => by go_step; exact hK _ (Ext.refl _)) ?_; simp only [put_lit, List.set_cons_succ, List.set_cons_zero]))
              refine wpE_run rfl rfl (by simp) (fun w' hx' _ K9 hK9 => wp_loadA 55 _ rfl _ 0 12 rfl agg55 sz55 _ _ (HB.out.ext hx') (by simp [row_size]) (row 12 X) (row_whole _ _) (hK9 _ (Ext.refl _))) ?_
              simp only [put_lit, List.set_cons_succ, List.set_cons_zero]
              (first | (refine wpE_move rfl rfl rfl ?_; simp only [put_lit, eval_lit, BigFrame.eval_const, List.set_cons_succ, List.set_cons_zero, List.getD_cons_succ, List.getD_cons_zero]) | (refine wpE_run rfl rfl (by simp) (fun w1 hx1 _ K hK => by go_step; exact hK _ (Ext.refl _)) ?_; simp only [put_lit, List.set_cons_succ, List.set_cons_zero]))
              (first | (refine wpE_move rfl rfl rfl ?_; simp only [put_lit, eval_lit, BigFrame.eval_const, List.set_cons_succ, List.set_cons_zero, List.getD_cons_succ, List.getD_cons_zero]) | (refine wpE_run rfl rfl (by simp) (fun w1 hx1 _ K hK => by go_step; exact hK _ (Ext.refl _)) ?_; simp only [put_lit, List.set_cons_succ, List.set_cons_zero]))
              (first | (refine wpE_move rfl rfl rfl ?_; simp only [put_lit, eval_lit, BigFrame.eval_const, List.set_cons_succ, List.set_cons_zero, List.getD_cons_succ, List.getD_cons_zero]) | (refine wpE_run rfl rfl (by simp) (fun w1 hx1 _ K hK => by go_step; exact hK _ (Ext.refl _)) ?_; simp only [put_lit, List.set_cons_succ, List.set_cons_zero]))
              (refine wpE_run rfl rfl (by simp) (fun w1 hx1 _ K hK => by have hc := hx1.cell HCELL.out; go_step; exact hK _ (Ext.refl _)) ?_); simp only [put_lit, List.set_cons_succ, List.set_cons_zero]
              (first | (refine wpE_move rfl rfl rfl ?_; simp only [put_lit, eval_lit, BigFrame.eval_const, List.set_cons_succ, List.set_cons_zero, List.getD_cons_succ, List.getD_cons_zero]) | (refine wpE_run rfl rfl (by simp) (fun w1 hx1 _ K hK => by go_step; exact hK _ (Ext.refl _)) ?_; simp only [put_lit, List.set_cons_succ, List.set_cons_zero]))
              refine wpE_run rfl rfl (by simp) (fun w1 hx1 hfc K9 hK9 => by clear hfc; go_wp2_with (go_at_call 42; refine (open42_any _ _ nb q b (Kn n) F e X (ksn n (keyF n f)) _ hnb (by omega) (HRR.out.ext hx1) (HQ.out.ext hx1) hX (HC.out.ext hx1) (Kn_ge n) (Kn_le n)).mono ?_; rintro e2 w2 ⟨hx2, h2⟩; rcases h2 with ⟨hw, _⟩ | ⟨_, rfl⟩; exact absurd hw HW.out; exact hK9 _ hx2)) ?_
              simp only [put_lit, List.set_cons_succ, List.set_cons_zero]
              (first | (refine wpE_move rfl rfl rfl ?_; simp only [put_lit, eval_lit, BigFrame.eval_const, List.set_cons_succ, List.set_cons_zero, List.getD_cons_succ, List.getD_cons_zero]) | (refine wpE_run rfl rfl (by simp) (fun w1 hx1 _ K hK => by go_step; exact hK _ (Ext.refl _)) ?_; simp only [put_lit, List.set_cons_succ, List.set_cons_zero]))
              (first | (refine wpE_move rfl rfl rfl ?_; simp only [put_lit, eval_lit, BigFrame.eval_const, List.set_cons_succ, List.set_cons_zero, List.getD_cons_succ, List.getD_cons_zero]) | (refine wpE_run rfl rfl (by simp) (fun w1 hx1 _ K hK => by go_step; exact hK _ (Ext.refl _)) ?_; simp only [put_lit, List.set_cons_succ, List.set_cons_zero]))
              (first | (refine wpE_move rfl rfl rfl ?_; simp only [put_lit, eval_lit, BigFrame.eval_const, List.set_cons_succ, List.set_cons_zero, List.getD_cons_succ, List.getD_cons_zero]) | (refine wpE_run rfl rfl (by simp) (fun w1 hx1 _ K hK => by go_step; exact hK _ (Ext.refl _)) ?_; simp only [put_lit, List.set_cons_succ, List.set_cons_zero]))
              (first | (refine wpE_move rfl rfl rfl ?_; simp only [put_lit, eval_lit, BigFrame.eval_const, List.set_cons_succ, List.set_cons_zero, List.getD_cons_succ, List.getD_cons_zero]) | (refine wpE_run rfl rfl (by simp) (fun w1 hx1 _ K hK => by go_step; exact hK _ (Ext.refl _)) ?_; simp only [put_lit, List.set_cons_succ, List.set_cons_zero]))
              (first | (refine wpE_move rfl rfl rfl ?_; simp only [put_lit, eval_lit, BigFrame.eval_const, List.set_cons_succ, List.set_cons_zero, List.getD_cons_succ, List.getD_cons_zero]) | (refine wpE_run rfl rfl (by simp) (fun w1 hx1 _ K hK => by go_step; exact hK _ (Ext.refl _)) ?_; simp only [put_lit, List.set_cons_succ, List.set_cons_zero]))
              refine wpE_nil ?_
              intro w5 hw5 hF
              simp only [List.drop_succ_cons, List.drop_zero]
              clear hF
              have HB5 := Lib.hid (HB.out.ext hw5)
              have HC5 := Lib.hid (HC.out.ext hw5)
              have HD5 := Lib.hid (HD.out.ext hw5)
              have HRR5 := Lib.hid (HRR.out.ext hw5)
              have HQ5 := Lib.hid (HQ.out.ext hw5)
              have HCELL5 := Lib.hid (hw5.cell HCELL.out)
              have HXR5 := Lib.hid (HXR.out.trans hw5)
              clear hw5 HB HC HD HRR HQ HCELL HXR
              have HB := HB5
              have HC := HC5
              have HD := HD5
              have HRR := HRR5
              have HQ := HQ5
              have HCELL := HCELL5
              have HXR := HXR5
              clear HB5 HC5 HD5 HRR5 HQ5 HCELL5 HXR5
              go_upto_region 14 with fail
              apply wp_region_mid 13 [.det _, .det _, .det _, .det _, .det _, .det _, .det _, .det _, .det _, .det _, .det _, .det _, .det _] (by kernel_rfl) rfl (by kernel_rfl)
              · skip
                (first | (refine wpE_move rfl rfl rfl ?_; simp only [put_lit, eval_lit, BigFrame.eval_const, List.set_cons_succ, List.set_cons_zero, List.getD_cons_succ, List.getD_cons_zero]) | (refine wpE_run rfl rfl (by simp) (fun w1 hx1 _ K hK => by go_step; exact hK _ (Ext.refl _)) ?_; simp only [put_lit, List.set_cons_succ, List.set_cons_zero]))
                refine wpE_run rfl rfl (by simp) (fun w' hx' _ K9 hK9 => wp_loadA 55 _ rfl _ 0 12 rfl agg55 sz55 _ _ (HB.out.ext hx') (by simp [row_size]) (row 12 X) (row_whole _ _) (hK9 _ (Ext.refl _))) ?_
                simp only [put_lit, List.set_cons_succ, List.set_cons_zero]
                (first | (refine wpE_move rfl rfl rfl ?_; simp only [put_lit, eval_lit, BigFrame.eval_const, List.set_cons_succ, List.set_cons_zero, List.getD_cons_succ, List.getD_cons_zero]) | (refine wpE_run rfl rfl (by simp) (fun w1 hx1 _ K hK => by go_step; exact hK _ (Ext.refl _)) ?_; simp only [put_lit, List.set_cons_succ, List.set_cons_zero]))
                (first | (refine wpE_move rfl rfl rfl ?_; simp only [put_lit, eval_lit, BigFrame.eval_const, List.set_cons_succ, List.set_cons_zero, List.getD_cons_succ, List.getD_cons_zero]) | (refine wpE_run rfl rfl (by simp) (fun w1 hx1 _ K hK => by go_step; exact hK _ (Ext.refl _)) ?_; simp only [put_lit, List.set_cons_succ, List.set_cons_zero]))
                (first | (refine wpE_move rfl rfl rfl ?_; simp only [put_lit, eval_lit, BigFrame.eval_const, List.set_cons_succ, List.set_cons_zero, List.getD_cons_succ, List.getD_cons_zero]) | (refine wpE_run rfl rfl (by simp) (fun w1 hx1 _ K hK => by go_step; exact hK _ (Ext.refl _)) ?_; simp only [put_lit, List.set_cons_succ, List.set_cons_zero]))
                (refine wpE_run rfl rfl (by simp) (fun w1 hx1 _ K hK => by have hc := hx1.cell HCELL.out; go_step; exact hK _ (Ext.refl _)) ?_); simp only [put_lit, List.set_cons_succ, List.set_cons_zero]
                (first | (refine wpE_move rfl rfl rfl ?_; simp only [put_lit, eval_lit, BigFrame.eval_const, List.set_cons_succ, List.set_cons_zero, List.getD_cons_succ, List.getD_cons_zero]) | (refine wpE_run rfl rfl (by simp) (fun w1 hx1 _ K hK => by go_step; exact hK _ (Ext.refl _)) ?_; simp only [put_lit, List.set_cons_succ, List.set_cons_zero]))
                refine wpE_run rfl rfl (by simp) (fun w1 hx1 hfc K9 hK9 => by clear hfc; go_wp2_with (go_at_call 43; refine (refopen43_any _ _ nb q c (Kn n) F e X (ksn n (keyF n f)) _ hnb (by omega) (HRR.out.ext hx1) (HQ.out.ext hx1) hX (HD.out.ext hx1) (Kn_ge n) (Kn_le n) (ksn_lt n _ HKF.out)).mono ?_; rintro e2 w2 ⟨hx2, h2⟩; rcases h2 with ⟨hw, _⟩ | ⟨_, rfl⟩; exact absurd hw HW.out; exact hK9 _ hx2)) ?_
                simp only [put_lit, List.set_cons_succ, List.set_cons_zero]
                (first | (refine wpE_move rfl rfl rfl ?_; simp only [put_lit, eval_lit, BigFrame.eval_const, List.set_cons_succ, List.set_cons_zero, List.getD_cons_succ, List.getD_cons_zero]) | (refine wpE_run rfl rfl (by simp) (fun w1 hx1 _ K hK => by go_step; exact hK _ (Ext.refl _)) ?_; simp only [put_lit, List.set_cons_succ, List.set_cons_zero]))
                (first | (refine wpE_move rfl rfl rfl ?_; simp only [put_lit, eval_lit, BigFrame.eval_const, List.set_cons_succ, List.set_cons_zero, List.getD_cons_succ, List.getD_cons_zero]) | (refine wpE_run rfl rfl (by simp) (fun w1 hx1 _ K hK => by go_step; exact hK _ (Ext.refl _)) ?_; simp only [put_lit, List.set_cons_succ, List.set_cons_zero]))
                (first | (refine wpE_move rfl rfl rfl ?_; simp only [put_lit, eval_lit, BigFrame.eval_const, List.set_cons_succ, List.set_cons_zero, List.getD_cons_succ, List.getD_cons_zero]) | (refine wpE_run rfl rfl (by simp) (fun w1 hx1 _ K hK => by go_step; exact hK _ (Ext.refl _)) ?_; simp only [put_lit, List.set_cons_succ, List.set_cons_zero]))
                (first | (refine wpE_move rfl rfl rfl ?_; simp only [put_lit, eval_lit, BigFrame.eval_const, List.set_cons_succ, List.set_cons_zero, List.getD_cons_succ, List.getD_cons_zero]) | (refine wpE_run rfl rfl (by simp) (fun w1 hx1 _ K hK => by go_step; exact hK _ (Ext.refl _)) ?_; simp only [put_lit, List.set_cons_succ, List.set_cons_zero]))
                (first | (refine wpE_move rfl rfl rfl ?_; simp only [put_lit, eval_lit, BigFrame.eval_const, List.set_cons_succ, List.set_cons_zero, List.getD_cons_succ, List.getD_cons_zero]) | (refine wpE_run rfl rfl (by simp) (fun w1 hx1 _ K hK => by go_step; exact hK _ (Ext.refl _)) ?_; simp only [put_lit, List.set_cons_succ, List.set_cons_zero]))
                refine wpE_nil ?_
                intro w5 hw5 hF
                simp only [List.drop_succ_cons, List.drop_zero]
                clear hF
                have HX5 := Lib.hid (HXR.out.trans hw5)
                clear hw5
                go_wp2_with fail
                refine (eqb41_any _ _ 0 0 (fun _ => 0) (fun _ => 0) _ nilRd nilRd).mono ?_
                rintro e6 w6 ⟨rfl, hx6⟩
                rw [eqU_true rfl (fun _ _ => rfl)]
                have HX6 := Lib.hid (HX5.out.trans hx6)
                clear hx6
                go_wp2_with fail
                go_roundw
                case rel => exact ⟨i + 1, by omega, by go_num, HX6.out⟩
                case measure => simp [intOf]; omega
        · obtain rfl : i = 2 := by omega
          have hi2' : ¬ ((2 : Nat) : Int) < 2 := by omega
          go_wp2_with fail
          refine (works34_any _).mono ?_
          rintro e16 w16 ⟨rfl, hx16⟩
          have HX16 := Lib.hid (((HX5.out.trans HX9.out).trans HXR.out).trans hx16)
          clear hx16
          go_wp2_with fail
          go_ret
          exact ⟨rfl, HX16.out⟩
    · have hq0' : (0 : Int) < (q : Int) := by omega
      obtain ⟨ge, oe, ce, ee, hce, hfe⟩ := (HQ0.out.ext (HX5.out.trans HX6.out)).form hq0
      obtain ⟨rfl, rfl⟩ : so = some ⟨ge, oe, none⟩ ∧ tc = ce := by cases ee; exact ⟨rfl, rfl⟩
      obtain ⟨q1, hq1⟩ : ∃ q1, q = q1 + 1 := ⟨q - 1, by omega⟩
      have HQ1 := Lib.hid (show ((q : Int) - 1) = (q1 : Int) from by omega)
      have hq1l : (q1 : Int) < (q : Int) := by omega
      obtain ⟨l0, he0⟩ := hfe 0 (by omega)
      rw [Nat.add_zero] at he0
      have HE0 := Lib.hid he0
      obtain ⟨l1, he1⟩ := hfe q1 (by omega)
      have HE1 := Lib.hid he1
      clear he0 he1 hq0 hq1
      clear hfe ee
      obtain ⟨ix, hix⟩ : ∃ ix, ix = e 0 % (p + 16) := ⟨_, rfl⟩
      have hil : ix < p + 16 := by rw [hix]; exact Nat.mod_lt _ (by omega)
      have HIX := Lib.hid (show ((e 0 : Nat) : Int) % ((p : Int) + 16) = (ix : Int) from by rw [hix]; simp)
      obtain ⟨lS, cS⟩ := HFS.out ix hil
      have HCS := Lib.hid ((HBS.out.cell (off + ix)).trans cS)
      generalize sealP (Kn n) (ksn n (keyF n f)) X p q g e ix = a1 at lS cS HCS
      generalize e q1 = a2 at l1 HE1
      generalize e 0 = a0 at l0 HE0 HIX
      have hil' : (ix : Int) < (p : Int) + 16 := by omega
      clear hix cS
      go_upto_region 8 with fail
      apply wp_region_mid 18 [.det _, .det _, .det _, .det _, .det _, .det _, .det _, .det _, .det _, .det _, .det _, .det _, .det _, .det _, .det _, .det _, .det _, .det _] (by kernel_rfl) rfl (by kernel_rfl)
      · (first | (refine wpE_move rfl rfl rfl ?_; simp only [put_lit, eval_lit, BigFrame.eval_const, List.set_cons_succ, List.set_cons_zero, List.getD_cons_succ, List.getD_cons_zero]) | (refine wpE_run rfl rfl (by simp) (fun w1 hx1 _ K hK => by go_step; exact hK _ (Ext.refl _)) ?_; simp only [put_lit, List.set_cons_succ, List.set_cons_zero]))
        (first | (refine wpE_move rfl rfl rfl ?_; simp only [put_lit, eval_lit, BigFrame.eval_const, List.set_cons_succ, List.set_cons_zero, List.getD_cons_succ, List.getD_cons_zero]) | (refine wpE_run rfl rfl (by simp) (fun w1 hx1 _ K hK => by go_step; exact hK _ (Ext.refl _)) ?_; simp only [put_lit, List.set_cons_succ, List.set_cons_zero]))
        (first | (refine wpE_move rfl rfl rfl ?_; simp only [put_lit, eval_lit, BigFrame.eval_const, List.set_cons_succ, List.set_cons_zero, List.getD_cons_succ, List.getD_cons_zero]) | (refine wpE_run rfl rfl (by simp) (fun w1 hx1 _ K hK => by go_step; exact hK _ (Ext.refl _)) ?_; simp only [put_lit, List.set_cons_succ, List.set_cons_zero]))
        (refine wpE_run rfl rfl (by simp) (fun w1 hx1 _ K hK => by have hc := hx1.cell HE0.out; go_step; exact hK _ (Ext.refl _)) ?_); simp only [put_lit, List.set_cons_succ, List.set_cons_zero]
        (first | (refine wpE_move rfl rfl rfl ?_; simp only [put_lit, eval_lit, BigFrame.eval_const, List.set_cons_succ, List.set_cons_zero, List.getD_cons_succ, List.getD_cons_zero]) | (refine wpE_run rfl rfl (by simp) (fun w1 hx1 _ K hK => by go_step; exact hK _ (Ext.refl _)) ?_; simp only [put_lit, List.set_cons_succ, List.set_cons_zero]))
        (first | (refine wpE_move rfl rfl rfl ?_; simp only [put_lit, eval_lit, BigFrame.eval_const, List.set_cons_succ, List.set_cons_zero, List.getD_cons_succ, List.getD_cons_zero]) | (refine wpE_run rfl rfl (by simp) (fun w1 hx1 _ K hK => by go_step; exact hK _ (Ext.refl _)) ?_; simp only [put_lit, List.set_cons_succ, List.set_cons_zero]))
        (first | (refine wpE_move rfl rfl rfl ?_; simp only [put_lit, eval_lit, BigFrame.eval_const, List.set_cons_succ, List.set_cons_zero, List.getD_cons_succ, List.getD_cons_zero]) | (refine wpE_run rfl rfl (by simp) (fun w1 hx1 _ K hK => by go_step; exact hK _ (Ext.refl _)) ?_; simp only [put_lit, List.set_cons_succ, List.set_cons_zero]))
        (first | (refine wpE_move rfl rfl rfl ?_; simp only [put_lit, eval_lit, BigFrame.eval_const, List.set_cons_succ, List.set_cons_zero, List.getD_cons_succ, List.getD_cons_zero]) | (refine wpE_run rfl rfl (by simp) (fun w1 hx1 _ K hK => by go_step; exact hK _ (Ext.refl _)) ?_; simp only [put_lit, List.set_cons_succ, List.set_cons_zero]))
        rw [HIX.out]
        (first | (refine wpE_move rfl rfl rfl ?_; simp only [put_lit, eval_lit, BigFrame.eval_const, List.set_cons_succ, List.set_cons_zero, List.getD_cons_succ, List.getD_cons_zero]) | (refine wpE_run rfl rfl (by simp) (fun w1 hx1 _ K hK => by go_step; exact hK _ (Ext.refl _)) ?_; simp only [put_lit, List.set_cons_succ, List.set_cons_zero]))
        (refine wpE_run rfl rfl (by simp) (fun w1 hx1 _ K hK => by have hc := hx1.cell HCS.out; go_step; exact hK _ (Ext.refl _)) ?_); simp only [put_lit, List.set_cons_succ, List.set_cons_zero]
        (first | (refine wpE_move rfl rfl rfl ?_; simp only [put_lit, eval_lit, BigFrame.eval_const, List.set_cons_succ, List.set_cons_zero, List.getD_cons_succ, List.getD_cons_zero]) | (refine wpE_run rfl rfl (by simp) (fun w1 hx1 _ K hK => by go_step; exact hK _ (Ext.refl _)) ?_; simp only [put_lit, List.set_cons_succ, List.set_cons_zero]))
        (first | (refine wpE_move rfl rfl rfl ?_; simp only [put_lit, eval_lit, BigFrame.eval_const, List.set_cons_succ, List.set_cons_zero, List.getD_cons_succ, List.getD_cons_zero]) | (refine wpE_run rfl rfl (by simp) (fun w1 hx1 _ K hK => by go_step; exact hK _ (Ext.refl _)) ?_; simp only [put_lit, List.set_cons_succ, List.set_cons_zero]))
        (first | (refine wpE_move rfl rfl rfl ?_; simp only [put_lit, eval_lit, BigFrame.eval_const, List.set_cons_succ, List.set_cons_zero, List.getD_cons_succ, List.getD_cons_zero]) | (refine wpE_run rfl rfl (by simp) (fun w1 hx1 _ K hK => by go_step; exact hK _ (Ext.refl _)) ?_; simp only [put_lit, List.set_cons_succ, List.set_cons_zero]))
        (first | (refine wpE_move rfl rfl rfl ?_; simp only [put_lit, eval_lit, BigFrame.eval_const, List.set_cons_succ, List.set_cons_zero, List.getD_cons_succ, List.getD_cons_zero]) | (refine wpE_run rfl rfl (by simp) (fun w1 hx1 _ K hK => by go_step; exact hK _ (Ext.refl _)) ?_; simp only [put_lit, List.set_cons_succ, List.set_cons_zero]))
        rw [HQ1.out]
        (first | (refine wpE_move rfl rfl rfl ?_; simp only [put_lit, eval_lit, BigFrame.eval_const, List.set_cons_succ, List.set_cons_zero, List.getD_cons_succ, List.getD_cons_zero]) | (refine wpE_run rfl rfl (by simp) (fun w1 hx1 _ K hK => by go_step; exact hK _ (Ext.refl _)) ?_; simp only [put_lit, List.set_cons_succ, List.set_cons_zero]))
        (refine wpE_run rfl rfl (by simp) (fun w1 hx1 _ K hK => by have hc := hx1.cell HE1.out; go_step; exact hK _ (Ext.refl _)) ?_); simp only [put_lit, List.set_cons_succ, List.set_cons_zero]
        (first | (refine wpE_move rfl rfl rfl ?_; simp only [put_lit, eval_lit, BigFrame.eval_const, List.set_cons_succ, List.set_cons_zero, List.getD_cons_succ, List.getD_cons_zero]) | (refine wpE_run rfl rfl (by simp) (fun w1 hx1 _ K hK => by go_step; exact hK _ (Ext.refl _)) ?_; simp only [put_lit, List.set_cons_succ, List.set_cons_zero]))
        rw [u8_xor_nat _ _ lS l1]
        (first | (refine wpE_move rfl rfl rfl ?_; simp only [put_lit, eval_lit, BigFrame.eval_const, List.set_cons_succ, List.set_cons_zero, List.getD_cons_succ, List.getD_cons_zero]) | (refine wpE_run rfl rfl (by simp) (fun w1 hx1 _ K hK => by go_step; exact hK _ (Ext.refl _)) ?_; simp only [put_lit, List.set_cons_succ, List.set_cons_zero]))
        refine wpE_nil ?_
        intro w7 hw7 hF
        simp only [List.drop_succ_cons, List.drop_zero]
        clear hF
        have hbs7 := HBS.out.ext hw7
        have hc7 := hbs7.cell (off + ix)
        have hf7 := hbs7.frozen (off + ix)
        have hcc := hw7.cell HCS.out
        have hs8 := OwnF.stored hbs hbs7 hcs hss HFS.out ix (a1 ^^^ a2) (xor_lt lS l1) hil
        have hx8 : Ext w5 (w7.setCell ⟨gs, off + ix, none⟩ (.int .u8 ((a1 ^^^ a2 : Nat) : Int))) := (HX6.out.trans hw7).setCell hbs _
        have HS0 := Lib.hid hs8.rd
        have HX80 := Lib.hid hx8
        clear hc7 hs8 hx8 hbs7
        go_upto_region 9 with fail
        obtain ⟨w8, hw8⟩ : ∃ w8, w8 = w7.setCell ⟨gs, off + ix, none⟩ (.int .u8 ((a1 ^^^ a2 : Nat) : Int)) := ⟨_, rfl⟩
        have HS := HS0
        have HX8 := HX80
        rw [← hw8] at HS HX8 ⊢
        clear hw8 HS0 HX80 hcc hf7 hw7 HE0 HE1 HCS HIX HQ1 hil' HBS HFS HS6
        go_wp2_with fail
        have hg0 : Blk (w8.alloc (.cells #[.slice uo p uc, .slice (some ⟨gs, off, none⟩) (p + 16 : Nat) cs] 22)) w8.heap.size 22 #[.slice uo p uc, .slice (some ⟨gs, off, none⟩) (p + 16 : Nat) cs] := Blk.new _ _ _
        have hxa : Ext w8 (w8.alloc (.cells #[.slice uo p uc, .slice (some ⟨gs, off, none⟩) (p + 16 : Nat) cs] 22)) := Ext.alloc _ _
        try simp only [put_lit, put_nil7, List.set_cons_succ, List.set_cons_zero]
        obtain ⟨gr, hgr⟩ : ∃ gr, gr = w8.heap.size := ⟨_, rfl⟩
        rw [← hgr] at hg0 ⊢
        try generalize Value.bool (decide (0 < q)) = b63
        generalize w8.alloc (.cells #[.slice uo p uc, .slice (some ⟨gs, off, none⟩) (p + 16 : Nat) cs] 22) = w9 at hg0 hxa ⊢
        have HG9 := Lib.hid hg0
        have HX9 := Lib.hid (HX8.out.trans hxa)
        have HS9 := Lib.hid (HS.out.ext hxa)
        clear hg0 hxa hgr hq0'
        go_loopw [16] (fun v16 wr => ∃ i : Nat, i ≤ 2 ∧ v16 = .int .i64 i ∧ Ext w9 wr) (fun v16 _ => 2 - (intOf v16).toNat)
        case atStart => exact ⟨0, by omega, rfl, Ext.refl _⟩
        case round =>
          obtain ⟨i, hi, rfl, hx⟩ := hrel
          have HXR := Lib.hid hx
          clear hx
          by_cases hi2 : i < 2
          · have hi2' : (i : Int) < 2 := by omega
            obtain ⟨oo, oc, nb, F, hcell, hrr, hnb, hnoc⟩ : ∃ oo oc nb F, wr.cell? ⟨gr, i, none⟩ = some (.slice oo nb oc) ∧ RdF wr (.slice oo nb oc) nb F ∧ nb ≤ 65552 ∧ nb ≤ oc := by
              rcases (by omega : i = 0 ∨ i = 1) with rfl | rfl
              · exact ⟨uo, uc, p, g, ((HG9.out.ext HXR.out).cell 0).trans rfl, HP.out.ext ((HX5.out.trans HX9.out).trans HXR.out), by omega, by omega⟩
              · exact ⟨_, _, p + 16, _, ((HG9.out.ext HXR.out).cell 1).trans rfl, HS9.out.ext HXR.out, by omega, by omega⟩
            have HCELL := Lib.hid hcell
            have HRR := Lib.hid hrr
            have HB := Lib.hid (HB5.out.ext (HX9.out.trans HXR.out))
            have HC := Lib.hid (HC5.out.ext (HX9.out.trans HXR.out))
            have HD := Lib.hid (HD5.out.ext (HX9.out.trans HXR.out))
            have HQ := Lib.hid (HQ0.out.ext ((HX5.out.trans HX9.out).trans HXR.out))
            clear hcell hrr
            by_cases hW : WholeP (Kn n) (ksn n (keyF n f)) X nb q F e
            · have HW := Lib.hid hW
              clear hW
              go_upto_region 13 with fail
              apply wp_region_mid 13 [.det _, .det _, .det _, .det _, .det _, .det _, .det _, .any (TupV (nb - 16) (hideP (Kn n) (ksn n (keyF n f)) X F)), .any (TupV (nb - 16) (hideP (Kn n) (ksn n (keyF n f)) X F)), .any (RdV (nb - 16) (hideP (Kn n) (ksn n (keyF n f)) X F)), .det _, .any (RdV (nb - 16) (hideP (Kn n) (ksn n (keyF n f)) X F)), .det _] (by kernel_rfl) rfl (by kernel_rfl)
              · skip
                (first | (refine wpE_move rfl rfl rfl ?_; simp only [put_lit, eval_lit, BigFrame.eval_const, List.set_cons_succ, List.set_cons_zero, List.getD_cons_succ, List.getD_cons_zero]) | (refine wpE_run rfl rfl (by simp) (fun w1 hx1 _ K hK => by go_step; exact hK _ (Ext.refl _)) ?_; simp only [put_lit, List.set_cons_succ, List.set_cons_zero]))
                refine wpE_run rfl rfl (by simp) (fun w' hx' _ K9 hK9 => wp_loadA 55 _ rfl _ 0 12 rfl agg55 sz55 _ _ (HB.out.ext hx') (by simp [row_size]) (row 12 X) (row_whole _ _) (hK9 _ (Ext.refl _))) ?_
                simp only [put_lit, List.set_cons_succ, List.set_cons_zero]
                (first | (refine wpE_move rfl rfl rfl ?_; simp only [put_lit, eval_lit, BigFrame.eval_const, List.set_cons_succ, List.set_cons_zero, List.getD_cons_succ, List.getD_cons_zero]) | (refine wpE_run rfl rfl (by simp) (fun w1 hx1 _ K hK => by go_step; exact hK _ (Ext.refl _)) ?_; simp only [put_lit, List.set_cons_succ, List.set_cons_zero]))
                (first | (refine wpE_move rfl rfl rfl ?_; simp only [put_lit, eval_lit, BigFrame.eval_const, List.set_cons_succ, List.set_cons_zero, List.getD_cons_succ, List.getD_cons_zero]) | (refine wpE_run rfl rfl (by simp) (fun w1 hx1 _ K hK => by go_step; exact hK _ (Ext.refl _)) ?_; simp only [put_lit, List.set_cons_succ, List.set_cons_zero]))
                (first | (refine wpE_move rfl rfl rfl ?_; simp only [put_lit, eval_lit, BigFrame.eval_const, List.set_cons_succ, List.set_cons_zero, List.getD_cons_succ, List.getD_cons_zero]) | (refine wpE_run rfl rfl (by simp) (fun w1 hx1 _ K hK => by go_step; exact hK _ (Ext.refl _)) ?_; simp only [put_lit, List.set_cons_succ, List.set_cons_zero]))
                (refine wpE_run rfl rfl (by simp) (fun w1 hx1 _ K hK => by have hc := hx1.cell HCELL.out; go_step; exact hK _ (Ext.refl _)) ?_); simp only [put_lit, List.set_cons_succ, List.set_cons_zero]
                (first | (refine wpE_move rfl rfl rfl ?_; simp only [put_lit, eval_lit, BigFrame.eval_const, List.set_cons_succ, List.set_cons_zero, List.getD_cons_succ, List.getD_cons_zero]) | (refine wpE_run rfl rfl (by simp) (fun w1 hx1 _ K hK => by go_step; exact hK _ (Ext.refl _)) ?_; simp only [put_lit, List.set_cons_succ, List.set_cons_zero]))
                refine wpE_any (V := TupV (nb - 16) (hideP (Kn n) (ksn n (keyF n f)) X F)) rfl (fun _ _ _ hx h => h.mono hx) rfl (by simp) (fun w1 hx1 hfc K9 hK9 => by clear hfc; go_wp2_with (go_at_call 42; refine (open42_any _ _ nb q b (Kn n) F e X (ksn n (keyF n f)) _ hnb (by omega) (HRR.out.ext hx1) (HQ.out.ext hx1) hX (HC.out.ext hx1) (Kn_ge n) (Kn_le n)).mono ?_; rintro e2 w2 ⟨hx2, h2⟩; rcases h2 with ⟨_, v2, rfl, ho2⟩ | ⟨hnw, _⟩; exact hK9 _ _ hx2 ⟨v2, rfl, ho2.rd⟩; exact absurd HW.out hnw)) ?_
                intro u97
                simp only [put_lit, List.set_cons_succ, List.set_cons_zero]
                refine wpE_any (V := TupV (nb - 16) (hideP (Kn n) (ksn n (keyF n f)) X F)) rfl (fun _ _ _ hx h => h.mono hx) rfl (by simp) (fun w1 hx1 hfc K9 hK9 => by have hr := hfc (97, TupV (nb - 16) (hideP (Kn n) (ksn n (keyF n f)) X F) u97) (by simp) (by show (97 : Nat) ∈ _; decide); go_step; exact hK9 _ _ (Ext.refl _) hr) ?_
                intro u89
                simp only [put_lit, List.set_cons_succ, List.set_cons_zero]
                refine wpE_any (V := RdV (nb - 16) (hideP (Kn n) (ksn n (keyF n f)) X F)) rfl (fun _ _ _ hx h => h.mono hx) rfl (by simp) (fun w1 hx1 hfc K9 hK9 => by obtain ⟨v', rfl, hr⟩ := hfc (89, TupV (nb - 16) (hideP (Kn n) (ksn n (keyF n f)) X F) u89) (by simp) (by show (89 : Nat) ∈ _; decide); go_step; exact hK9 _ _ (Ext.refl _) hr) ?_
                intro u98
                simp only [put_lit, List.set_cons_succ, List.set_cons_zero]
                refine wpE_run rfl rfl (by simp) (fun w1 hx1 hfc K9 hK9 => by obtain ⟨v', rfl, hr⟩ := hfc (89, TupV (nb - 16) (hideP (Kn n) (ksn n (keyF n f)) X F) u89) (by simp) (by show (89 : Nat) ∈ _; decide); go_step; exact hK9 _ (Ext.refl _)) ?_
                simp only [put_lit, List.set_cons_succ, List.set_cons_zero]
                refine wpE_any (V := RdV (nb - 16) (hideP (Kn n) (ksn n (keyF n f)) X F)) rfl (fun _ _ _ hx h => h.mono hx) rfl (by simp) (fun w1 hx1 hfc K9 hK9 => by have hr := hfc (98, RdV (nb - 16) (hideP (Kn n) (ksn n (keyF n f)) X F) u98) (by simp) (by show (98 : Nat) ∈ _; decide); go_step; exact hK9 _ _ (Ext.refl _) hr) ?_
                intro u17
                simp only [put_lit, List.set_cons_succ, List.set_cons_zero]
                (first | (refine wpE_move rfl rfl rfl ?_; simp only [put_lit, eval_lit, BigFrame.eval_const, List.set_cons_succ, List.set_cons_zero, List.getD_cons_succ, List.getD_cons_zero]) | (refine wpE_run rfl rfl (by simp) (fun w1 hx1 _ K hK => by go_step; exact hK _ (Ext.refl _)) ?_; simp only [put_lit, List.set_cons_succ, List.set_cons_zero]))
                refine wpE_nil ?_
                intro w5 hw5 hF
                simp only [List.drop_succ_cons, List.drop_zero]
                have HA5 := Lib.hid (show RdF w5 u17 (nb - 16) (hideP (Kn n) (ksn n (keyF n f)) X F) from hF (17, RdV (nb - 16) (hideP (Kn n) (ksn n (keyF n f)) X F) u17) (by simp))
                clear hF
                have HB5 := Lib.hid (HB.out.ext hw5)
                have HC5 := Lib.hid (HC.out.ext hw5)
                have HD5 := Lib.hid (HD.out.ext hw5)
                have HRR5 := Lib.hid (HRR.out.ext hw5)
                have HQ5 := Lib.hid (HQ.out.ext hw5)
                have HCELL5 := Lib.hid (hw5.cell HCELL.out)
                have HXR5 := Lib.hid (HXR.out.trans hw5)
                clear hw5 HB HC HD HRR HQ HCELL HXR
                have HB := HB5
                have HC := HC5
                have HD := HD5
                have HRR := HRR5
                have HQ := HQ5
                have HCELL := HCELL5
                have HXR := HXR5
                clear HB5 HC5 HD5 HRR5 HQ5 HCELL5 HXR5
                go_upto_region 14 with fail
                apply wp_region_mid 13 [.det _, .det _, .det _, .det _, .det _, .det _, .det _, .any (TupV (nb - 16) (hideP (Kn n) (ksn n (keyF n f)) X F)), .any (TupV (nb - 16) (hideP (Kn n) (ksn n (keyF n f)) X F)), .any (RdV (nb - 16) (hideP (Kn n) (ksn n (keyF n f)) X F)), .det _, .any (RdV (nb - 16) (hideP (Kn n) (ksn n (keyF n f)) X F)), .det _] (by kernel_rfl) rfl (by kernel_rfl)
                · skip
                  (first | (refine wpE_move rfl rfl rfl ?_; simp only [put_lit, eval_lit, BigFrame.eval_const, List.set_cons_succ, List.set_cons_zero, List.getD_cons_succ, List.getD_cons_zero]) | (refine wpE_run rfl rfl (by simp) (fun w1 hx1 _ K hK => by go_step; exact hK _ (Ext.refl _)) ?_; simp only [put_lit, List.set_cons_succ, List.set_cons_zero]))
                  refine wpE_run rfl rfl (by simp) (fun w' hx' _ K9 hK9 => wp_loadA 55 _ rfl _ 0 12 rfl agg55 sz55 _ _ (HB.out.ext hx') (by simp [row_size]) (row 12 X) (row_whole _ _) (hK9 _ (Ext.refl _))) ?_
                  simp only [put_lit, List.set_cons_succ, List.set_cons_zero]
                  (first | (refine wpE_move rfl rfl rfl ?_; simp only [put_lit, eval_lit, BigFrame.eval_const, List.set_cons_succ, List.set_cons_zero, List.getD_cons_succ, List.getD_cons_zero]) | (refine wpE_run rfl rfl (by simp) (fun w1 hx1 _ K hK => by go_step; exact hK _ (Ext.refl _)) ?_; simp only [put_lit, List.set_cons_succ, List.set_cons_zero]))
                  (first | (refine wpE_move rfl rfl rfl ?_; simp only [put_lit, eval_lit, BigFrame.eval_const, List.set_cons_succ, List.set_cons_zero, List.getD_cons_succ, List.getD_cons_zero]) | (refine wpE_run rfl rfl (by simp) (fun w1 hx1 _ K hK => by go_step; exact hK _ (Ext.refl _)) ?_; simp only [put_lit, List.set_cons_succ, List.set_cons_zero]))
                  (first | (refine wpE_move rfl rfl rfl ?_; simp only [put_lit, eval_lit, BigFrame.eval_const, List.set_cons_succ, List.set_cons_zero, List.getD_cons_succ, List.getD_cons_zero]) | (refine wpE_run rfl rfl (by simp) (fun w1 hx1 _ K hK => by go_step; exact hK _ (Ext.refl _)) ?_; simp only [put_lit, List.set_cons_succ, List.set_cons_zero]))
                  (refine wpE_run rfl rfl (by simp) (fun w1 hx1 _ K hK => by have hc := hx1.cell HCELL.out; go_step; exact hK _ (Ext.refl _)) ?_); simp only [put_lit, List.set_cons_succ, List.set_cons_zero]
                  (first | (refine wpE_move rfl rfl rfl ?_; simp only [put_lit, eval_lit, BigFrame.eval_const, List.set_cons_succ, List.set_cons_zero, List.getD_cons_succ, List.getD_cons_zero]) | (refine wpE_run rfl rfl (by simp) (fun w1 hx1 _ K hK => by go_step; exact hK _ (Ext.refl _)) ?_; simp only [put_lit, List.set_cons_succ, List.set_cons_zero]))
                  refine wpE_any (V := TupV (nb - 16) (hideP (Kn n) (ksn n (keyF n f)) X F)) rfl (fun _ _ _ hx h => h.mono hx) rfl (by simp) (fun w1 hx1 hfc K9 hK9 => by clear hfc; go_wp2_with (go_at_call 43; refine (refopen43_any _ _ nb q c (Kn n) F e X (ksn n (keyF n f)) _ hnb (by omega) (HRR.out.ext hx1) (HQ.out.ext hx1) hX (HD.out.ext hx1) (Kn_ge n) (Kn_le n) (ksn_lt n _ HKF.out)).mono ?_; rintro e2 w2 ⟨hx2, h2⟩; rcases h2 with ⟨_, v2, rfl, ho2⟩ | ⟨hnw, _⟩; exact hK9 _ _ hx2 ⟨v2, rfl, ho2⟩; exact absurd HW.out hnw)) ?_
                  intro u108
                  simp only [put_lit, List.set_cons_succ, List.set_cons_zero]
                  refine wpE_any (V := TupV (nb - 16) (hideP (Kn n) (ksn n (keyF n f)) X F)) rfl (fun _ _ _ hx h => h.mono hx) rfl (by simp) (fun w1 hx1 hfc K9 hK9 => by have hr := hfc (108, TupV (nb - 16) (hideP (Kn n) (ksn n (keyF n f)) X F) u108) (by simp) (by show (108 : Nat) ∈ _; decide); go_step; exact hK9 _ _ (Ext.refl _) hr) ?_
                  intro u100
                  simp only [put_lit, List.set_cons_succ, List.set_cons_zero]
                  refine wpE_any (V := RdV (nb - 16) (hideP (Kn n) (ksn n (keyF n f)) X F)) rfl (fun _ _ _ hx h => h.mono hx) rfl (by simp) (fun w1 hx1 hfc K9 hK9 => by obtain ⟨v', rfl, hr⟩ := hfc (100, TupV (nb - 16) (hideP (Kn n) (ksn n (keyF n f)) X F) u100) (by simp) (by show (100 : Nat) ∈ _; decide); go_step; exact hK9 _ _ (Ext.refl _) hr) ?_
                  intro u109
                  simp only [put_lit, List.set_cons_succ, List.set_cons_zero]
                  refine wpE_run rfl rfl (by simp) (fun w1 hx1 hfc K9 hK9 => by obtain ⟨v', rfl, hr⟩ := hfc (100, TupV (nb - 16) (hideP (Kn n) (ksn n (keyF n f)) X F) u100) (by simp) (by show (100 : Nat) ∈ _; decide); go_step; exact hK9 _ (Ext.refl _)) ?_
                  simp only [put_lit, List.set_cons_succ, List.set_cons_zero]
                  refine wpE_any (V := RdV (nb - 16) (hideP (Kn n) (ksn n (keyF n f)) X F)) rfl (fun _ _ _ hx h => h.mono hx) rfl (by simp) (fun w1 hx1 hfc K9 hK9 => by have hr := hfc (109, RdV (nb - 16) (hideP (Kn n) (ksn n (keyF n f)) X F) u109) (by simp) (by show (109 : Nat) ∈ _; decide); go_step; exact hK9 _ _ (Ext.refl _) hr) ?_
                  intro u19
                  simp only [put_lit, List.set_cons_succ, List.set_cons_zero]
                  (first | (refine wpE_move rfl rfl rfl ?_; simp only [put_lit, eval_lit, BigFrame.eval_const, List.set_cons_succ, List.set_cons_zero, List.getD_cons_succ, List.getD_cons_zero]) | (refine wpE_run rfl rfl (by simp) (fun w1 hx1 _ K hK => by go_step; exact hK _ (Ext.refl _)) ?_; simp only [put_lit, List.set_cons_succ, List.set_cons_zero]))
                  refine wpE_nil ?_
                  intro w5 hw5 hF
                  simp only [List.drop_succ_cons, List.drop_zero]
                  have HB19 := Lib.hid (show RdF w5 u19 (nb - 16) (hideP (Kn n) (ksn n (keyF n f)) X F) from hF (19, RdV (nb - 16) (hideP (Kn n) (ksn n (keyF n f)) X F) u19) (by simp))
                  clear hF
                  obtain ⟨ao5, ac5, rfl, _⟩ := HA5.out.len
                  obtain ⟨bo5, bc5, rfl, _⟩ := HB19.out.len
                  have HX5 := Lib.hid (HXR.out.trans hw5)
                  have HA6 := Lib.hid (HA5.out.ext hw5)
                  clear hw5
                  go_wp2_with fail
                  refine (eqb41_any _ _ (nb - 16) (nb - 16) _ _ _ HA6.out HB19.out).mono ?_
                  rintro e6 w6 ⟨rfl, hx6⟩
                  rw [eqU_true rfl (fun _ _ => rfl)]
                  have HX6 := Lib.hid (HX5.out.trans hx6)
                  clear hx6
                  go_wp2_with fail
                  go_roundw
                  case rel => exact ⟨i + 1, by omega, by go_num, HX6.out⟩
                  case measure => simp [intOf]; omega
            · have HW := Lib.hid hW
              clear hW
              go_upto_region 13 with fail
              apply wp_region_mid 13 [.det _, .det _, .det _, .det _, .det _, .det _, .det _, .det _, .det _, .det _, .det _, .det _, .det _] (by kernel_rfl) rfl (by kernel_rfl)
              · skip
                (first | (refine wpE_move rfl rfl rfl ?_; simp only [put_lit, eval_lit, BigFrame.eval_const, List.set_cons_succ, List.set_cons_zero, List.getD_cons_succ, List.getD_cons_zero]) | (refine wpE_run rfl rfl (by simp) (fun w1 hx1 _ K hK => by go_step; exact hK _ (Ext.refl _)) ?_; simp only [put_lit, List.set_cons_succ, List.set_cons_zero]))
                refine wpE_run rfl rfl (by simp) (fun w' hx' _ K9 hK9 => wp_loadA 55 _ rfl _ 0 12 rfl agg55 sz55 _ _ (HB.out.ext hx') (by simp [row_size]) (row 12 X) (row_whole _ _) (hK9 _ (Ext.refl _))) ?_
                simp only [put_lit, List.set_cons_succ, List.set_cons_zero]
                (first | (refine wpE_move rfl rfl rfl ?_; simp only [put_lit, eval_lit, BigFrame.eval_const, List.set_cons_succ, List.set_cons_zero, List.getD_cons_succ, List.getD_cons_zero]) | (refine wpE_run rfl rfl (by simp) (fun w1 hx1 _ K hK => by go_step; exact hK _ (Ext.refl _)) ?_; simp only [put_lit, List.set_cons_succ, List.set_cons_zero]))
                (first | (refine wpE_move rfl rfl rfl ?_; simp only [put_lit, eval_lit, BigFrame.eval_const, List.set_cons_succ, List.set_cons_zero, List.getD_cons_succ, List.getD_cons_zero]) | (refine wpE_run rfl rfl (by simp) (fun w1 hx1 _ K hK => by go_step; exact hK _ (Ext.refl _)) ?_; simp only [put_lit, List.set_cons_succ, List.set_cons_zero]))
                (first | (refine wpE_move rfl rfl rfl ?_; simp only [put_lit, eval_lit, BigFrame.eval_const, List.set_cons_succ, List.set_cons_zero, List.getD_cons_succ, List.getD_cons_zero]) | (refine wpE_run rfl rfl (by simp) (fun w1 hx1 _ K hK => by go_step; exact hK _ (Ext.refl _)) ?_; simp only [put_lit, List.set_cons_succ, List.set_cons_zero]))
                (refine wpE_run rfl rfl (by simp) (fun w1 hx1 _ K hK => by have hc := hx1.cell HCELL.out; go_step; exact hK _ (Ext.refl _)) ?_); simp only [put_lit, List.set_cons_succ, List.set_cons_zero]
                (first | (refine wpE_move rfl rfl rfl ?_; simp only [put_lit, eval_lit, BigFrame.eval_const, List.set_cons_succ, List.set_cons_zero, List.getD_cons_succ, List.getD_cons_zero]) | (refine wpE_run rfl rfl (by simp) (fun w1 hx1 _ K hK => by go_step; exact hK _ (Ext.refl _)) ?_; simp only [put_lit, List.set_cons_succ, List.set_cons_zero]))
                refine wpE_run rfl rfl (by simp) (fun w1 hx1 hfc K9 hK9 => by clear hfc; go_wp2_with (go_at_call 42; refine (open42_any _ _ nb q b (Kn n) F e X (ksn n (keyF n f)) _ hnb (by omega) (HRR.out.ext hx1) (HQ.out.ext hx1) hX (HC.out.ext hx1) (Kn_ge n) (Kn_le n)).mono ?_; rintro e2 w2 ⟨hx2, h2⟩; rcases h2 with ⟨hw, _⟩ | ⟨_, rfl⟩; exact absurd hw HW.out; exact hK9 _ hx2)) ?_
                simp only [put_lit, List.set_cons_succ, List.set_cons_zero]
                (first | (refine wpE_move rfl rfl rfl ?_; simp only [put_lit, eval_lit, BigFrame.eval_const, List.set_cons_succ, List.set_cons_zero, List.getD_cons_succ, List.getD_cons_zero]) | (refine wpE_run rfl rfl (by simp) (fun w1 hx1 _ K hK => by go_step; exact hK _ (Ext.refl _)) ?_; simp only [put_lit, List.set_cons_succ, List.set_cons_zero]))
                (first | (refine wpE_move rfl rfl rfl ?_; simp only [put_lit, eval_lit, BigFrame.eval_const, List.set_cons_succ, List.set_cons_zero, List.getD_cons_succ, List.getD_cons_zero]) | (refine wpE_run rfl rfl (by simp) (fun w1 hx1 _ K hK => by go_step; exact hK _ (Ext.refl _)) ?_; simp only [put_lit, List.set_cons_succ, List.set_cons_zero]))
                (first | (refine wpE_move rfl rfl rfl ?_; simp only [put_lit, eval_lit, BigFrame.eval_const, List.set_cons_succ, List.set_cons_zero, List.getD_cons_succ, List.getD_cons_zero]) | (refine wpE_run rfl rfl (by simp) (fun w1 hx1 _ K hK => by go_step; exact hK _ (Ext.refl _)) ?_; simp only [put_lit, List.set_cons_succ, List.set_cons_zero]))
                (first | (refine wpE_move rfl rfl rfl ?_; simp only [put_lit, eval_lit, BigFrame.eval_const, List.set_cons_succ, List.set_cons_zero, List.getD_cons_succ, List.getD_cons_zero]) | (refine wpE_run rfl rfl (by simp) (fun w1 hx1 _ K hK => by go_step; exact hK _ (Ext.refl _)) ?_; simp only [put_lit, List.set_cons_succ, List.set_cons_zero]))
                (first | (refine wpE_move rfl rfl rfl ?_; simp only [put_lit, eval_lit, BigFrame.eval_const, List.set_cons_succ, List.set_cons_zero, List.getD_cons_succ, List.getD_cons_zero]) | (refine wpE_run rfl rfl (by simp) (fun w1 hx1 _ K hK => by go_step; exact hK _ (Ext.refl _)) ?_; simp only [put_lit, List.set_cons_succ, List.set_cons_zero]))
                refine wpE_nil ?_
                intro w5 hw5 hF
                simp only [List.drop_succ_cons, List.drop_zero]
                clear hF
                have HB5 := Lib.hid (HB.out.ext hw5)
                have HC5 := Lib.hid (HC.out.ext hw5)
                have HD5 := Lib.hid (HD.out.ext hw5)
                have HRR5 := Lib.hid (HRR.out.ext hw5)
                have HQ5 := Lib.hid (HQ.out.ext hw5)
                have HCELL5 := Lib.hid (hw5.cell HCELL.out)
                have HXR5 := Lib.hid (HXR.out.trans hw5)
                clear hw5 HB HC HD HRR HQ HCELL HXR
                have HB := HB5
                have HC := HC5
                have HD := HD5
                have HRR := HRR5
                have HQ := HQ5
                have HCELL := HCELL5
                have HXR := HXR5
                clear HB5 HC5 HD5 HRR5 HQ5 HCELL5 HXR5
                go_upto_region 14 with fail
                apply wp_region_mid 13 [.det _, .det _, .det _, .det _, .det _, .det _, .det _, .det _, .det _, .det _, .det _, .det _, .det _] (by kernel_rfl) rfl (by kernel_rfl)
                · skip
                  (first | (refine wpE_move rfl rfl rfl ?_; simp only [put_lit, eval_lit, BigFrame.eval_const, List.set_cons_succ, List.set_cons_zero, List.getD_cons_succ, List.getD_cons_zero]) | (refine wpE_run rfl rfl (by simp) (fun w1 hx1 _ K hK => by go_step; exact hK _ (Ext.refl _)) ?_; simp only [put_lit, List.set_cons_succ, List.set_cons_zero]))
                  refine wpE_run rfl rfl (by simp) (fun w' hx' _ K9 hK9 => wp_loadA 55 _ rfl _ 0 12 rfl agg55 sz55 _ _ (HB.out.ext hx') (by simp [row_size]) (row 12 X) (row_whole _ _) (hK9 _ (Ext.refl _))) ?_
                  simp only [put_lit, List.set_cons_succ, List.set_cons_zero]
                  (first | (refine wpE_move rfl rfl rfl ?_; simp only [put_lit, eval_lit, BigFrame.eval_const, List.set_cons_succ, List.set_cons_zero, List.getD_cons_succ, List.getD_cons_zero]) | (refine wpE_run rfl rfl (by simp) (fun w1 hx1 _ K hK => by go_step; exact hK _ (Ext.refl _)) ?_; simp only [put_lit, List.set_cons_succ, List.set_cons_zero]))
                  (first | (refine wpE_move rfl rfl rfl ?_; simp only [put_lit, eval_lit, BigFrame.eval_const, List.set_cons_succ, List.set_cons_zero, List.getD_cons_succ, List.getD_cons_zero]) | (refine wpE_run rfl rfl (by simp) (fun w1 hx1 _ K hK => by go_step; exact hK _ (Ext.refl _)) ?_; simp only [put_lit, List.set_cons_succ, List.set_cons_zero]))
                  (first | (refine wpE_move rfl rfl rfl ?_; simp only [put_lit, eval_lit, BigFrame.eval_const, List.set_cons_succ, List.set_cons_zero, List.getD_cons_succ, List.getD_cons_zero]) | (refine wpE_run rfl rfl (by simp) (fun w1 hx1 _ K hK => by go_step; exact hK _ (Ext.refl _)) ?_; simp only [put_lit, List.set_cons_succ, List.set_cons_zero]))
                  (refine wpE_run rfl rfl (by simp) (fun w1 hx1 _ K hK => by have hc := hx1.cell HCELL.out; go_step; exact hK _ (Ext.refl _)) ?_); simp only [put_lit, List.set_cons_succ, List.set_cons_zero]
                  (first | (refine wpE_move rfl rfl rfl ?_; simp only [put_lit, eval_lit, BigFrame.eval_const, List.set_cons_succ, List.set_cons_zero, List.getD_cons_succ, List.getD_cons_zero]) | (refine wpE_run rfl rfl (by simp) (fun w1 hx1 _ K hK => by go_step; exact hK _ (Ext.refl _)) ?_; simp only [put_lit, List.set_cons_succ, List.set_cons_zero]))
                  refine wpE_run rfl rfl (by simp) (fun w1 hx1 hfc K9 hK9 => by clear hfc; go_wp2_with (go_at_call 43; refine (refopen43_any _ _ nb q c (Kn n) F e X (ksn n (keyF n f)) _ hnb (by omega) (HRR.out.ext hx1) (HQ.out.ext hx1) hX (HD.out.ext hx1) (Kn_ge n) (Kn_le n) (ksn_lt n _ HKF.out)).mono ?_; rintro e2 w2 ⟨hx2, h2⟩; rcases h2 with ⟨hw, _⟩ | ⟨_, rfl⟩; exact absurd hw HW.out; exact hK9 _ hx2)) ?_
                  simp only [put_lit, List.set_cons_succ, List.set_cons_zero]
                  (first | (refine wpE_move rfl rfl rfl ?_; simp only [put_lit, eval_lit, BigFrame.eval_const, List.set_cons_succ, List.set_cons_zero, List.getD_cons_succ, List.getD_cons_zero]) | (refine wpE_run rfl rfl (by simp) (fun w1 hx1 _ K hK => by go_step; exact hK _ (Ext.refl _)) ?_; simp only [put_lit, List.set_cons_succ, List.set_cons_zero]))
                  (first | (refine wpE_move rfl rfl rfl ?_; simp only [put_lit, eval_lit, BigFrame.eval_const, List.set_cons_succ, List.set_cons_zero, List.getD_cons_succ, List.getD_cons_zero]) | (refine wpE_run rfl rfl (by simp) (fun w1 hx1 _ K hK => by go_step; exact hK _ (Ext.refl _)) ?_; simp only [put_lit, List.set_cons_succ, List.set_cons_zero]))
                  (first | (refine wpE_move rfl rfl rfl ?_; simp only [put_lit, eval_lit, BigFrame.eval_const, List.set_cons_succ, List.set_cons_zero, List.getD_cons_succ, List.getD_cons_zero]) | (refine wpE_run rfl rfl (by simp) (fun w1 hx1 _ K hK => by go_step; exact hK _ (Ext.refl _)) ?_; simp only [put_lit, List.set_cons_succ, List.set_cons_zero]))
                  (first | (refine wpE_move rfl rfl rfl ?_; simp only [put_lit, eval_lit, BigFrame.eval_const, List.set_cons_succ, List.set_cons_zero, List.getD_cons_succ, List.getD_cons_zero]) | (refine wpE_run rfl rfl (by simp) (fun w1 hx1 _ K hK => by go_step; exact hK _ (Ext.refl _)) ?_; simp only [put_lit, List.set_cons_succ, List.set_cons_zero]))
                  (first | (refine wpE_move rfl rfl rfl ?_; simp only [put_lit, eval_lit, BigFrame.eval_const, List.set_cons_succ, List.set_cons_zero, List.getD_cons_succ, List.getD_cons_zero]) | (refine wpE_run rfl rfl (by simp) (fun w1 hx1 _ K hK => by go_step; exact hK _ (Ext.refl _)) ?_; simp only [put_lit, List.set_cons_succ, List.set_cons_zero]))
                  refine wpE_nil ?_
                  intro w5 hw5 hF
                  simp only [List.drop_succ_cons, List.drop_zero]
                  clear hF
                  have HX5 := Lib.hid (HXR.out.trans hw5)
                  clear hw5
                  go_wp2_with fail
                  refine (eqb41_any _ _ 0 0 (fun _ => 0) (fun _ => 0) _ nilRd nilRd).mono ?_
                  rintro e6 w6 ⟨rfl, hx6⟩
                  rw [eqU_true rfl (fun _ _ => rfl)]
                  have HX6 := Lib.hid (HX5.out.trans hx6)
                  clear hx6
                  go_wp2_with fail
                  go_roundw
                  case rel => exact ⟨i + 1, by omega, by go_num, HX6.out⟩
                  case measure => simp [intOf]; omega
          · obtain rfl : i = 2 := by omega
            have hi2' : ¬ ((2 : Nat) : Int) < 2 := by omega
            go_wp2_with fail
            refine (works34_any _).mono ?_
            rintro e16 w16 ⟨rfl, hx16⟩
            have HX16 := Lib.hid (((HX5.out.trans HX9.out).trans HXR.out).trans hx16)
            clear hx16
            go_wp2_with fail
            go_ret
            exact ⟨rfl, HX16.out⟩
end Go.Proofs.Ytnigpobbckampaa
