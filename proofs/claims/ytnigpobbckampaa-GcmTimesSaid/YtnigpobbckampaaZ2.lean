/- The law's seals, walked. -/
import Derived.Test.YtnigpobbckampaaY10
import Derived.Test.YtnigpobbckampaaZ0
import Derived.Test.YtnigpobbckampaaZ1
import Derived.Test.YtnigpobbckampaaE4
namespace Go.Proofs.Ytnigpobbckampaa
open Go.RowKit
set_option linter.unusedSimpArgs false
set_option linter.unusedVariables false

theorem zero55 (w : World) : (zeroValue 55).run Try.prog w = .ok (.agg (row 12 fun _ => 0)) w := by kernel_rfl

set_option maxRecDepth 100000 in
set_option maxHeartbeats 1000000 in
theorem seals45_any (sk sn sp sh sw : ByteArray) (ck cn cp ch cw : Nat → Nat) (np nh nw : Nat) (w : World) (hk : HexS sk 16 ck) (hn : HexS sn 12 cn) (hp : HexS sp np cp) (hh : HexS sh nh ch) (hw : HexS sw nw cw) (hpl : np ≤ 1000) (hhl : nh ≤ 1000) (hwl : nw ≤ 1000)
    (hl : np + 16 = nw) (hwant : ∀ i, i < nw → sealP (4 + 7) (keysP 4 (hexF ck)) (hexF cn) np nh (hexF cp) (hexF ch) i = hexF cw i) :
    Calls Try.prog 45 #[.string sk, .string sn, .string sp, .string sh, .string sw] w fun e w' => e = .returned (.bool true) ∧ Ext w w' := by
  have HP := Lib.hid hp
  have HH := Lib.hid hh
  have HW := Lib.hid hw
  have HN := Lib.hid hn
  have HE1 := Lib.hid (eqU_true (n := np + 16) (m := nw) (f := sealP (4 + 7) (keysP 4 (hexF ck)) (hexF cn) np nh (hexF cp) (hexF ch)) (g := hexF cw) hl (fun i hi => hwant i (by omega)))
  have HE2 := Lib.hid (eqU_true (n := np) (m := np) (f := hexF cp) (g := hexF cp) rfl (fun i hi => rfl))
  clear hp hh hw hn hl hwant
  go_enter Try.func45, Try.ntmps45
  go_wp2_with fail
  refine (bytes46_any sk 16 ck _ (by omega) hk).mono ?_
  rintro e w1 ⟨v1, rfl, ho1, hx1⟩
  have HX1 := Lib.hid hx1
  have HO1 := Lib.hid ho1
  clear hx1 ho1 hk
  go_wp2_with fail
  refine (new4_any _ _ _ HO1.out.rd).mono ?_
  rintro e w2 ⟨b, rfl, hC, _, hx2⟩
  have HC2 := Lib.hid hC
  have HX2 := Lib.hid (HX1.out.trans hx2)
  clear hC hx2 HO1 HX1
  go_wp2_with (refine wl_allocA rfl 55 rfl _ zero55 ?_)
  obtain ⟨gb, hgb⟩ : ∃ gb, gb = w2.heap.size := ⟨_, rfl⟩
  have hb0 : Blk (w2.alloc (.cells (row 12 fun _ => 0) 55)) gb 55 (row 12 fun _ => 0) := by rw [hgb]; exact Blk.new _ _ _
  have hx3 : Ext w2 (w2.alloc (.cells (row 12 fun _ => 0) 55)) := Ext.alloc _ _
  rw [← hgb]
  generalize w2.alloc (.cells (row 12 fun _ => 0) 55) = w3 at hb0 hx3 ⊢
  have HB3 := Lib.hid hb0
  have HX3 := Lib.hid hx3
  have HGB := Lib.hid hgb
  clear hb0 hx3 hgb
  go_wp2_with fail
  refine (bytes46_any sn 12 cn _ (by omega) HN.out).mono ?_
  rintro e w4 ⟨v4, rfl, ho4, hx4⟩
  have hlt4 := ho4.lt
  obtain ⟨g4, off4, cap4, t4, cur4, rfl, hbg4, hB4, hc4, hs4, hf4⟩ := ho4.form (by omega)
  have HB3' := Lib.hid (HB3.out.ext hx4)
  have HX4 := Lib.hid (HX3.out.trans hx4)
  have hne : g4 ≠ gb := by have := HB3.out.lt; omega
  have HB4 := Lib.hid hB4
  have HF4 := Lib.hid hf4
  have HLT := Lib.hid hlt4
  have hxs := HX2.out.size
  have HNE := Lib.hid hne
  clear hx4 hB4 hf4 hlt4 HB3 HX3 hne
  go_wp2_with fail
  go_loopw [15] (fun v15 wr => ∃ i : Nat, i ≤ 12 ∧ v15 = .int .i64 i ∧ Blk wr gb 55 (row 12 (mixF i (hexF cn) fun _ => 0)) ∧ Blk wr g4 t4 cur4 ∧ Ext w2 wr) (fun v15 _ => 12 - (intOf v15).toNat)
  case atStart => exact ⟨0, by omega, rfl, by rw [mixF_zero]; exact HB3'.out, HB4.out, HX4.out⟩
  case round =>
    clear HB3' HB4 HX4
    obtain ⟨i, hi, rfl, hb, hb4, hx⟩ := hrel
    have HB := Lib.hid hb
    have HB4 := Lib.hid hb4
    have HX := Lib.hid hx
    clear hb hb4 hx
    by_cases him : i < 12
    · have him' : (i : Int) < 12 := by omega
      have c1 := (HB4.out.cell (off4 + i)).trans (HF4.out i him).2
      have c2 := HB.out.byte i him
      have f2 := HB.out.frozen i
      go_wp2_with fail
      go_roundw
      case rel =>
        refine ⟨i + 1, by omega, by go_num, ?_, HB4.out.other _ HNE.out, HX.out.setCell (Nat.le_of_eq HGB.out.symm) _⟩
        rw [← mixF_upd]
        exact HB.out.setB i _
      case measure => simp [intOf]; omega
    · obtain rfl : i = 12 := by omega
      have e12 : row 12 (mixF 12 (hexF cn) fun _ => 0) = row 12 (hexF cn) := row_congr fun j hj => by simp only [mixF]; rw [if_pos hj]
      have HBN := Lib.hid (show Blk wr gb 55 (row 12 (hexF cn)) from by rw [← e12]; exact HB.out)
      have HC := Lib.hid (HC2.out.ext HX.out)
      have HXX := Lib.hid (HX2.out.trans HX.out)
      have hNl : ∀ j, j < 12 → hexF cn j < 256 := HLT.out
      have HNL := Lib.hid hNl
      clear e12 HB HB4 HF4 HC2 HX hNl HX2
      simp only [show ((12 : Nat) : Int) = 12 from rfl]
      go_upto_region 10 with fail
      apply wp_region_mid 12 [.det _, .det _, .det _, .any (RdV np (hexF cp)), .det _, .any (RdV nh (hexF ch)), .any (TupV (np + 16) (sealP (4 + 7) (keysP 4 (hexF ck)) (hexF cn) np nh (hexF cp) (hexF ch))), .any (TupV (np + 16) (sealP (4 + 7) (keysP 4 (hexF ck)) (hexF cn) np nh (hexF cp) (hexF ch))), .any (RdV (np + 16) (sealP (4 + 7) (keysP 4 (hexF ck)) (hexF cn) np nh (hexF cp) (hexF ch))), .det _, .any (RdV (np + 16) (sealP (4 + 7) (keysP 4 (hexF ck)) (hexF cn) np nh (hexF cp) (hexF ch))), .det _] (by kernel_rfl) rfl (by kernel_rfl)
      · skip
        (first | (refine wpE_move rfl rfl rfl ?_; simp only [put_lit, eval_lit, BigFrame.eval_const, List.set_cons_succ, List.set_cons_zero, List.getD_cons_succ, List.getD_cons_zero]) | (refine wpE_run rfl rfl (by simp) (fun w1 hx1 _ K hK => by go_step; exact hK _ (Ext.refl _)) ?_; simp only [put_lit, List.set_cons_succ, List.set_cons_zero]))
        refine wpE_run rfl rfl (by simp) (fun w' hx' _ K hK => wp_loadA 55 _ rfl _ 0 12 rfl agg55 sz55 _ _ (HBN.out.ext hx') (by simp [row_size]) (row 12 (hexF cn)) (row_whole _ _) (hK _ (Ext.refl _))) ?_
        simp only [put_lit, List.set_cons_succ, List.set_cons_zero]
        (first | (refine wpE_move rfl rfl rfl ?_; simp only [put_lit, eval_lit, BigFrame.eval_const, List.set_cons_succ, List.set_cons_zero, List.getD_cons_succ, List.getD_cons_zero]) | (refine wpE_run rfl rfl (by simp) (fun w1 hx1 _ K hK => by go_step; exact hK _ (Ext.refl _)) ?_; simp only [put_lit, List.set_cons_succ, List.set_cons_zero]))
        refine wpE_any (V := RdV np (hexF cp)) rfl (fun _ _ _ hx h => h.mono hx) rfl (by simp) (fun w1 hx1 _ K9 hK9 => by go_wp2_with (go_at_call 46; refine (bytes46_any sp np cp _ hpl HP.out).mono ?_; rintro e w2 ⟨v2, rfl, ho2, hx2⟩; exact hK9 _ _ hx2 ho2.rd)) ?_
        intro u44
        simp only [put_lit, List.set_cons_succ, List.set_cons_zero]
        (first | (refine wpE_move rfl rfl rfl ?_; simp only [put_lit, eval_lit, BigFrame.eval_const, List.set_cons_succ, List.set_cons_zero, List.getD_cons_succ, List.getD_cons_zero]) | (refine wpE_run rfl rfl (by simp) (fun w1 hx1 _ K hK => by go_step; exact hK _ (Ext.refl _)) ?_; simp only [put_lit, List.set_cons_succ, List.set_cons_zero]))
        refine wpE_any (V := RdV nh (hexF ch)) rfl (fun _ _ _ hx h => h.mono hx) rfl (by simp) (fun w1 hx1 _ K9 hK9 => by go_wp2_with (go_at_call 46; refine (bytes46_any sh nh ch _ hhl HH.out).mono ?_; rintro e w2 ⟨v2, rfl, ho2, hx2⟩; exact hK9 _ _ hx2 ho2.rd)) ?_
        intro u46
        simp only [put_lit, List.set_cons_succ, List.set_cons_zero]
        refine wpE_any (V := TupV (np + 16) (sealP (4 + 7) (keysP 4 (hexF ck)) (hexF cn) np nh (hexF cp) (hexF ch))) rfl (fun _ _ _ hx h => h.mono hx) rfl (by simp) (fun w1 hx1 hfc K9 hK9 => by have h44 := Lib.hid (show RdF w1 u44 np (hexF cp) from hfc (44, RdV np (hexF cp) u44) (by simp) (by show (44 : Nat) ∈ _; decide)); have h46 := Lib.hid (show RdF w1 u46 nh (hexF ch) from hfc (46, RdV nh (hexF ch) u46) (by simp) (by show (46 : Nat) ∈ _; decide)); clear hfc; go_wp2_with (go_at_call 39; refine (seal39_any _ _ np nh b (4 + 7) _ _ (hexF cn) (keysP 4 (hexF ck)) _ (by omega) (by omega) h44.out h46.out HNL.out (HC.out.ext hx1) (by omega) (by omega)).mono ?_; rintro e w2 ⟨v2, rfl, ho2, hx2⟩; exact hK9 _ _ hx2 ⟨v2, rfl, ho2.rd⟩)) ?_
        intro u47
        simp only [put_lit, List.set_cons_succ, List.set_cons_zero]
        refine wpE_any (V := TupV (np + 16) (sealP (4 + 7) (keysP 4 (hexF ck)) (hexF cn) np nh (hexF cp) (hexF ch))) rfl (fun _ _ _ hx h => h.mono hx) rfl (by simp) (fun w1 hx1 hfc K9 hK9 => by have h47 := hfc (47, TupV (np + 16) (sealP (4 + 7) (keysP 4 (hexF ck)) (hexF cn) np nh (hexF cp) (hexF ch)) u47) (by simp) (by show (47 : Nat) ∈ _; decide); go_step; exact hK9 _ _ (Ext.refl _) h47) ?_
        intro u40
        simp only [put_lit, List.set_cons_succ, List.set_cons_zero]
        refine wpE_any (V := RdV (np + 16) (sealP (4 + 7) (keysP 4 (hexF ck)) (hexF cn) np nh (hexF cp) (hexF ch))) rfl (fun _ _ _ hx h => h.mono hx) rfl (by simp) (fun w1 hx1 hfc K9 hK9 => by obtain ⟨v', rfl, hr⟩ := hfc (40, TupV (np + 16) (sealP (4 + 7) (keysP 4 (hexF ck)) (hexF cn) np nh (hexF cp) (hexF ch)) u40) (by simp) (by show (40 : Nat) ∈ _; decide); go_step; exact hK9 _ _ (Ext.refl _) hr) ?_
        intro u48
        simp only [put_lit, List.set_cons_succ, List.set_cons_zero]
        refine wpE_run rfl rfl (by simp) (fun w1 hx1 hfc K9 hK9 => by obtain ⟨v', rfl, hr⟩ := hfc (40, TupV (np + 16) (sealP (4 + 7) (keysP 4 (hexF ck)) (hexF cn) np nh (hexF cp) (hexF ch)) u40) (by simp) (by show (40 : Nat) ∈ _; decide); go_step; exact hK9 _ (Ext.refl _)) ?_
        simp only [put_lit, List.set_cons_succ, List.set_cons_zero]
        refine wpE_any (V := RdV (np + 16) (sealP (4 + 7) (keysP 4 (hexF ck)) (hexF cn) np nh (hexF cp) (hexF ch))) rfl (fun _ _ _ hx h => h.mono hx) rfl (by simp) (fun w1 hx1 hfc K9 hK9 => by have hr := hfc (48, RdV (np + 16) (sealP (4 + 7) (keysP 4 (hexF ck)) (hexF cn) np nh (hexF cp) (hexF ch)) u48) (by simp) (by show (48 : Nat) ∈ _; decide); go_step; exact hK9 _ _ (Ext.refl _) hr) ?_
        intro u16
        simp only [put_lit, List.set_cons_succ, List.set_cons_zero]
        (first | (refine wpE_move rfl rfl rfl ?_; simp only [put_lit, eval_lit, BigFrame.eval_const, List.set_cons_succ, List.set_cons_zero, List.getD_cons_succ, List.getD_cons_zero]) | (refine wpE_run rfl rfl (by simp) (fun w1 hx1 _ K hK => by go_step; exact hK _ (Ext.refl _)) ?_; simp only [put_lit, List.set_cons_succ, List.set_cons_zero]))
        refine wpE_nil ?_
        intro w5 hw5 hF
        simp only [List.drop_succ_cons, List.drop_zero]
        have H48 := Lib.hid (show RdF w5 u16 (np + 16) (sealP (4 + 7) (keysP 4 (hexF ck)) (hexF cn) np nh (hexF cp) (hexF ch)) from hF (16, RdV (np + 16) (sealP (4 + 7) (keysP 4 (hexF ck)) (hexF cn) np nh (hexF cp) (hexF ch)) u16) (by simp))
        have HBN5 := Lib.hid (HBN.out.ext hw5)
        have HC5 := Lib.hid (HC.out.ext hw5)
        have HX5 := Lib.hid (HXX.out.trans hw5)
        clear hF hw5 HBN HC HXX
        go_upto_region 11 with fail
        apply wp_region_mid 11 [.det _, .det _, .det _, .det _, .any (RdV nh (hexF ch)), .any (TupV np (hexF cp)), .any (TupV np (hexF cp)), .any (RdV np (hexF cp)), .det _, .any (RdV np (hexF cp)), .det _] (by kernel_rfl) rfl (by kernel_rfl)
        · skip
          (first | (refine wpE_move rfl rfl rfl ?_; simp only [put_lit, eval_lit, BigFrame.eval_const, List.set_cons_succ, List.set_cons_zero, List.getD_cons_succ, List.getD_cons_zero]) | (refine wpE_run rfl rfl (by simp) (fun w1 hx1 _ K hK => by go_step; exact hK _ (Ext.refl _)) ?_; simp only [put_lit, List.set_cons_succ, List.set_cons_zero]))
          refine wpE_run rfl rfl (by simp) (fun w' hx' _ K hK => wp_loadA 55 _ rfl _ 0 12 rfl agg55 sz55 _ _ (HBN5.out.ext hx') (by simp [row_size]) (row 12 (hexF cn)) (row_whole _ _) (hK _ (Ext.refl _))) ?_
          simp only [put_lit, List.set_cons_succ, List.set_cons_zero]
          (first | (refine wpE_move rfl rfl rfl ?_; simp only [put_lit, eval_lit, BigFrame.eval_const, List.set_cons_succ, List.set_cons_zero, List.getD_cons_succ, List.getD_cons_zero]) | (refine wpE_run rfl rfl (by simp) (fun w1 hx1 _ K hK => by go_step; exact hK _ (Ext.refl _)) ?_; simp only [put_lit, List.set_cons_succ, List.set_cons_zero]))
          (first | (refine wpE_move rfl rfl rfl ?_; simp only [put_lit, eval_lit, BigFrame.eval_const, List.set_cons_succ, List.set_cons_zero, List.getD_cons_succ, List.getD_cons_zero]) | (refine wpE_run rfl rfl (by simp) (fun w1 hx1 _ K hK => by go_step; exact hK _ (Ext.refl _)) ?_; simp only [put_lit, List.set_cons_succ, List.set_cons_zero]))
          refine wpE_any (V := RdV nh (hexF ch)) rfl (fun _ _ _ hx h => h.mono hx) rfl (by simp) (fun w1 hx1 _ K9 hK9 => by go_wp2_with (go_at_call 46; refine (bytes46_any sh nh ch _ hhl HH.out).mono ?_; rintro e w2 ⟨v2, rfl, ho2, hx2⟩; exact hK9 _ _ hx2 ho2.rd)) ?_
          intro u55
          simp only [put_lit, List.set_cons_succ, List.set_cons_zero]
          refine wpE_any (V := TupV np (hexF cp)) rfl (fun _ _ _ hx h => h.mono hx) rfl (by simp) (fun w1 hx1 hfc K9 hK9 => by have h55 := Lib.hid (show RdF w1 u55 nh (hexF ch) from hfc (55, RdV nh (hexF ch) u55) (by simp) (by show (55 : Nat) ∈ _; decide)); clear hfc; go_wp2_with (go_at_call 42; refine (opened42_any _ _ np nh b (4 + 7) (hexF cp) _ (hexF cn) (keysP 4 (hexF ck)) _ (by omega) (by omega) (H48.out.ext hx1) h55.out HNL.out (HC5.out.ext hx1) (by omega) (by omega)).mono ?_; rintro e w2 ⟨v2, rfl, ho2, hx2⟩; exact hK9 _ _ hx2 ⟨v2, rfl, ho2.rd⟩)) ?_
          intro u56
          simp only [put_lit, List.set_cons_succ, List.set_cons_zero]
          refine wpE_any (V := TupV np (hexF cp)) rfl (fun _ _ _ hx h => h.mono hx) rfl (by simp) (fun w1 hx1 hfc K9 hK9 => by have h47 := hfc (56, TupV np (hexF cp) u56) (by simp) (by show (56 : Nat) ∈ _; decide); go_step; exact hK9 _ _ (Ext.refl _) h47) ?_
          intro u50
          simp only [put_lit, List.set_cons_succ, List.set_cons_zero]
          refine wpE_any (V := RdV np (hexF cp)) rfl (fun _ _ _ hx h => h.mono hx) rfl (by simp) (fun w1 hx1 hfc K9 hK9 => by obtain ⟨v', rfl, hr⟩ := hfc (50, TupV np (hexF cp) u50) (by simp) (by show (50 : Nat) ∈ _; decide); go_step; exact hK9 _ _ (Ext.refl _) hr) ?_
          intro u57
          simp only [put_lit, List.set_cons_succ, List.set_cons_zero]
          refine wpE_run rfl rfl (by simp) (fun w1 hx1 hfc K9 hK9 => by obtain ⟨v', rfl, hr⟩ := hfc (50, TupV np (hexF cp) u50) (by simp) (by show (50 : Nat) ∈ _; decide); go_step; exact hK9 _ (Ext.refl _)) ?_
          simp only [put_lit, List.set_cons_succ, List.set_cons_zero]
          refine wpE_any (V := RdV np (hexF cp)) rfl (fun _ _ _ hx h => h.mono hx) rfl (by simp) (fun w1 hx1 hfc K9 hK9 => by have hr := hfc (57, RdV np (hexF cp) u57) (by simp) (by show (57 : Nat) ∈ _; decide); go_step; exact hK9 _ _ (Ext.refl _) hr) ?_
          intro u18
          simp only [put_lit, List.set_cons_succ, List.set_cons_zero]
          (first | (refine wpE_move rfl rfl rfl ?_; simp only [put_lit, eval_lit, BigFrame.eval_const, List.set_cons_succ, List.set_cons_zero, List.getD_cons_succ, List.getD_cons_zero]) | (refine wpE_run rfl rfl (by simp) (fun w1 hx1 _ K hK => by go_step; exact hK _ (Ext.refl _)) ?_; simp only [put_lit, List.set_cons_succ, List.set_cons_zero]))
          refine wpE_nil ?_
          intro w6 hw6 hF
          simp only [List.drop_succ_cons, List.drop_zero]
          have H57 := Lib.hid (show RdF w6 u18 np (hexF cp) from hF (18, RdV np (hexF cp) u18) (by simp))
          have H48' := Lib.hid (H48.out.ext hw6)
          have HX6 := Lib.hid (HX5.out.trans hw6)
          clear hF hw6 H48 HX5 HBN5 HC5
          go_wp2_with fail
          refine (bytes46_any sw nw cw _ hwl HW.out).mono ?_
          rintro e w7 ⟨v7, rfl, ho7, hx7⟩
          have HO7 := Lib.hid ho7.rd
          have HX7 := Lib.hid hx7
          clear ho7 hx7
          go_wp2_with fail
          refine (eqb41_any _ _ (np + 16) nw _ _ _ (H48'.out.ext HX7.out) HO7.out).mono ?_
          rintro e w8 ⟨rfl, hx8⟩
          rw [HE1.out]
          have HX8 := Lib.hid (HX7.out.trans hx8)
          clear hx8 HX7 HO7
          go_wp2_with fail
          refine (bytes46_any sp np cp _ hpl HP.out).mono ?_
          rintro e w9 ⟨v9, rfl, ho9, hx9⟩
          have HO9 := Lib.hid ho9.rd
          have HX9 := Lib.hid (HX8.out.trans hx9)
          clear ho9 hx9 HX8
          go_wp2_with fail
          refine (eqb41_any _ _ np np _ _ _ (H57.out.ext HX9.out) HO9.out).mono ?_
          rintro e w10 ⟨rfl, hx10⟩
          rw [HE2.out]
          have HX10 := Lib.hid ((HX6.out.trans HX9.out).trans hx10)
          clear hx10
          go_wp2_with fail
          go_ret
          exact ⟨rfl, HX10.out⟩
end Go.Proofs.Ytnigpobbckampaa
