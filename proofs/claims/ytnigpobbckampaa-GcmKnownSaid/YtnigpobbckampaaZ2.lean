/- The law's seals, walked. Plain: the values of the chapter's boxes; each table is held to the definitions by the kernel. works of layer 5, walked. -/
import Derived.Test.YtnigpobbckampaaY9
import Derived.Test.YtnigpobbckampaaZ0
import Derived.Test.YtnigpobbckampaaE4
import Derived.Test.YtnigpobbckampaaN
namespace Go.Proofs.Ytnigpobbckampaa
open Go.RowKit
set_option linter.unusedSimpArgs false
set_option linter.unusedVariables false

theorem zero55 (w : World) : (zeroValue 55).run Try.prog w = .ok (.agg (row 12 fun _ => 0)) w := by kernel_rfl

set_option maxRecDepth 100000 in
set_option maxHeartbeats 1000000 in
theorem seals45_any (sk sn sp sh sw : ByteArray) (ck cn cp ch cw : Nat → Nat) (np nh nw : Nat) (w : World) (hk : HexS sk 16 ck) (hn : HexS sn 12 cn) (hp : HexS sp np cp) (hh : HexS sh nh ch) (hw : HexS sw nw cw) (hpl : np ≤ 1000) (hhl : nh ≤ 1000) (hwl : nw ≤ 1000)
    (hl : np + 16 = nw) (hwant : ∀ i, i < nw → sealP (4 + 7) (keysP 4 (hexF ck)) (hexF cn) np nh (hexF cp) (hexF ch) i = hexF cw i) :
    Calls Try.prog 45 #[.string sk, .string sn, .string sp, .string sh, .string sw] w fun e w' => e = .returned (.bool true) ∧ Ext w w' := by
  have HP := Lib.hid hp
  have HH := Lib.hid hh
  have HW := Lib.hid hw
  have HN := Lib.hid hn
  have HE1 := Lib.hid (eqU_true (n := np + 16) (m := nw) (f := sealP (4 + 7) (keysP 4 (hexF ck)) (hexF cn) np nh (hexF cp) (hexF ch)) (g := hexF cw) hl (fun i hi => hwant i (by omega)))
  have HE2 := Lib.hid (eqU_true (n := np) (m := np) (f := hexF cp) (g := hexF cp) rfl (fun i hi => rfl))
  clear hp hh hw hn hl hwant
  go_enter Try.func45, Try.ntmps45
  go_wp2_with fail
  refine (bytes46_any sk 16 ck _ (by omega) hk).mono ?_
  rintro e w1 ⟨v1, rfl, ho1, hx1⟩
  have HX1 := Lib.hid hx1
  have HO1 := Lib.hid ho1
  clear hx1 ho1 hk
  go_wp2_with fail
  refine (new4_any _ _ _ HO1.out.rd).mono ?_
  rintro e w2 ⟨b, rfl, hC, _, hx2⟩
  have HC2 := Lib.hid hC
  have HX2 := Lib.hid (HX1.out.trans hx2)
  clear hC hx2 HO1 HX1
  go_wp2_with (refine wl_allocA rfl 55 rfl _ zero55 ?_)
  obtain ⟨gb, hgb⟩ : ∃ gb, gb = w2.heap.size := ⟨_, rfl⟩
  have hb0 : Blk (w2.alloc (.cells (row 12 fun _ => 0) 55)) gb 55 (row 12 fun _ => 0) := by rw [hgb]; exact Blk.new _ _ _
  have hx3 : Ext w2 (w2.alloc (.cells (row 12 fun _ => 0) 55)) := Ext.alloc _ _
  rw [← hgb]
  generalize w2.alloc (.cells (row 12 fun _ => 0) 55) = w3 at hb0 hx3 ⊢
  have HB3 := Lib.hid hb0
  have HX3 := Lib.hid hx3
  have HGB := Lib.hid hgb
  clear hb0 hx3 hgb
  go_wp2_with fail
  refine (bytes46_any sn 12 cn _ (by omega) HN.out).mono ?_
  rintro e w4 ⟨v4, rfl, ho4, hx4⟩
  have hlt4 := ho4.lt
  obtain ⟨g4, off4, cap4, t4, cur4, rfl, hbg4, hB4, hc4, hs4, hf4⟩ := ho4.form (by omega)
  have HB3' := Lib.hid (HB3.out.ext hx4)
  have HX4 := Lib.hid (HX3.out.trans hx4)
  have hne : g4 ≠ gb := by have := HB3.out.lt; omega
  have HB4 := Lib.hid hB4
  have HF4 := Lib.hid hf4
  have HLT := Lib.hid hlt4
  have hxs := HX2.out.size
  have HNE := Lib.hid hne
  clear hx4 hB4 hf4 hlt4 HB3 HX3 hne
  go_wp2_with fail
  go_loopw [15] (fun v15 wr => ∃ i : Nat, i ≤ 12 ∧ v15 = .int .i64 i ∧ Blk wr gb 55 (row 12 (mixF i (hexF cn) fun _ => 0)) ∧ Blk wr g4 t4 cur4 ∧ Ext w2 wr) (fun v15 _ => 12 - (intOf v15).toNat)
  case atStart => exact ⟨0, by omega, rfl, by rw [mixF_zero]; exact HB3'.out, HB4.out, HX4.out⟩
  case round =>
    clear HB3' HB4 HX4
    obtain ⟨i, hi, rfl, hb, hb4, hx⟩ := hrel
    have HB := Lib.hid hb
    have HB4 := Lib.hid hb4
    have HX := Lib.hid hx
    clear hb hb4 hx
    by_cases him : i < 12
    · have him' : (i : Int) < 12 := by omega
      have c1 := (HB4.out.cell (off4 + i)).trans (HF4.out i him).2
      have c2 := HB.out.byte i him
      have f2 := HB.out.frozen i
      go_wp2_with fail
      go_roundw
      case rel =>
        refine ⟨i + 1, by omega, by go_num, ?_, HB4.out.other _ HNE.out, HX.out.setCell (Nat.le_of_eq HGB.out.symm) _⟩
        rw [← mixF_upd]
        exact HB.out.setB i _
      case measure => simp [intOf]; omega
    · obtain rfl : i = 12 := by omega
      have e12 : row 12 (mixF 12 (hexF cn) fun _ => 0) = row 12 (hexF cn) := row_congr fun j hj => by simp only [mixF]; rw [if_pos hj]
      have HBN := Lib.hid (show Blk wr gb 55 (row 12 (hexF cn)) from by rw [← e12]; exact HB.out)
      have HC := Lib.hid (HC2.out.ext HX.out)
      have HXX := Lib.hid (HX2.out.trans HX.out)
      have hNl : ∀ j, j < 12 → hexF cn j < 256 := HLT.out
      have HNL := Lib.hid hNl
      clear e12 HB HB4 HF4 HC2 HX hNl HX2
      simp only [show ((12 : Nat) : Int) = 12 from rfl]
      go_upto_region 10 with fail
      apply wp_region_mid 12 [.det _, .det _, .det _, .any (RdV np (hexF cp)), .det _, .any (RdV nh (hexF ch)), .any (TupV (np + 16) (sealP (4 + 7) (keysP 4 (hexF ck)) (hexF cn) np nh (hexF cp) (hexF ch))), .any (TupV (np + 16) (sealP (4 + 7) (keysP 4 (hexF ck)) (hexF cn) np nh (hexF cp) (hexF ch))), .any (RdV (np + 16) (sealP (4 + 7) (keysP 4 (hexF ck)) (hexF cn) np nh (hexF cp) (hexF ch))), .det _, .any (RdV (np + 16) (sealP (4 + 7) (keysP 4 (hexF ck)) (hexF cn) np nh (hexF cp) (hexF ch))), .det _] (by kernel_rfl) rfl (by kernel_rfl)
      · skip
        (first | (refine wpE_move rfl rfl rfl ?_; simp only [put_lit, eval_lit, BigFrame.eval_const, List.set_cons_succ, List.set_cons_zero, List.getD_cons_succ, List.getD_cons_zero]) | (refine wpE_run rfl rfl (by simp) (fun w1 hx1 _ K hK => by go_step; exact hK _ (Ext.refl _)) ?_; simp only [put_lit, List.set_cons_succ, List.set_cons_zero]))
        refine wpE_run rfl rfl (by simp) (fun w' hx' _ K hK => wp_loadA 55 _ rfl _ 0 12 rfl agg55 sz55 _ _ (HBN.out.ext hx') (by simp [row_size]) (row 12 (hexF cn)) (row_whole _ _) (hK _ (Ext.refl _))) ?_
        simp only [put_lit, List.set_cons_succ, List.set_cons_zero]
        (first | (refine wpE_move rfl rfl rfl ?_; simp only [put_lit, eval_lit, BigFrame.eval_const, List.set_cons_succ, List.set_cons_zero, List.getD_cons_succ, List.getD_cons_zero]) | (refine wpE_run rfl rfl (by simp) (fun w1 hx1 _ K hK => by go_step; exact hK _ (Ext.refl _)) ?_; simp only [put_lit, List.set_cons_succ, List.set_cons_zero]))
        refine wpE_any (V := RdV np (hexF cp)) rfl (fun _ _ _ hx h => h.mono hx) rfl (by simp) (fun w1 hx1 _ K9 hK9 => by go_wp2_with (go_at_call 46; refine (bytes46_any sp np cp _ hpl HP.out).mono ?_; rintro e w2 ⟨v2, rfl, ho2, hx2⟩; exact hK9 _ _ hx2 ho2.rd)) ?_
        intro u44
        simp only [put_lit, List.set_cons_succ, List.set_cons_zero]
        (first | (refine wpE_move rfl rfl rfl ?_; simp only [put_lit, eval_lit, BigFrame.eval_const, List.set_cons_succ, List.set_cons_zero, List.getD_cons_succ, List.getD_cons_zero]) | (refine wpE_run rfl rfl (by simp) (fun w1 hx1 _ K hK => by go_step; exact hK _ (Ext.refl _)) ?_; simp only [put_lit, List.set_cons_succ, List.set_cons_zero]))
        refine wpE_any (V := RdV nh (hexF ch)) rfl (fun _ _ _ hx h => h.mono hx) rfl (by simp) (fun w1 hx1 _ K9 hK9 => by go_wp2_with (go_at_call 46; refine (bytes46_any sh nh ch _ hhl HH.out).mono ?_; rintro e w2 ⟨v2, rfl, ho2, hx2⟩; exact hK9 _ _ hx2 ho2.rd)) ?_
        intro u46
        simp only [put_lit, List.set_cons_succ, List.set_cons_zero]
        refine wpE_any (V := TupV (np + 16) (sealP (4 + 7) (keysP 4 (hexF ck)) (hexF cn) np nh (hexF cp) (hexF ch))) rfl (fun _ _ _ hx h => h.mono hx) rfl (by simp) (fun w1 hx1 hfc K9 hK9 => by have h44 := Lib.hid (show RdF w1 u44 np (hexF cp) from hfc (44, RdV np (hexF cp) u44) (by simp) (by show (44 : Nat) ∈ _; decide)); have h46 := Lib.hid (show RdF w1 u46 nh (hexF ch) from hfc (46, RdV nh (hexF ch) u46) (by simp) (by show (46 : Nat) ∈ _; decide)); clear hfc; go_wp2_with (go_at_call 39; refine (seal39_any _ _ np nh b (4 + 7) _ _ (hexF cn) (keysP 4 (hexF ck)) _ (by omega) (by omega) h44.out h46.out HNL.out (HC.out.ext hx1) (by omega) (by omega)).mono ?_; rintro e w2 ⟨v2, rfl, ho2, hx2⟩; exact hK9 _ _ hx2 ⟨v2, rfl, ho2.rd⟩)) ?_
        intro u47
        simp only [put_lit, List.set_cons_succ, List.set_cons_zero]
        refine wpE_any (V := TupV (np + 16) (sealP (4 + 7) (keysP 4 (hexF ck)) (hexF cn) np nh (hexF cp) (hexF ch))) rfl (fun _ _ _ hx h => h.mono hx) rfl (by simp) (fun w1 hx1 hfc K9 hK9 => by have h47 := hfc (47, TupV (np + 16) (sealP (4 + 7) (keysP 4 (hexF ck)) (hexF cn) np nh (hexF cp) (hexF ch)) u47) (by simp) (by show (47 : Nat) ∈ _; decide); go_step; exact hK9 _ _ (Ext.refl _) h47) ?_
        intro u40
        simp only [put_lit, List.set_cons_succ, List.set_cons_zero]
        refine wpE_any (V := RdV (np + 16) (sealP (4 + 7) (keysP 4 (hexF ck)) (hexF cn) np nh (hexF cp) (hexF ch))) rfl (fun _ _ _ hx h => h.mono hx) rfl (by simp) (fun w1 hx1 hfc K9 hK9 => by obtain ⟨v', rfl, hr⟩ := hfc (40, TupV (np + 16) (sealP (4 + 7) (keysP 4 (hexF ck)) (hexF cn) np nh (hexF cp) (hexF ch)) u40) (by simp) (by show (40 : Nat) ∈ _; decide); go_step; exact hK9 _ _ (Ext.refl _) hr) ?_
        intro u48
        simp only [put_lit, List.set_cons_succ, List.set_cons_zero]
        refine wpE_run rfl rfl (by simp) (fun w1 hx1 hfc K9 hK9 => by obtain ⟨v', rfl, hr⟩ := hfc (40, TupV (np + 16) (sealP (4 + 7) (keysP 4 (hexF ck)) (hexF cn) np nh (hexF cp) (hexF ch)) u40) (by simp) (by show (40 : Nat) ∈ _; decide); go_step; exact hK9 _ (Ext.refl _)) ?_
        simp only [put_lit, List.set_cons_succ, List.set_cons_zero]
        refine wpE_any (V := RdV (np + 16) (sealP (4 + 7) (keysP 4 (hexF ck)) (hexF cn) np nh (hexF cp) (hexF ch))) rfl (fun _ _ _ hx h => h.mono hx) rfl (by simp) (fun w1 hx1 hfc K9 hK9 => by have hr := hfc (48, RdV (np + 16) (sealP (4 + 7) (keysP 4 (hexF ck)) (hexF cn) np nh (hexF cp) (hexF ch)) u48) (by simp) (by show (48 : Nat) ∈ _; decide); go_step; exact hK9 _ _ (Ext.refl _) hr) ?_
        intro u16
        simp only [put_lit, List.set_cons_succ, List.set_cons_zero]
        (first | (refine wpE_move rfl rfl rfl ?_; simp only [put_lit, eval_lit, BigFrame.eval_const, List.set_cons_succ, List.set_cons_zero, List.getD_cons_succ, List.getD_cons_zero]) | (refine wpE_run rfl rfl (by simp) (fun w1 hx1 _ K hK => by go_step; exact hK _ (Ext.refl _)) ?_; simp only [put_lit, List.set_cons_succ, List.set_cons_zero]))
        refine wpE_nil ?_
        intro w5 hw5 hF
        simp only [List.drop_succ_cons, List.drop_zero]
        have H48 := Lib.hid (show RdF w5 u16 (np + 16) (sealP (4 + 7) (keysP 4 (hexF ck)) (hexF cn) np nh (hexF cp) (hexF ch)) from hF (16, RdV (np + 16) (sealP (4 + 7) (keysP 4 (hexF ck)) (hexF cn) np nh (hexF cp) (hexF ch)) u16) (by simp))
        have HBN5 := Lib.hid (HBN.out.ext hw5)
        have HC5 := Lib.hid (HC.out.ext hw5)
        have HX5 := Lib.hid (HXX.out.trans hw5)
        clear hF hw5 HBN HC HXX
        go_upto_region 11 with fail
        apply wp_region_mid 11 [.det _, .det _, .det _, .det _, .any (RdV nh (hexF ch)), .any (TupV np (hexF cp)), .any (TupV np (hexF cp)), .any (RdV np (hexF cp)), .det _, .any (RdV np (hexF cp)), .det _] (by kernel_rfl) rfl (by kernel_rfl)
        · skip
          (first | (refine wpE_move rfl rfl rfl ?_; simp only [put_lit, eval_lit, BigFrame.eval_const, List.set_cons_succ, List.set_cons_zero, List.getD_cons_succ, List.getD_cons_zero]) | (refine wpE_run rfl rfl (by simp) (fun w1 hx1 _ K hK => by go_step; exact hK _ (Ext.refl _)) ?_; simp only [put_lit, List.set_cons_succ, List.set_cons_zero]))
          refine wpE_run rfl rfl (by simp) (fun w' hx' _ K hK => wp_loadA 55 _ rfl _ 0 12 rfl agg55 sz55 _ _ (HBN5.out.ext hx') (by simp [row_size]) (row 12 (hexF cn)) (row_whole _ _) (hK _ (Ext.refl _))) ?_
          simp only [put_lit, List.set_cons_succ, List.set_cons_zero]
          (first | (refine wpE_move rfl rfl rfl ?_; simp only [put_lit, eval_lit, BigFrame.eval_const, List.set_cons_succ, List.set_cons_zero, List.getD_cons_succ, List.getD_cons_zero]) | (refine wpE_run rfl rfl (by simp) (fun w1 hx1 _ K hK => by go_step; exact hK _ (Ext.refl _)) ?_; simp only [put_lit, List.set_cons_succ, List.set_cons_zero]))
          (first | (refine wpE_move rfl rfl rfl ?_; simp only [put_lit, eval_lit, BigFrame.eval_const, List.set_cons_succ, List.set_cons_zero, List.getD_cons_succ, List.getD_cons_zero]) | (refine wpE_run rfl rfl (by simp) (fun w1 hx1 _ K hK => by go_step; exact hK _ (Ext.refl _)) ?_; simp only [put_lit, List.set_cons_succ, List.set_cons_zero]))
          refine wpE_any (V := RdV nh (hexF ch)) rfl (fun _ _ _ hx h => h.mono hx) rfl (by simp) (fun w1 hx1 _ K9 hK9 => by go_wp2_with (go_at_call 46; refine (bytes46_any sh nh ch _ hhl HH.out).mono ?_; rintro e w2 ⟨v2, rfl, ho2, hx2⟩; exact hK9 _ _ hx2 ho2.rd)) ?_
          intro u55
          simp only [put_lit, List.set_cons_succ, List.set_cons_zero]
          refine wpE_any (V := TupV np (hexF cp)) rfl (fun _ _ _ hx h => h.mono hx) rfl (by simp) (fun w1 hx1 hfc K9 hK9 => by have h55 := Lib.hid (show RdF w1 u55 nh (hexF ch) from hfc (55, RdV nh (hexF ch) u55) (by simp) (by show (55 : Nat) ∈ _; decide)); clear hfc; go_wp2_with (go_at_call 42; refine (opened42_any _ _ np nh b (4 + 7) (hexF cp) _ (hexF cn) (keysP 4 (hexF ck)) _ (by omega) (by omega) (H48.out.ext hx1) h55.out HNL.out (HC5.out.ext hx1) (by omega) (by omega)).mono ?_; rintro e w2 ⟨v2, rfl, ho2, hx2⟩; exact hK9 _ _ hx2 ⟨v2, rfl, ho2.rd⟩)) ?_
          intro u56
          simp only [put_lit, List.set_cons_succ, List.set_cons_zero]
          refine wpE_any (V := TupV np (hexF cp)) rfl (fun _ _ _ hx h => h.mono hx) rfl (by simp) (fun w1 hx1 hfc K9 hK9 => by have h47 := hfc (56, TupV np (hexF cp) u56) (by simp) (by show (56 : Nat) ∈ _; decide); go_step; exact hK9 _ _ (Ext.refl _) h47) ?_
          intro u50
          simp only [put_lit, List.set_cons_succ, List.set_cons_zero]
          refine wpE_any (V := RdV np (hexF cp)) rfl (fun _ _ _ hx h => h.mono hx) rfl (by simp) (fun w1 hx1 hfc K9 hK9 => by obtain ⟨v', rfl, hr⟩ := hfc (50, TupV np (hexF cp) u50) (by simp) (by show (50 : Nat) ∈ _; decide); go_step; exact hK9 _ _ (Ext.refl _) hr) ?_
          intro u57
          simp only [put_lit, List.set_cons_succ, List.set_cons_zero]
          refine wpE_run rfl rfl (by simp) (fun w1 hx1 hfc K9 hK9 => by obtain ⟨v', rfl, hr⟩ := hfc (50, TupV np (hexF cp) u50) (by simp) (by show (50 : Nat) ∈ _; decide); go_step; exact hK9 _ (Ext.refl _)) ?_
          simp only [put_lit, List.set_cons_succ, List.set_cons_zero]
          refine wpE_any (V := RdV np (hexF cp)) rfl (fun _ _ _ hx h => h.mono hx) rfl (by simp) (fun w1 hx1 hfc K9 hK9 => by have hr := hfc (57, RdV np (hexF cp) u57) (by simp) (by show (57 : Nat) ∈ _; decide); go_step; exact hK9 _ _ (Ext.refl _) hr) ?_
          intro u18
          simp only [put_lit, List.set_cons_succ, List.set_cons_zero]
          (first | (refine wpE_move rfl rfl rfl ?_; simp only [put_lit, eval_lit, BigFrame.eval_const, List.set_cons_succ, List.set_cons_zero, List.getD_cons_succ, List.getD_cons_zero]) | (refine wpE_run rfl rfl (by simp) (fun w1 hx1 _ K hK => by go_step; exact hK _ (Ext.refl _)) ?_; simp only [put_lit, List.set_cons_succ, List.set_cons_zero]))
          refine wpE_nil ?_
          intro w6 hw6 hF
          simp only [List.drop_succ_cons, List.drop_zero]
          have H57 := Lib.hid (show RdF w6 u18 np (hexF cp) from hF (18, RdV np (hexF cp) u18) (by simp))
          have H48' := Lib.hid (H48.out.ext hw6)
          have HX6 := Lib.hid (HX5.out.trans hw6)
          clear hF hw6 H48 HX5 HBN5 HC5
          go_wp2_with fail
          refine (bytes46_any sw nw cw _ hwl HW.out).mono ?_
          rintro e w7 ⟨v7, rfl, ho7, hx7⟩
          have HO7 := Lib.hid ho7.rd
          have HX7 := Lib.hid hx7
          clear ho7 hx7
          go_wp2_with fail
          refine (eqb41_any _ _ (np + 16) nw _ _ _ (H48'.out.ext HX7.out) HO7.out).mono ?_
          rintro e w8 ⟨rfl, hx8⟩
          rw [HE1.out]
          have HX8 := Lib.hid (HX7.out.trans hx8)
          clear hx8 HX7 HO7
          go_wp2_with fail
          refine (bytes46_any sp np cp _ hpl HP.out).mono ?_
          rintro e w9 ⟨v9, rfl, ho9, hx9⟩
          have HO9 := Lib.hid ho9.rd
          have HX9 := Lib.hid (HX8.out.trans hx9)
          clear ho9 hx9 HX8
          go_wp2_with fail
          refine (eqb41_any _ _ np np _ _ _ (H57.out.ext HX9.out) HO9.out).mono ?_
          rintro e w10 ⟨rfl, hx10⟩
          rw [HE2.out]
          have HX10 := Lib.hid ((HX6.out.trans HX9.out).trans hx10)
          clear hx10
          go_wp2_with fail
          go_ret
          exact ⟨rfl, HX10.out⟩
end Go.Proofs.Ytnigpobbckampaa
namespace Go.Proofs.Ytnigpobbckampaa
open Go.RowKit
set_option linter.unusedSimpArgs false
set_option linter.unusedVariables false

def tagQ (z c1 ns nh : Nat) (fs fh : Nat → Nat) : Nat := tms (sm z (blks nh ns fh fs) ((nh + 15) / 16 + (ns + 15) / 16) ^^^ (8 * nh * 18446744073709551616 + 8 * ns)) z ^^^ c1
def ctrL (nl : List Nat) (i : Nat) : List Nat := (List.range 16).map fun j => ctrB (look nl) i j
theorem ctrB_congr {f g : Nat → Nat} (h : ∀ j, j < 12 → f j = g j) (n j : Nat) : ctrB f n j = ctrB g n j := by
  unfold ctrB ctrK
  by_cases hj : j < 12
  · rw [if_pos hj, if_pos hj, h j hj]
  · rw [if_neg hj, if_neg hj]
theorem look_ctrL (nl : List Nat) (i j : Nat) (h : j < 16) : look (ctrL nl i) j = ctrB (look nl) i j := by
  unfold look ctrL
  rw [List.getD_eq_getElem?_getD, List.getElem?_map, List.getElem?_range h]
  rfl

theorem all_range {n : Nat} {p : Nat → Bool} (h : (List.range n).all p = true) (i : Nat) (hi : i < n) : p i = true := List.all_eq_true.1 h i (List.mem_range.2 hi)
theorem eq_range {n : Nat} {f g : Nat → Nat} (h : (List.range n).all (fun i => f i == g i) = true) (i : Nat) (hi : i < n) : f i = g i := by
  have := all_range h i hi
  simpa using this

theorem box_known (l ps nl pl hl wl : List Nat) (S0 : List (List Nat)) (S : List (List (List Nat))) (f nonce fp fh : Nat → Nat) (n nh m T : Nat)
    (hkey : keyB 4 (4 * (4 + 7) - 4) l ps = true) (h0 : statesB (4 + 7) l [] S0 = true)
    (hS : (List.range m).all (fun i => statesB (4 + 7) l (ctrL nl (i + 1)) (S.getD i [])) = true) (hm : 0 < m) (hnm : n ≤ 16 * (m - 1))
    (hf : ∀ j, j < 16 → f j = look l j) (hn : ∀ j, j < 12 → nonce j = look nl j) (hp : ∀ j, j < n → fp j = look pl j) (hh : ∀ j, j < nh → fh j = look hl j)
    (hw : (List.range n).all (fun j => look pl j ^^^ look ((S.getD (1 + j / 16) []).getD 10 []) (j % 16) == look wl j) = true)
    (hT : tagQ (be (look (S0.getD 10 [])) 16) (be (look ((S.getD 0 []).getD 10 [])) 16) n nh (look wl) (look hl) = T)
    (hTw : (List.range 16).all (fun j => byP T j == look wl (n + j)) = true) :
    ∀ i, i < n + 16 → sealP (4 + 7) (keysP 4 f) nonce n nh fp fh i = look wl i := by
  have hb0 : ∀ j, j < 16 → blockP (4 + 7) (keysP 4 f) (fun _ => 0) j = look (S0.getD 10 []) j := fun j hj =>
    block_look 4 f (fun _ => 0) l ps [] S0 (by omega) hkey h0 hf (fun j _ => rfl) j hj
  have hbi : ∀ i, i < m → ∀ j, j < 16 → blockP (4 + 7) (keysP 4 f) (ctrB nonce (i + 1)) j = look ((S.getD i []).getD 10 []) j := fun i hi j hj =>
    block_look 4 f (ctrB nonce (i + 1)) l ps (ctrL nl (i + 1)) (S.getD i []) (by omega) hkey (all_range hS i hi) hf (fun j hj => by rw [look_ctrL _ _ _ hj]; exact ctrB_congr hn _ _) j hj
  have hhide : ∀ j, j < n → hideP (4 + 7) (keysP 4 f) nonce fp j = look wl j := fun j hj => by
    unfold hideP
    rw [← eq_range hw j hj, hp j hj, show 2 + j / 16 = (1 + j / 16) + 1 from by omega, hbi (1 + j / 16) (by omega) (j % 16) (by omega)]
  have htag : tagN (4 + 7) (keysP 4 f) nonce n nh (hideP (4 + 7) (keysP 4 f) nonce fp) fh = T := by
    rw [tagN_congr (4 + 7) (keysP 4 f) nonce hh hhide, ← hT]
    unfold tagN tagQ
    rw [be_congr 16 hb0, be_congr 16 (hbi 0 hm)]
  intro i hi
  by_cases hin : i < n
  · rw [sealP_lt i hin, hhide i hin]
  · obtain ⟨j, rfl⟩ : ∃ j, i = n + j := ⟨i - n, by omega⟩
    rw [sealP_ge, htag]
    exact eq_range hTw j (by omega)

/-! ### Hexadecimal digits -/
def hexB (s : ByteArray) (m : Nat) (l : List Nat) : Bool := s.size == 2 * m && (s.data.toList.map UInt8.toNat == l) && l.all fun c => decide (48 ≤ c) && decide (c < 103) && (decide (c < 58) || decide (97 ≤ c))
def HexOk (s : ByteArray) (m : Nat) (cs : Nat → Nat) : Prop := s.size = 2 * m ∧ ∀ i (h : i < s.size), (s[i]'h).toNat = cs i ∧ 48 ≤ cs i ∧ cs i < 103 ∧ (cs i < 58 ∨ 97 ≤ cs i)
theorem hex_ok {s : ByteArray} {m : Nat} {l : List Nat} (h : hexB s m l = true) : HexOk s m (look l) := by
  simp only [hexB, Bool.and_eq_true, beq_iff_eq] at h
  obtain ⟨⟨h1, h2⟩, h3⟩ := h
  refine ⟨h1, fun i hi => ?_⟩
  have hlen : l.length = s.size := by rw [← h2, List.length_map]; rfl
  have hil : i < l.length := by omega
  have he : look l i = l[i] := by unfold look; rw [List.getD_eq_getElem?_getD, List.getElem?_eq_getElem hil]; rfl
  have hs : (s[i]'hi).toNat = l[i] := by
    have h5 : (s.data.toList.map UInt8.toNat)[i]'(by rw [h2]; exact hil) = l[i] := by simp only [h2]
    rw [← h5, List.getElem_map]
    rfl
  have h4 := List.all_eq_true.1 h3 (l[i]) (List.getElem_mem hil)
  simp only [Bool.and_eq_true, Bool.or_eq_true, decide_eq_true_eq] at h4
  rw [he]
  exact ⟨hs, h4.1.1, h4.1.2, h4.2⟩

/-! ### The key of zeros -/
def lZk : List Nat := [0, 0, 0, 0, 0, 0, 0, 0, 0, 0, 0, 0, 0, 0, 0, 0, 98, 99, 99, 99, 98, 99, 99, 99, 98, 99, 99, 99, 98, 99, 99, 99, 155, 152, 152, 201, 249, 251, 251, 170, 155, 152, 152, 201, 249, 251, 251, 170, 144, 151, 52, 80, 105, 108, 207, 250, 242, 244, 87, 51, 11, 15, 172, 153, 238, 6, 218, 123, 135, 106, 21, 129, 117, 158, 66, 178, 126, 145, 238, 43, 127, 46, 43, 136, 248, 68, 62, 9, 141, 218, 124, 187, 243, 75, 146, 144, 236, 97, 75, 133, 20, 37, 117, 140, 153, 255, 9, 55, 106, 180, 155, 167, 33, 117, 23, 135, 53, 80, 98, 11, 172, 175, 107, 60, 198, 27, 240, 155, 14, 249, 3, 51, 59, 169, 97, 56, 151, 6, 10, 4, 81, 29, 250, 159, 177, 212, 216, 226, 138, 125, 185, 218, 29, 123, 179, 222, 76, 102, 73, 65, 180, 239, 91, 203, 62, 146, 226, 17, 35, 233, 81, 207, 111, 143, 24, 142]
def pZk : List Nat := [1, 2, 2, 2, 2, 4, 4, 4, 4, 8, 8, 8, 8, 16, 16, 16, 16, 32, 32, 32, 32, 64, 64, 64, 64, 128, 128, 128, 128, 27, 27, 27, 27, 54, 54, 54, 54, 108, 108, 108, 108]
def sZk : List (List Nat) := [[0, 0, 0, 0, 0, 0, 0, 0, 0, 0, 0, 0, 0, 0, 0, 0], [1, 0, 0, 0, 1, 0, 0, 0, 1, 0, 0, 0, 1, 0, 0, 0], [198, 228, 228, 139, 164, 135, 135, 232, 198, 228, 228, 139, 164, 135, 135, 232], [40, 45, 243, 196, 106, 243, 134, 37, 74, 78, 144, 167, 8, 144, 229, 70], [171, 210, 205, 254, 55, 90, 181, 73, 80, 160, 175, 192, 117, 154, 106, 95], [212, 111, 79, 108, 85, 184, 150, 51, 126, 5, 187, 61, 121, 121, 222, 35], [4, 242, 202, 151, 7, 120, 40, 69, 226, 47, 1, 150, 73, 197, 215, 16], [183, 170, 228, 197, 29, 37, 45, 79, 108, 146, 15, 129, 148, 229, 129, 80], [35, 231, 140, 60, 19, 33, 99, 219, 170, 192, 198, 87, 46, 3, 203, 149], [127, 254, 14, 149, 81, 165, 102, 53, 14, 52, 124, 71, 41, 41, 236, 203], [102, 233, 75, 212, 239, 138, 44, 59, 136, 76, 250, 89, 202, 52, 43, 46]]
def cZk : List (List (List Nat)) := [[[0, 0, 0, 0, 0, 0, 0, 0, 0, 0, 0, 0, 0, 0, 0, 1], [30, 31, 33, 62, 1, 0, 0, 0, 1, 0, 0, 0, 1, 0, 0, 0], [218, 234, 234, 153, 117, 86, 239, 81, 88, 93, 195, 21, 90, 218, 36, 75], [107, 120, 64, 75, 68, 221, 91, 251, 137, 115, 23, 228, 120, 135, 219, 170], [20, 71, 112, 136, 49, 23, 38, 231, 31, 3, 241, 64, 146, 108, 39, 163], [48, 221, 102, 216, 232, 254, 86, 127, 35, 221, 233, 210, 104, 84, 147, 4], [222, 216, 197, 211, 220, 57, 47, 229, 84, 30, 4, 241, 188, 21, 162, 105], [38, 184, 247, 169, 232, 26, 72, 30, 120, 21, 53, 10, 27, 34, 38, 25], [68, 36, 6, 182, 217, 81, 56, 157, 64, 77, 99, 196, 149, 251, 52, 133], [131, 247, 93, 208, 136, 243, 141, 226, 47, 131, 137, 25, 89, 53, 127, 54], [88, 226, 252, 206, 250, 126, 48, 97, 54, 127, 29, 87, 164, 231, 69, 90]], [[0, 0, 0, 0, 0, 0, 0, 0, 0, 0, 0, 0, 0, 0, 0, 2], [21, 20, 60, 40, 1, 0, 0, 0, 1, 0, 0, 0, 1, 0, 0, 0], [140, 193, 193, 228, 243, 208, 126, 70, 78, 103, 239, 3, 20, 174, 30, 113], [180, 202, 123, 14, 252, 143, 24, 200, 185, 218, 130, 106, 228, 112, 94, 241], [200, 249, 250, 206, 246, 55, 164, 8, 227, 225, 36, 243, 159, 254, 180, 77], [212, 80, 11, 218, 105, 234, 3, 183, 100, 225, 220, 126, 170, 111, 85, 44], [25, 220, 0, 190, 69, 127, 110, 54, 126, 35, 84, 56, 84, 192, 156, 157], [129, 32, 179, 174, 243, 165, 100, 6, 226, 147, 235, 225, 143, 145, 122, 236], [59, 23, 137, 79, 96, 150, 40, 250, 38, 95, 120, 133, 206, 38, 171, 21], [32, 139, 34, 65, 157, 10, 245, 15, 96, 166, 145, 214, 233, 221, 248, 54], [3, 136, 218, 206, 96, 182, 163, 146, 243, 40, 194, 185, 113, 178, 254, 120]]]
theorem keyZk : keyB 4 (4 * (4 + 7) - 4) lZk pZk = true := by kernel_rfl
theorem stZk : statesB (4 + 7) lZk [] sZk = true := by kernel_rfl
theorem ctZk : (List.range 2).all (fun i => statesB (4 + 7) lZk (ctrL [] (i + 1)) (cZk.getD i [])) = true := by kernel_rfl
def wZ1 : List Nat := [88, 226, 252, 206, 250, 126, 48, 97, 54, 127, 29, 87, 164, 231, 69, 90]
def xZ1 : List Nat := []
def hZ1 : List Nat := []
theorem boxZ1 (f nonce fp fh : Nat → Nat) (hf : ∀ j, j < 16 → f j = look lZk j) (hn : ∀ j, j < 12 → nonce j = look [] j) (hp : ∀ j, j < 0 → fp j = look xZ1 j) (hh : ∀ j, j < 0 → fh j = look hZ1 j) :
    ∀ i, i < 0 + 16 → sealP (4 + 7) (keysP 4 f) nonce 0 0 fp fh i = look wZ1 i :=
  box_known lZk pZk [] xZ1 hZ1 wZ1 sZk cZk f nonce fp fh 0 0 2 118150650284846871594443245464813258074 keyZk stZk ctZk (by omega) (by omega) hf hn hp hh (by kernel_rfl) (by kernel_rfl) (by kernel_rfl)
def wZ2 : List Nat := [3, 136, 218, 206, 96, 182, 163, 146, 243, 40, 194, 185, 113, 178, 254, 120, 171, 110, 71, 212, 44, 236, 19, 189, 245, 58, 103, 178, 18, 87, 189, 223]
def xZ2 : List Nat := [0, 0, 0, 0, 0, 0, 0, 0, 0, 0, 0, 0, 0, 0, 0, 0]
def hZ2 : List Nat := []
theorem boxZ2 (f nonce fp fh : Nat → Nat) (hf : ∀ j, j < 16 → f j = look lZk j) (hn : ∀ j, j < 12 → nonce j = look [] j) (hp : ∀ j, j < 16 → fp j = look xZ2 j) (hh : ∀ j, j < 0 → fh j = look hZ2 j) :
    ∀ i, i < 16 + 16 → sealP (4 + 7) (keysP 4 f) nonce 16 0 fp fh i = look wZ2 i :=
  box_known lZk pZk [] xZ2 hZ2 wZ2 sZk cZk f nonce fp fh 16 0 2 227870596795014497752965622056248393183 keyZk stZk ctZk (by omega) (by omega) hf hn hp hh (by kernel_rfl) (by kernel_rfl) (by kernel_rfl)

end Go.Proofs.Ytnigpobbckampaa
namespace Go.Proofs.Ytnigpobbckampaa
open Go.RowKit
set_option linter.unusedSimpArgs false
set_option linter.unusedVariables false

def sz16 : ByteArray := { data := #[48, 48, 48, 48, 48, 48, 48, 48, 48, 48, 48, 48, 48, 48, 48, 48, 48, 48, 48, 48, 48, 48, 48, 48, 48, 48, 48, 48, 48, 48, 48, 48] }
def dz16 : List Nat := [48, 48, 48, 48, 48, 48, 48, 48, 48, 48, 48, 48, 48, 48, 48, 48, 48, 48, 48, 48, 48, 48, 48, 48, 48, 48, 48, 48, 48, 48, 48, 48]
theorem okz16 : HexS sz16 16 (look dz16) := hex_ok (by kernel_rfl)
def sz12 : ByteArray := { data := #[48, 48, 48, 48, 48, 48, 48, 48, 48, 48, 48, 48, 48, 48, 48, 48, 48, 48, 48, 48, 48, 48, 48, 48] }
def dz12 : List Nat := [48, 48, 48, 48, 48, 48, 48, 48, 48, 48, 48, 48, 48, 48, 48, 48, 48, 48, 48, 48, 48, 48, 48, 48]
theorem okz12 : HexS sz12 12 (look dz12) := hex_ok (by kernel_rfl)
def se0 : ByteArray := { data := #[] }
def de0 : List Nat := []
theorem oke0 : HexS se0 0 (look de0) := hex_ok (by kernel_rfl)
def sw1 : ByteArray := { data := #[53, 56, 101, 50, 102, 99, 99, 101, 102, 97, 55, 101, 51, 48, 54, 49, 51, 54, 55, 102, 49, 100, 53, 55, 97, 52, 101, 55, 52, 53, 53, 97] }
def dw1 : List Nat := [53, 56, 101, 50, 102, 99, 99, 101, 102, 97, 55, 101, 51, 48, 54, 49, 51, 54, 55, 102, 49, 100, 53, 55, 97, 52, 101, 55, 52, 53, 53, 97]
theorem okw1 : HexS sw1 16 (look dw1) := hex_ok (by kernel_rfl)
def sw2 : ByteArray := { data := #[48, 51, 56, 56, 100, 97, 99, 101, 54, 48, 98, 54, 97, 51, 57, 50, 102, 51, 50, 56, 99, 50, 98, 57, 55, 49, 98, 50, 102, 101, 55, 56, 97, 98, 54, 101, 52, 55, 100, 52, 50, 99, 101, 99, 49, 51, 98, 100, 102, 53, 51, 97, 54, 55, 98, 50, 49, 50, 53, 55, 98, 100, 100, 102] }
def dw2 : List Nat := [48, 51, 56, 56, 100, 97, 99, 101, 54, 48, 98, 54, 97, 51, 57, 50, 102, 51, 50, 56, 99, 50, 98, 57, 55, 49, 98, 50, 102, 101, 55, 56, 97, 98, 54, 101, 52, 55, 100, 52, 50, 99, 101, 99, 49, 51, 98, 100, 102, 53, 51, 97, 54, 55, 98, 50, 49, 50, 53, 55, 98, 100, 100, 102]
theorem okw2 : HexS sw2 32 (look dw2) := hex_ok (by kernel_rfl)

set_option maxRecDepth 100000 in
set_option maxHeartbeats 1000000 in
theorem works34_any (w : World) : Calls Try.prog 34 #[] w fun e w' => e = .returned (.bool true) ∧ Ext w w' := by
  have hsl : ∀ W : World, (Instr.slice 9 (.string sz16) none (some (.int .i64 24)) none).run Try.prog W = .ok (.string sz12) W := fun W => by kernel_rfl
  have f16 : ∀ j, j < 16 → hexF (look dz16) j = look lZk j := eq_range (by kernel_rfl)
  have f12 : ∀ j, j < 12 → hexF (look dz12) j = look [] j := eq_range (by kernel_rfl)
  have p16 : ∀ j, j < 16 → hexF (look dz16) j = look xZ2 j := eq_range (by kernel_rfl)
  have g1 : ∀ j, j < 16 → look wZ1 j = hexF (look dw1) j := eq_range (by kernel_rfl)
  have g2 : ∀ j, j < 32 → look wZ2 j = hexF (look dw2) j := eq_range (by kernel_rfl)
  have H1 := Lib.hid (show ∀ i, i < 16 → sealP (4 + 7) (keysP 4 (hexF (look dz16))) (hexF (look dz12)) 0 0 (hexF (look de0)) (hexF (look de0)) i = hexF (look dw1) i from fun i hi => (boxZ1 _ _ _ _ f16 f12 (fun j hj => absurd hj (Nat.not_lt_zero _)) (fun j hj => absurd hj (Nat.not_lt_zero _)) i hi).trans (g1 i hi))
  have H2 := Lib.hid (show ∀ i, i < 32 → sealP (4 + 7) (keysP 4 (hexF (look dz16))) (hexF (look dz12)) 16 0 (hexF (look dz16)) (hexF (look de0)) i = hexF (look dw2) i from fun i hi => (boxZ2 _ _ _ _ f16 f12 p16 (fun j hj => absurd hj (Nat.not_lt_zero _)) i hi).trans (g2 i hi))
  clear f16 f12 p16 g1 g2
  go_enter Try.func34, Try.ntmps34
  go_wp2_with fail
  refine (seals45_any sz16 sz12 se0 se0 sw1 _ _ _ _ _ 0 0 16 _ okz16 okz12 oke0 oke0 okw1 (by omega) (by omega) (by omega) (by omega) H1.out).mono ?_
  rintro e w1 ⟨rfl, hx1⟩
  have HX1 := Lib.hid hx1
  clear hx1
  go_wp2_with fail
  refine (seals45_any sz16 sz12 sz16 se0 sw2 _ _ _ _ _ 16 0 32 _ okz16 okz12 okz16 oke0 okw2 (by omega) (by omega) (by omega) (by omega) H2.out).mono ?_
  rintro e w2 ⟨rfl, hx2⟩
  have HX2 := Lib.hid (HX1.out.trans hx2)
  clear hx2
  go_wp2_with fail
  go_ret
  exact ⟨rfl, HX2.out⟩
end Go.Proofs.Ytnigpobbckampaa
