/- The document's growth of a key: the next word, walked. -/
import Derived.Test.YtnigpobbckampaaH0
import Derived.Deep.DeepCutAuto
namespace Go.Proofs.Ytnigpobbckampaa
open Go.RowKit
set_option linter.unusedSimpArgs false
set_option linter.unusedVariables false

theorem pcells4 (f : Nat → Nat) : ∀ v ∈ (row 4 f).toList, v.oneCell' = true := row_one 4 f

set_option maxRecDepth 100000 in
set_option maxHeartbeats 1000000 in
theorem word4_any (v : Value) (i p base : Nat) (F : Nat → Nat) (w : World) (hi : 4 ≤ i) (hi2 : i ≤ 100) (hp : p < 256) (hF : ∀ m, m < 4 * i → F m < 256) (hv : WordsF w base v i F) :
    Calls Try.prog 52 #[v, .agg (row 256 boxP), .int .i64 4, .int .u8 ((p : Nat) : Int)] w fun e w' => e = .returned (.agg (row 4 fun j => xword 4 F p i j ^^^ F (4 * (i - 4) + j))) ∧ Ext w w' := by
  obtain ⟨g, cap, cur, rfl, hgb, hG, hle, hsz, hcur⟩ := hv.form (by omega)
  clear hv
  go_enter Try.func52, Try.ntmps52
  go_upto_region 2 with (first | (refine wl_boxA rfl 52 _ rfl _ rfl ?_) | (refine wl_allocA rfl 80 rfl _ zero80 ?_))
  have hS : Blk ((w.alloc (.cells (row 256 boxP) 52)).alloc (.cells (row 4 fun _ => 0) 80)) w.heap.size 52 (row 256 boxP) := (Blk.new _ _ _).alloc _
  have hR : Blk ((w.alloc (.cells (row 256 boxP) 52)).alloc (.cells (row 4 fun _ => 0) 80)) (w.heap.size + 1) 80 (row 4 fun _ => 0) := by
    have := Blk.new (w.alloc (.cells (row 256 boxP) 52)) 80 (row 4 fun _ => 0)
    simpa only [World.size_alloc] using this
  have hG1 : Blk ((w.alloc (.cells (row 256 boxP) 52)).alloc (.cells (row 4 fun _ => 0) 80)) g 80 cur := (hG.alloc _).alloc _
  have hx : Ext w ((w.alloc (.cells (row 256 boxP) 52)).alloc (.cells (row 4 fun _ => 0) 80)) := (Ext.alloc _ _).trans (Ext.alloc _ _)
  have hgl := hG.lt
  generalize (w.alloc (.cells (row 256 boxP) 52)).alloc (.cells (row 4 fun _ => 0) 80) = w1 at hS hR hG1 hx ⊢
  have HS := Lib.hid hS
  have HR := Lib.hid hR
  have HG := Lib.hid hG1
  have HX := Lib.hid hx
  have HC := Lib.hid hcur
  clear hS hR hG1 hx hcur hG
  have hpart : cur.extract ((i - 1) * 4) ((i - 1) * 4 + 4) = row 4 (fun j => F (4 * (i - 1) + j)) := by
    refine row_ext (by simp; omega) (fun j hj => ?_)
    rw [Array.getElem?_extract, if_pos (by omega), HC.out _ (by omega), Nat.mul_comm 4]
  obtain ⟨X, hXe⟩ : ∃ X : Nat → Nat, X = fun j => F (4 * (i - 1) + j) := ⟨_, rfl⟩
  rw [← hXe] at hpart
  have hXl : ∀ j, j < 4 → X j < 256 := fun j hj => by rw [hXe]; exact hF _ (by omega)
  have HE := Lib.hid hXe
  clear hXe
  have HP := Lib.hid hpart
  clear hpart
  go_upto_region 3 with (first | (refine wl_loadA rfl 80 _ rfl g ((i - 1) * 4) 4 rfl agg80 sz80 _ _ HG.out (by omega) _ HP.out ?_) | (refine wl_allocA rfl 80 rfl _ zero80 ?_) | (refine wl_storeA rfl 80 _ _ rfl _ 0 4 rfl (row 4 X) rfl sz80 (row_size _ _) _ _ (Blk.new _ _ _) (by simp [row_size]) (row_one _ _) (row 4 X) (lay_all _ _ (by simp [row_size])) ?_))
  have hX2 : Blk ((w1.alloc (.cells (row 4 fun _ => 0) 80)).setRow w1.heap.size (row 4 X)) w1.heap.size 80 (row 4 X) := (Blk.new _ _ _).setRow _
  have hx2 : Ext w1 ((w1.alloc (.cells (row 4 fun _ => 0) 80)).setRow w1.heap.size (row 4 X)) := below_setRow (g := w1.heap.size) (Ext.alloc _ _) (Nat.le_refl _) _
  have hw1 := HR.out.lt
  generalize w1.heap.size = gx at hX2 hx2 hw1 ⊢
  generalize (w1.alloc (.cells (row 4 fun _ => 0) 80)).setRow gx (row 4 X) = w2 at hX2 hx2 ⊢
  have HY := Lib.hid hX2
  have GS := Lib.hid (HS.out.ext hx2)
  have GR := Lib.hid (HR.out.ext hx2)
  have GG := Lib.hid (HG.out.ext hx2)
  have GX := Lib.hid (HX.out.trans hx2)
  clear hX2 hx2 HS HR HG HX HP
  go_upto_if 22 with fail
  go_cut [] (fun wx => Blk wx gx 80 (row 4 (xword 4 F p i)) ∧ Blk wx (w.heap.size + 1) 80 (row 4 fun _ => 0) ∧ Blk wx g 80 cur ∧ Ext w wx)
  case first =>
    by_cases hm : i % 4 = 0
    · skip
      have hb : ((i : Int) % 4 == 0) = true := by simp; omega
      have c0 := HY.out.byte 0 (by omega)
      have c1 := HY.out.byte 1 (by omega)
      have c2 := HY.out.byte 2 (by omega)
      have c3 := HY.out.byte 3 (by omega)
      have s0 := GS.out.byte _ (hXl 0 (by omega))
      have s1 := GS.out.byte _ (hXl 1 (by omega))
      have s2 := GS.out.byte _ (hXl 2 (by omega))
      have s3 := GS.out.byte _ (hXl 3 (by omega))
      have l0 := hXl 0 (by omega)
      have l1 := hXl 1 (by omega)
      have l2 := hXl 2 (by omega)
      have l3 := hXl 3 (by omega)
      have HW := Lib.hid (show Value.agg #[.int .u8 ((boxP (X 1) ^^^ p : Nat) : Int), .int .u8 ((boxP (X 2) : Nat) : Int), .int .u8 ((boxP (X 3) : Nat) : Int), .int .u8 ((boxP (X 0) : Nat) : Int)] = .agg (row 4 (xword 4 F p i)) from by
        rw [row4]
        simp [xword, hm, HE.out])
      go_upto_region 4 with fail
      apply wp_region_mid 19 [.det _, .det _, .det _, .det _, .det _, .det _, .det _, .det _, .det _, .det _, .det _, .det _, .det _, .det _, .det _, .det _, .det _, .det _, .det _] (by kernel_rfl) rfl (by kernel_rfl)
      · skip
        (first | (refine wpE_move rfl rfl rfl ?_; simp only [put_lit, eval_lit, BigFrame.eval_const, List.set_cons_succ, List.set_cons_zero, List.getD_cons_succ, List.getD_cons_zero]) | (refine wpE_run rfl rfl (by simp) (fun w1 hx1 _ K hK => by go_step; exact hK _ (Ext.refl _)) ?_; simp only [put_lit, List.set_cons_succ, List.set_cons_zero]))
        (refine wpE_run rfl rfl (by simp) (fun w1 hx1 _ K hK => by have hc := hx1.cell c1; go_step; exact hK _ (Ext.refl _)) ?_); simp only [put_lit, List.set_cons_succ, List.set_cons_zero]
        (first | (refine wpE_move rfl rfl rfl ?_; simp only [put_lit, eval_lit, BigFrame.eval_const, List.set_cons_succ, List.set_cons_zero, List.getD_cons_succ, List.getD_cons_zero]) | (refine wpE_run rfl rfl (by simp) (fun w1 hx1 _ K hK => by go_step; exact hK _ (Ext.refl _)) ?_; simp only [put_lit, List.set_cons_succ, List.set_cons_zero]))
        (refine wpE_run rfl rfl (by simp) (fun w1 hx1 _ K hK => by have hc := hx1.cell s1; go_step; exact hK _ (Ext.refl _)) ?_); simp only [put_lit, List.set_cons_succ, List.set_cons_zero]
        (first | (refine wpE_move rfl rfl rfl ?_; simp only [put_lit, eval_lit, BigFrame.eval_const, List.set_cons_succ, List.set_cons_zero, List.getD_cons_succ, List.getD_cons_zero]) | (refine wpE_run rfl rfl (by simp) (fun w1 hx1 _ K hK => by go_step; exact hK _ (Ext.refl _)) ?_; simp only [put_lit, List.set_cons_succ, List.set_cons_zero]))
        (first | (refine wpE_move rfl rfl rfl ?_; simp only [put_lit, eval_lit, BigFrame.eval_const, List.set_cons_succ, List.set_cons_zero, List.getD_cons_succ, List.getD_cons_zero]) | (refine wpE_run rfl rfl (by simp) (fun w1 hx1 _ K hK => by go_step; exact hK _ (Ext.refl _)) ?_; simp only [put_lit, List.set_cons_succ, List.set_cons_zero]))
        rw [u8_xor_nat _ _ (boxP_lt _) hp]
        (first | (refine wpE_move rfl rfl rfl ?_; simp only [put_lit, eval_lit, BigFrame.eval_const, List.set_cons_succ, List.set_cons_zero, List.getD_cons_succ, List.getD_cons_zero]) | (refine wpE_run rfl rfl (by simp) (fun w1 hx1 _ K hK => by go_step; exact hK _ (Ext.refl _)) ?_; simp only [put_lit, List.set_cons_succ, List.set_cons_zero]))
        (refine wpE_run rfl rfl (by simp) (fun w1 hx1 _ K hK => by have hc := hx1.cell c2; go_step; exact hK _ (Ext.refl _)) ?_); simp only [put_lit, List.set_cons_succ, List.set_cons_zero]
        (first | (refine wpE_move rfl rfl rfl ?_; simp only [put_lit, eval_lit, BigFrame.eval_const, List.set_cons_succ, List.set_cons_zero, List.getD_cons_succ, List.getD_cons_zero]) | (refine wpE_run rfl rfl (by simp) (fun w1 hx1 _ K hK => by go_step; exact hK _ (Ext.refl _)) ?_; simp only [put_lit, List.set_cons_succ, List.set_cons_zero]))
        (refine wpE_run rfl rfl (by simp) (fun w1 hx1 _ K hK => by have hc := hx1.cell s2; go_step; exact hK _ (Ext.refl _)) ?_); simp only [put_lit, List.set_cons_succ, List.set_cons_zero]
        (first | (refine wpE_move rfl rfl rfl ?_; simp only [put_lit, eval_lit, BigFrame.eval_const, List.set_cons_succ, List.set_cons_zero, List.getD_cons_succ, List.getD_cons_zero]) | (refine wpE_run rfl rfl (by simp) (fun w1 hx1 _ K hK => by go_step; exact hK _ (Ext.refl _)) ?_; simp only [put_lit, List.set_cons_succ, List.set_cons_zero]))
        (refine wpE_run rfl rfl (by simp) (fun w1 hx1 _ K hK => by have hc := hx1.cell c3; go_step; exact hK _ (Ext.refl _)) ?_); simp only [put_lit, List.set_cons_succ, List.set_cons_zero]
        (first | (refine wpE_move rfl rfl rfl ?_; simp only [put_lit, eval_lit, BigFrame.eval_const, List.set_cons_succ, List.set_cons_zero, List.getD_cons_succ, List.getD_cons_zero]) | (refine wpE_run rfl rfl (by simp) (fun w1 hx1 _ K hK => by go_step; exact hK _ (Ext.refl _)) ?_; simp only [put_lit, List.set_cons_succ, List.set_cons_zero]))
        (refine wpE_run rfl rfl (by simp) (fun w1 hx1 _ K hK => by have hc := hx1.cell s3; go_step; exact hK _ (Ext.refl _)) ?_); simp only [put_lit, List.set_cons_succ, List.set_cons_zero]
        (first | (refine wpE_move rfl rfl rfl ?_; simp only [put_lit, eval_lit, BigFrame.eval_const, List.set_cons_succ, List.set_cons_zero, List.getD_cons_succ, List.getD_cons_zero]) | (refine wpE_run rfl rfl (by simp) (fun w1 hx1 _ K hK => by go_step; exact hK _ (Ext.refl _)) ?_; simp only [put_lit, List.set_cons_succ, List.set_cons_zero]))
        (refine wpE_run rfl rfl (by simp) (fun w1 hx1 _ K hK => by have hc := hx1.cell c0; go_step; exact hK _ (Ext.refl _)) ?_); simp only [put_lit, List.set_cons_succ, List.set_cons_zero]
        (first | (refine wpE_move rfl rfl rfl ?_; simp only [put_lit, eval_lit, BigFrame.eval_const, List.set_cons_succ, List.set_cons_zero, List.getD_cons_succ, List.getD_cons_zero]) | (refine wpE_run rfl rfl (by simp) (fun w1 hx1 _ K hK => by go_step; exact hK _ (Ext.refl _)) ?_; simp only [put_lit, List.set_cons_succ, List.set_cons_zero]))
        (refine wpE_run rfl rfl (by simp) (fun w1 hx1 _ K hK => by have hc := hx1.cell s0; go_step; exact hK _ (Ext.refl _)) ?_); simp only [put_lit, List.set_cons_succ, List.set_cons_zero]
        (first | (refine wpE_move rfl rfl rfl ?_; simp only [put_lit, eval_lit, BigFrame.eval_const, List.set_cons_succ, List.set_cons_zero, List.getD_cons_succ, List.getD_cons_zero]) | (refine wpE_run rfl rfl (by simp) (fun w1 hx1 _ K hK => by go_step; exact hK _ (Ext.refl _)) ?_; simp only [put_lit, List.set_cons_succ, List.set_cons_zero]))
        (refine wpE_nil ?_; intro w3 hw2 hF; simp only [List.drop_succ_cons, List.drop_zero])
        clear hF c0 c1 c2 c3 s0 s1 s2 s3
        refine wl_storeA rfl 80 (.tmp 10) (.tmp 41) rfl gx 0 4 rfl (row 4 (xword 4 F p i)) HW.out sz80 (row_size _ _) _ _ (HY.out.ext hw2) (by simp [row_size]) (row_one _ _) (row 4 (xword 4 F p i)) (lay_all _ _ (by simp [row_size])) ?_
        have r1 := (HY.out.ext hw2).setRow (row 4 (xword 4 F p i))
        have r2 := (GR.out.ext hw2).setRow_other (k := gx) (row 4 (xword 4 F p i)) (by omega)
        have r3 := (GG.out.ext hw2).setRow_other (k := gx) (row 4 (xword 4 F p i)) (by omega)
        have r4 : Ext w (World.setRow w3 gx (row 4 (xword 4 F p i))) := below_setRow (GX.out.trans hw2) (by omega) _
        have q1 := Lib.hid r1
        have q2 := Lib.hid r2
        have q3 := Lib.hid r3
        have q4 := Lib.hid r4
        clear r1 r2 r3 r4
        go_wp2_with fail
        go_meet
        case rel => exact ⟨q1.out, q2.out, q3.out, q4.out⟩
    · skip
      have hb : ((i : Int) % 4 == 0) = false := by simp; omega
      have q1 := HY.out
      rw [show row 4 X = row 4 (xword 4 F p i) from row_congr fun j hj => by simp [xword, hm, HE.out]] at q1
      have Q1 := Lib.hid q1
      clear q1
      go_wp2_with fail
      go_meet
      case rel => exact ⟨Q1.out, GR.out, GG.out, GX.out⟩
  case rest =>
    obtain ⟨hY, hR, hG, hX⟩ := hcut
    clear HY GS GR GG GX
    have hzl : ∀ j, j < 4 → xword 4 F p i j < 256 := xword_lt 4 F p i (by omega) hp hF
    have HO := Lib.hid (⟨hY, hR, hG, hX⟩ : Blk wc gx 80 (row 4 (xword 4 F p i)) ∧ Blk wc (w.heap.size + 1) 80 (row 4 fun _ => 0) ∧ Blk wc g 80 cur ∧ Ext w wc)
    clear hY hR hG hX HE
    obtain ⟨Z, hZ⟩ : ∃ Z, xword 4 F p i = Z := ⟨_, rfl⟩
    rw [hZ] at hzl HO
    have HZ := Lib.hid hZ
    clear hZ
    go_wp2_with fail
    go_loopw [11] (fun v11 wr => ∃ j : Nat, j ≤ 4 ∧ v11 = .int .i64 j ∧ Blk wr gx 80 (row 4 (mixF j (fun j => Z j ^^^ F (4 * (i - 4) + j)) Z)) ∧ Blk wr (w.heap.size + 1) 80 (row 4 fun _ => 0) ∧ Blk wr g 80 cur ∧ Ext w wr) (fun v11 _ => 4 - (intOf v11).toNat)
    case atStart => exact ⟨0, by omega, rfl, by rw [mixF_zero]; exact HO.out.1, HO.out.2.1, HO.out.2.2.1, HO.out.2.2.2⟩
    case round =>
      clear HO
      obtain ⟨j, hj, rfl, hY, hR, hG, hX⟩ := hrel
      have HY := Lib.hid hY
      have GR := Lib.hid hR
      have GG := Lib.hid hG
      have GX := Lib.hid hX
      clear hY hR hG hX
      by_cases hj4 : j < 4
      · have hj' : (j : Int) < 4 := by omega
        have c1 := HY.out.byte j hj4
        rw [mixF_at] at c1
        have c2 : wr.cell? ⟨g, (i - 4) * 4 + j, none⟩ = some (.int .u8 ((F (4 * (i - 4) + j) : Nat) : Int)) := by
          rw [GG.out.cell, HC.out _ (by omega), Nat.mul_comm 4]
        have lz := hzl j hj4
        have lf := hF (4 * (i - 4) + j) (by omega)
        go_wp2_with fail
        apply wp_region_mid 14 [.det _, .det _, .det _, .det _, .det _, .det _, .det _, .det _, .det _, .det _, .det _, .det _, .det _, .det _] (by kernel_rfl) rfl (by kernel_rfl)
        · (first | (refine wpE_move rfl rfl rfl ?_; simp only [put_lit, eval_lit, BigFrame.eval_const, List.set_cons_succ, List.set_cons_zero, List.getD_cons_succ, List.getD_cons_zero]) | (refine wpE_run rfl rfl (by simp) (fun w1 hx1 _ K hK => by go_step; exact hK _ (Ext.refl _)) ?_; simp only [put_lit, List.set_cons_succ, List.set_cons_zero]))
          (first | (refine wpE_move rfl rfl rfl ?_; simp only [put_lit, eval_lit, BigFrame.eval_const, List.set_cons_succ, List.set_cons_zero, List.getD_cons_succ, List.getD_cons_zero]) | (refine wpE_run rfl rfl (by simp) (fun w1 hx1 _ K hK => by go_step; exact hK _ (Ext.refl _)) ?_; simp only [put_lit, List.set_cons_succ, List.set_cons_zero]))
          (first | (refine wpE_move rfl rfl rfl ?_; simp only [put_lit, eval_lit, BigFrame.eval_const, List.set_cons_succ, List.set_cons_zero, List.getD_cons_succ, List.getD_cons_zero]) | (refine wpE_run rfl rfl (by simp) (fun w1 hx1 _ K hK => by go_step; exact hK _ (Ext.refl _)) ?_; simp only [put_lit, List.set_cons_succ, List.set_cons_zero]))
          (refine wpE_run rfl rfl (by simp) (fun w1 hx1 _ K hK => by have hc := hx1.cell c1; go_step; exact hK _ (Ext.refl _)) ?_); simp only [put_lit, List.set_cons_succ, List.set_cons_zero]
          (first | (refine wpE_move rfl rfl rfl ?_; simp only [put_lit, eval_lit, BigFrame.eval_const, List.set_cons_succ, List.set_cons_zero, List.getD_cons_succ, List.getD_cons_zero]) | (refine wpE_run rfl rfl (by simp) (fun w1 hx1 _ K hK => by go_step; exact hK _ (Ext.refl _)) ?_; simp only [put_lit, List.set_cons_succ, List.set_cons_zero]))
          (first | (refine wpE_move rfl rfl rfl ?_; simp only [put_lit, eval_lit, BigFrame.eval_const, List.set_cons_succ, List.set_cons_zero, List.getD_cons_succ, List.getD_cons_zero]) | (refine wpE_run rfl rfl (by simp) (fun w1 hx1 _ K hK => by go_step; exact hK _ (Ext.refl _)) ?_; simp only [put_lit, List.set_cons_succ, List.set_cons_zero]))
          (first | (refine wpE_move rfl rfl rfl ?_; simp only [put_lit, eval_lit, BigFrame.eval_const, List.set_cons_succ, List.set_cons_zero, List.getD_cons_succ, List.getD_cons_zero]) | (refine wpE_run rfl rfl (by simp) (fun w1 hx1 _ K hK => by go_step; exact hK _ (Ext.refl _)) ?_; simp only [put_lit, List.set_cons_succ, List.set_cons_zero]))
          (first | (refine wpE_move rfl rfl rfl ?_; simp only [put_lit, eval_lit, BigFrame.eval_const, List.set_cons_succ, List.set_cons_zero, List.getD_cons_succ, List.getD_cons_zero]) | (refine wpE_run rfl rfl (by simp) (fun w1 hx1 _ K hK => by go_step; exact hK _ (Ext.refl _)) ?_; simp only [put_lit, List.set_cons_succ, List.set_cons_zero]))
          (first | (refine wpE_move rfl rfl rfl ?_; simp only [put_lit, eval_lit, BigFrame.eval_const, List.set_cons_succ, List.set_cons_zero, List.getD_cons_succ, List.getD_cons_zero]) | (refine wpE_run rfl rfl (by simp) (fun w1 hx1 _ K hK => by go_step; exact hK _ (Ext.refl _)) ?_; simp only [put_lit, List.set_cons_succ, List.set_cons_zero]))
          (first | (refine wpE_move rfl rfl rfl ?_; simp only [put_lit, eval_lit, BigFrame.eval_const, List.set_cons_succ, List.set_cons_zero, List.getD_cons_succ, List.getD_cons_zero]) | (refine wpE_run rfl rfl (by simp) (fun w1 hx1 _ K hK => by go_step; exact hK _ (Ext.refl _)) ?_; simp only [put_lit, List.set_cons_succ, List.set_cons_zero]))
          (first | (refine wpE_move rfl rfl rfl ?_; simp only [put_lit, eval_lit, BigFrame.eval_const, List.set_cons_succ, List.set_cons_zero, List.getD_cons_succ, List.getD_cons_zero]) | (refine wpE_run rfl rfl (by simp) (fun w1 hx1 _ K hK => by go_step; exact hK _ (Ext.refl _)) ?_; simp only [put_lit, List.set_cons_succ, List.set_cons_zero]))
          (refine wpE_run rfl rfl (by simp) (fun w1 hx1 _ K hK => by have hc := hx1.cell c2; go_step; exact hK _ (Ext.refl _)) ?_); simp only [put_lit, List.set_cons_succ, List.set_cons_zero]
          (first | (refine wpE_move rfl rfl rfl ?_; simp only [put_lit, eval_lit, BigFrame.eval_const, List.set_cons_succ, List.set_cons_zero, List.getD_cons_succ, List.getD_cons_zero]) | (refine wpE_run rfl rfl (by simp) (fun w1 hx1 _ K hK => by go_step; exact hK _ (Ext.refl _)) ?_; simp only [put_lit, List.set_cons_succ, List.set_cons_zero]))
          rw [u8_xor_nat _ _ lz lf]
          (first | (refine wpE_move rfl rfl rfl ?_; simp only [put_lit, eval_lit, BigFrame.eval_const, List.set_cons_succ, List.set_cons_zero, List.getD_cons_succ, List.getD_cons_zero]) | (refine wpE_run rfl rfl (by simp) (fun w1 hx1 _ K hK => by go_step; exact hK _ (Ext.refl _)) ?_; simp only [put_lit, List.set_cons_succ, List.set_cons_zero]))
          (refine wpE_nil ?_; intro w2 hw2 hF; simp only [List.drop_succ_cons, List.drop_zero])
          have hc := hw2.cell c1
          have hfr := (HY.out.ext hw2).frozen j
          clear hF c1 c2
          have hF : True := trivial
          go_wp2_with fail
          go_roundw
          case rel =>
            refine ⟨j + 1, by omega, by go_num, ?_, (GR.out.ext hw2).other _ (by simp; omega), (GG.out.ext hw2).other _ (by simp; omega), (GX.out.trans hw2).setCell (by simp; omega) _⟩
            rw [← mixF_upd]
            exact (HY.out.ext hw2).setB j _
          case measure => simp [intOf]; omega
      · obtain rfl : j = 4 := by omega
        have hy := HY.out
        rw [show row 4 (mixF 4 (fun j => Z j ^^^ F (4 * (i - 4) + j)) Z) = row 4 (fun j => xword 4 F p i j ^^^ F (4 * (i - 4) + j)) from row_congr fun j hj => by simp only [mixF, if_pos hj, HZ.out]] at hy
        have H1 := Lib.hid hy
        clear hy HY
        go_wp2_with (first | (refine wl_loadA rfl 80 _ rfl gx 0 4 rfl agg80 sz80 _ _ H1.out (by simp [row_size]) (row 4 fun j => xword 4 F p i j ^^^ F (4 * (i - 4) + j)) (row_whole _ _) ?_) | (refine wl_storeA rfl 80 _ _ rfl _ 0 4 rfl (row 4 fun j => xword 4 F p i j ^^^ F (4 * (i - 4) + j)) rfl sz80 (row_size _ _) _ _ GR.out (by simp [row_size]) (row_one _ _) (row 4 fun j => xword 4 F p i j ^^^ F (4 * (i - 4) + j)) (lay_all _ _ (by simp [row_size])) ?_))
        refine bodyPost_ret (results_blk rfl _ _ (w.heap.size + 1) 4 80 (row 4 fun j => xword 4 F p i j ^^^ F (4 * (i - 4) + j)) rfl (GR.out.setRow _) agg80 sz80 (row_size _ _).symm) rfl ?_
        exact ⟨rfl, below_setRow (g := w.heap.size + 1) GX.out (by omega) _⟩


set_option maxRecDepth 100000 in
set_option maxHeartbeats 1000000 in
theorem word8_any (v : Value) (i p base : Nat) (F : Nat → Nat) (w : World) (hi : 8 ≤ i) (hi2 : i ≤ 100) (hp : p < 256) (hF : ∀ m, m < 4 * i → F m < 256) (hv : WordsF w base v i F) :
    Calls Try.prog 52 #[v, .agg (row 256 boxP), .int .i64 8, .int .u8 ((p : Nat) : Int)] w fun e w' => e = .returned (.agg (row 4 fun j => xword 8 F p i j ^^^ F (4 * (i - 8) + j))) ∧ Ext w w' := by
  obtain ⟨g, cap, cur, rfl, hgb, hG, hle, hsz, hcur⟩ := hv.form (by omega)
  clear hv
  go_enter Try.func52, Try.ntmps52
  go_upto_region 2 with (first | (refine wl_boxA rfl 52 _ rfl _ rfl ?_) | (refine wl_allocA rfl 80 rfl _ zero80 ?_))
  have hS : Blk ((w.alloc (.cells (row 256 boxP) 52)).alloc (.cells (row 4 fun _ => 0) 80)) w.heap.size 52 (row 256 boxP) := (Blk.new _ _ _).alloc _
  have hR : Blk ((w.alloc (.cells (row 256 boxP) 52)).alloc (.cells (row 4 fun _ => 0) 80)) (w.heap.size + 1) 80 (row 4 fun _ => 0) := by
    have := Blk.new (w.alloc (.cells (row 256 boxP) 52)) 80 (row 4 fun _ => 0)
    simpa only [World.size_alloc] using this
  have hG1 : Blk ((w.alloc (.cells (row 256 boxP) 52)).alloc (.cells (row 4 fun _ => 0) 80)) g 80 cur := (hG.alloc _).alloc _
  have hx : Ext w ((w.alloc (.cells (row 256 boxP) 52)).alloc (.cells (row 4 fun _ => 0) 80)) := (Ext.alloc _ _).trans (Ext.alloc _ _)
  have hgl := hG.lt
  generalize (w.alloc (.cells (row 256 boxP) 52)).alloc (.cells (row 4 fun _ => 0) 80) = w1 at hS hR hG1 hx ⊢
  have HS := Lib.hid hS
  have HR := Lib.hid hR
  have HG := Lib.hid hG1
  have HX := Lib.hid hx
  have HC := Lib.hid hcur
  clear hS hR hG1 hx hcur hG
  have hpart : cur.extract ((i - 1) * 4) ((i - 1) * 4 + 4) = row 4 (fun j => F (4 * (i - 1) + j)) := by
    refine row_ext (by simp; omega) (fun j hj => ?_)
    rw [Array.getElem?_extract, if_pos (by omega), HC.out _ (by omega), Nat.mul_comm 4]
  obtain ⟨X, hXe⟩ : ∃ X : Nat → Nat, X = fun j => F (4 * (i - 1) + j) := ⟨_, rfl⟩
  rw [← hXe] at hpart
  have hXl : ∀ j, j < 4 → X j < 256 := fun j hj => by rw [hXe]; exact hF _ (by omega)
  have HE := Lib.hid hXe
  clear hXe
  have HP := Lib.hid hpart
  clear hpart
  go_upto_region 3 with (first | (refine wl_loadA rfl 80 _ rfl g ((i - 1) * 4) 4 rfl agg80 sz80 _ _ HG.out (by omega) _ HP.out ?_) | (refine wl_allocA rfl 80 rfl _ zero80 ?_) | (refine wl_storeA rfl 80 _ _ rfl _ 0 4 rfl (row 4 X) rfl sz80 (row_size _ _) _ _ (Blk.new _ _ _) (by simp [row_size]) (row_one _ _) (row 4 X) (lay_all _ _ (by simp [row_size])) ?_))
  have hX2 : Blk ((w1.alloc (.cells (row 4 fun _ => 0) 80)).setRow w1.heap.size (row 4 X)) w1.heap.size 80 (row 4 X) := (Blk.new _ _ _).setRow _
  have hx2 : Ext w1 ((w1.alloc (.cells (row 4 fun _ => 0) 80)).setRow w1.heap.size (row 4 X)) := below_setRow (g := w1.heap.size) (Ext.alloc _ _) (Nat.le_refl _) _
  have hw1 := HR.out.lt
  generalize w1.heap.size = gx at hX2 hx2 hw1 ⊢
  generalize (w1.alloc (.cells (row 4 fun _ => 0) 80)).setRow gx (row 4 X) = w2 at hX2 hx2 ⊢
  have HY := Lib.hid hX2
  have GS := Lib.hid (HS.out.ext hx2)
  have GR := Lib.hid (HR.out.ext hx2)
  have GG := Lib.hid (HG.out.ext hx2)
  have GX := Lib.hid (HX.out.trans hx2)
  clear hX2 hx2 HS HR HG HX HP
  go_upto_if 22 with fail
  go_cut [] (fun wx => Blk wx gx 80 (row 4 (xword 8 F p i)) ∧ Blk wx (w.heap.size + 1) 80 (row 4 fun _ => 0) ∧ Blk wx g 80 cur ∧ Ext w wx)
  case first =>
    by_cases hm : i % 8 = 0
    · skip
      have hb : ((i : Int) % 8 == 0) = true := by simp; omega
      have c0 := HY.out.byte 0 (by omega)
      have c1 := HY.out.byte 1 (by omega)
      have c2 := HY.out.byte 2 (by omega)
      have c3 := HY.out.byte 3 (by omega)
      have s0 := GS.out.byte _ (hXl 0 (by omega))
      have s1 := GS.out.byte _ (hXl 1 (by omega))
      have s2 := GS.out.byte _ (hXl 2 (by omega))
      have s3 := GS.out.byte _ (hXl 3 (by omega))
      have l0 := hXl 0 (by omega)
      have l1 := hXl 1 (by omega)
      have l2 := hXl 2 (by omega)
      have l3 := hXl 3 (by omega)
      have HW := Lib.hid (show Value.agg #[.int .u8 ((boxP (X 1) ^^^ p : Nat) : Int), .int .u8 ((boxP (X 2) : Nat) : Int), .int .u8 ((boxP (X 3) : Nat) : Int), .int .u8 ((boxP (X 0) : Nat) : Int)] = .agg (row 4 (xword 8 F p i)) from by
        rw [row4]
        simp [xword, hm, HE.out])
      go_upto_region 4 with fail
      apply wp_region_mid 19 [.det _, .det _, .det _, .det _, .det _, .det _, .det _, .det _, .det _, .det _, .det _, .det _, .det _, .det _, .det _, .det _, .det _, .det _, .det _] (by kernel_rfl) rfl (by kernel_rfl)
      · skip
        (first | (refine wpE_move rfl rfl rfl ?_; simp only [put_lit, eval_lit, BigFrame.eval_const, List.set_cons_succ, List.set_cons_zero, List.getD_cons_succ, List.getD_cons_zero]) | (refine wpE_run rfl rfl (by simp) (fun w1 hx1 _ K hK => by go_step; exact hK _ (Ext.refl _)) ?_; simp only [put_lit, List.set_cons_succ, List.set_cons_zero]))
        (refine wpE_run rfl rfl (by simp) (fun w1 hx1 _ K hK => by have hc := hx1.cell c1; go_step; exact hK _ (Ext.refl _)) ?_); simp only [put_lit, List.set_cons_succ, List.set_cons_zero]
        (first | (refine wpE_move rfl rfl rfl ?_; simp only [put_lit, eval_lit, BigFrame.eval_const, List.set_cons_succ, List.set_cons_zero, List.getD_cons_succ, List.getD_cons_zero]) | (refine wpE_run rfl rfl (by simp) (fun w1 hx1 _ K hK => by go_step; exact hK _ (Ext.refl _)) ?_; simp only [put_lit, List.set_cons_succ, List.set_cons_zero]))
        (refine wpE_run rfl rfl (by simp) (fun w1 hx1 _ K hK => by have hc := hx1.cell s1; go_step; exact hK _ (Ext.refl _)) ?_); simp only [put_lit, List.set_cons_succ, List.set_cons_zero]
        (first | (refine wpE_move rfl rfl rfl ?_; simp only [put_lit, eval_lit, BigFrame.eval_const, List.set_cons_succ, List.set_cons_zero, List.getD_cons_succ, List.getD_cons_zero]) | (refine wpE_run rfl rfl (by simp) (fun w1 hx1 _ K hK => by go_step; exact hK _ (Ext.refl _)) ?_; simp only [put_lit, List.set_cons_succ, List.set_cons_zero]))
        (first | (refine wpE_move rfl rfl rfl ?_; simp only [put_lit, eval_lit, BigFrame.eval_const, List.set_cons_succ, List.set_cons_zero, List.getD_cons_succ, List.getD_cons_zero]) | (refine wpE_run rfl rfl (by simp) (fun w1 hx1 _ K hK => by go_step; exact hK _ (Ext.refl _)) ?_; simp only [put_lit, List.set_cons_succ, List.set_cons_zero]))
        rw [u8_xor_nat _ _ (boxP_lt _) hp]
        (first | (refine wpE_move rfl rfl rfl ?_; simp only [put_lit, eval_lit, BigFrame.eval_const, List.set_cons_succ, List.set_cons_zero, List.getD_cons_succ, List.getD_cons_zero]) | (refine wpE_run rfl rfl (by simp) (fun w1 hx1 _ K hK => by go_step; exact hK _ (Ext.refl _)) ?_; simp only [put_lit, List.set_cons_succ, List.set_cons_zero]))
        (refine wpE_run rfl rfl (by simp) (fun w1 hx1 _ K hK => by have hc := hx1.cell c2; go_step; exact hK _ (Ext.refl _)) ?_); simp only [put_lit, List.set_cons_succ, List.set_cons_zero]
        (first | (refine wpE_move rfl rfl rfl ?_; simp only [put_lit, eval_lit, BigFrame.eval_const, List.set_cons_succ, List.set_cons_zero, List.getD_cons_succ, List.getD_cons_zero]) | (refine wpE_run rfl rfl (by simp) (fun w1 hx1 _ K hK => by go_step; exact hK _ (Ext.refl _)) ?_; simp only [put_lit, List.set_cons_succ, List.set_cons_zero]))
        (refine wpE_run rfl rfl (by simp) (fun w1 hx1 _ K hK => by have hc := hx1.cell s2; go_step; exact hK _ (Ext.refl _)) ?_); simp only [put_lit, List.set_cons_succ, List.set_cons_zero]
        (first | (refine wpE_move rfl rfl rfl ?_; simp only [put_lit, eval_lit, BigFrame.eval_const, List.set_cons_succ, List.set_cons_zero, List.getD_cons_succ, List.getD_cons_zero]) | (refine wpE_run rfl rfl (by simp) (fun w1 hx1 _ K hK => by go_step; exact hK _ (Ext.refl _)) ?_; simp only [put_lit, List.set_cons_succ, List.set_cons_zero]))
        (refine wpE_run rfl rfl (by simp) (fun w1 hx1 _ K hK => by have hc := hx1.cell c3; go_step; exact hK _ (Ext.refl _)) ?_); simp only [put_lit, List.set_cons_succ, List.set_cons_zero]
        (first | (refine wpE_move rfl rfl rfl ?_; simp only [put_lit, eval_lit, BigFrame.eval_const, List.set_cons_succ, List.set_cons_zero, List.getD_cons_succ, List.getD_cons_zero]) | (refine wpE_run rfl rfl (by simp) (fun w1 hx1 _ K hK => by go_step; exact hK _ (Ext.refl _)) ?_; simp only [put_lit, List.set_cons_succ, List.set_cons_zero]))
        (refine wpE_run rfl rfl (by simp) (fun w1 hx1 _ K hK => by have hc := hx1.cell s3; go_step; exact hK _ (Ext.refl _)) ?_); simp only [put_lit, List.set_cons_succ, List.set_cons_zero]
        (first | (refine wpE_move rfl rfl rfl ?_; simp only [put_lit, eval_lit, BigFrame.eval_const, List.set_cons_succ, List.set_cons_zero, List.getD_cons_succ, List.getD_cons_zero]) | (refine wpE_run rfl rfl (by simp) (fun w1 hx1 _ K hK => by go_step; exact hK _ (Ext.refl _)) ?_; simp only [put_lit, List.set_cons_succ, List.set_cons_zero]))
        (refine wpE_run rfl rfl (by simp) (fun w1 hx1 _ K hK => by have hc := hx1.cell c0; go_step; exact hK _ (Ext.refl _)) ?_); simp only [put_lit, List.set_cons_succ, List.set_cons_zero]
        (first | (refine wpE_move rfl rfl rfl ?_; simp only [put_lit, eval_lit, BigFrame.eval_const, List.set_cons_succ, List.set_cons_zero, List.getD_cons_succ, List.getD_cons_zero]) | (refine wpE_run rfl rfl (by simp) (fun w1 hx1 _ K hK => by go_step; exact hK _ (Ext.refl _)) ?_; simp only [put_lit, List.set_cons_succ, List.set_cons_zero]))
        (refine wpE_run rfl rfl (by simp) (fun w1 hx1 _ K hK => by have hc := hx1.cell s0; go_step; exact hK _ (Ext.refl _)) ?_); simp only [put_lit, List.set_cons_succ, List.set_cons_zero]
        (first | (refine wpE_move rfl rfl rfl ?_; simp only [put_lit, eval_lit, BigFrame.eval_const, List.set_cons_succ, List.set_cons_zero, List.getD_cons_succ, List.getD_cons_zero]) | (refine wpE_run rfl rfl (by simp) (fun w1 hx1 _ K hK => by go_step; exact hK _ (Ext.refl _)) ?_; simp only [put_lit, List.set_cons_succ, List.set_cons_zero]))
        (refine wpE_nil ?_; intro w3 hw2 hF; simp only [List.drop_succ_cons, List.drop_zero])
        clear hF c0 c1 c2 c3 s0 s1 s2 s3
        refine wl_storeA rfl 80 (.tmp 10) (.tmp 41) rfl gx 0 4 rfl (row 4 (xword 8 F p i)) HW.out sz80 (row_size _ _) _ _ (HY.out.ext hw2) (by simp [row_size]) (row_one _ _) (row 4 (xword 8 F p i)) (lay_all _ _ (by simp [row_size])) ?_
        have r1 := (HY.out.ext hw2).setRow (row 4 (xword 8 F p i))
        have r2 := (GR.out.ext hw2).setRow_other (k := gx) (row 4 (xword 8 F p i)) (by omega)
        have r3 := (GG.out.ext hw2).setRow_other (k := gx) (row 4 (xword 8 F p i)) (by omega)
        have r4 : Ext w (World.setRow w3 gx (row 4 (xword 8 F p i))) := below_setRow (GX.out.trans hw2) (by omega) _
        have q1 := Lib.hid r1
        have q2 := Lib.hid r2
        have q3 := Lib.hid r3
        have q4 := Lib.hid r4
        clear r1 r2 r3 r4
        go_wp2_with fail
        go_meet
        case rel => exact ⟨q1.out, q2.out, q3.out, q4.out⟩
    · by_cases hm4 : i % 8 = 4
      · skip
        have hb : ((i : Int) % 8 == 0) = false := by simp; omega
        have hb2 : ((i : Int) % 8 == 4) = true := by simp; omega
        have c0 := HY.out.byte 0 (by omega)
        have c1 := HY.out.byte 1 (by omega)
        have c2 := HY.out.byte 2 (by omega)
        have c3 := HY.out.byte 3 (by omega)
        have s0 := GS.out.byte _ (hXl 0 (by omega))
        have s1 := GS.out.byte _ (hXl 1 (by omega))
        have s2 := GS.out.byte _ (hXl 2 (by omega))
        have s3 := GS.out.byte _ (hXl 3 (by omega))
        have l0 := hXl 0 (by omega)
        have l1 := hXl 1 (by omega)
        have l2 := hXl 2 (by omega)
        have l3 := hXl 3 (by omega)
        have HW := Lib.hid (show Value.agg #[.int .u8 ((boxP (X 0) : Nat) : Int), .int .u8 ((boxP (X 1) : Nat) : Int), .int .u8 ((boxP (X 2) : Nat) : Int), .int .u8 ((boxP (X 3) : Nat) : Int)] = .agg (row 4 (xword 8 F p i)) from by
          rw [row4]
          simp [xword, hm, hm4, HE.out])
        go_upto_region 6 with fail
        apply wp_region_mid 17 [.det _, .det _, .det _, .det _, .det _, .det _, .det _, .det _, .det _, .det _, .det _, .det _, .det _, .det _, .det _, .det _, .det _] (by kernel_rfl) rfl (by kernel_rfl)
        · skip
          (first | (refine wpE_move rfl rfl rfl ?_; simp only [put_lit, eval_lit, BigFrame.eval_const, List.set_cons_succ, List.set_cons_zero, List.getD_cons_succ, List.getD_cons_zero]) | (refine wpE_run rfl rfl (by simp) (fun w1 hx1 _ K hK => by go_step; exact hK _ (Ext.refl _)) ?_; simp only [put_lit, List.set_cons_succ, List.set_cons_zero]))
          (refine wpE_run rfl rfl (by simp) (fun w1 hx1 _ K hK => by have hc := hx1.cell c0; go_step; exact hK _ (Ext.refl _)) ?_); simp only [put_lit, List.set_cons_succ, List.set_cons_zero]
          (first | (refine wpE_move rfl rfl rfl ?_; simp only [put_lit, eval_lit, BigFrame.eval_const, List.set_cons_succ, List.set_cons_zero, List.getD_cons_succ, List.getD_cons_zero]) | (refine wpE_run rfl rfl (by simp) (fun w1 hx1 _ K hK => by go_step; exact hK _ (Ext.refl _)) ?_; simp only [put_lit, List.set_cons_succ, List.set_cons_zero]))
          (refine wpE_run rfl rfl (by simp) (fun w1 hx1 _ K hK => by have hc := hx1.cell s0; go_step; exact hK _ (Ext.refl _)) ?_); simp only [put_lit, List.set_cons_succ, List.set_cons_zero]
          (first | (refine wpE_move rfl rfl rfl ?_; simp only [put_lit, eval_lit, BigFrame.eval_const, List.set_cons_succ, List.set_cons_zero, List.getD_cons_succ, List.getD_cons_zero]) | (refine wpE_run rfl rfl (by simp) (fun w1 hx1 _ K hK => by go_step; exact hK _ (Ext.refl _)) ?_; simp only [put_lit, List.set_cons_succ, List.set_cons_zero]))
          (refine wpE_run rfl rfl (by simp) (fun w1 hx1 _ K hK => by have hc := hx1.cell c1; go_step; exact hK _ (Ext.refl _)) ?_); simp only [put_lit, List.set_cons_succ, List.set_cons_zero]
          (first | (refine wpE_move rfl rfl rfl ?_; simp only [put_lit, eval_lit, BigFrame.eval_const, List.set_cons_succ, List.set_cons_zero, List.getD_cons_succ, List.getD_cons_zero]) | (refine wpE_run rfl rfl (by simp) (fun w1 hx1 _ K hK => by go_step; exact hK _ (Ext.refl _)) ?_; simp only [put_lit, List.set_cons_succ, List.set_cons_zero]))
          (refine wpE_run rfl rfl (by simp) (fun w1 hx1 _ K hK => by have hc := hx1.cell s1; go_step; exact hK _ (Ext.refl _)) ?_); simp only [put_lit, List.set_cons_succ, List.set_cons_zero]
          (first | (refine wpE_move rfl rfl rfl ?_; simp only [put_lit, eval_lit, BigFrame.eval_const, List.set_cons_succ, List.set_cons_zero, List.getD_cons_succ, List.getD_cons_zero]) | (refine wpE_run rfl rfl (by simp) (fun w1 hx1 _ K hK => by go_step; exact hK _ (Ext.refl _)) ?_; simp only [put_lit, List.set_cons_succ, List.set_cons_zero]))
          (refine wpE_run rfl rfl (by simp) (fun w1 hx1 _ K hK => by have hc := hx1.cell c2; go_step; exact hK _ (Ext.refl _)) ?_); simp only [put_lit, List.set_cons_succ, List.set_cons_zero]
          (first | (refine wpE_move rfl rfl rfl ?_; simp only [put_lit, eval_lit, BigFrame.eval_const, List.set_cons_succ, List.set_cons_zero, List.getD_cons_succ, List.getD_cons_zero]) | (refine wpE_run rfl rfl (by simp) (fun w1 hx1 _ K hK => by go_step; exact hK _ (Ext.refl _)) ?_; simp only [put_lit, List.set_cons_succ, List.set_cons_zero]))
          (refine wpE_run rfl rfl (by simp) (fun w1 hx1 _ K hK => by have hc := hx1.cell s2; go_step; exact hK _ (Ext.refl _)) ?_); simp only [put_lit, List.set_cons_succ, List.set_cons_zero]
          (first | (refine wpE_move rfl rfl rfl ?_; simp only [put_lit, eval_lit, BigFrame.eval_const, List.set_cons_succ, List.set_cons_zero, List.getD_cons_succ, List.getD_cons_zero]) | (refine wpE_run rfl rfl (by simp) (fun w1 hx1 _ K hK => by go_step; exact hK _ (Ext.refl _)) ?_; simp only [put_lit, List.set_cons_succ, List.set_cons_zero]))
          (refine wpE_run rfl rfl (by simp) (fun w1 hx1 _ K hK => by have hc := hx1.cell c3; go_step; exact hK _ (Ext.refl _)) ?_); simp only [put_lit, List.set_cons_succ, List.set_cons_zero]
          (first | (refine wpE_move rfl rfl rfl ?_; simp only [put_lit, eval_lit, BigFrame.eval_const, List.set_cons_succ, List.set_cons_zero, List.getD_cons_succ, List.getD_cons_zero]) | (refine wpE_run rfl rfl (by simp) (fun w1 hx1 _ K hK => by go_step; exact hK _ (Ext.refl _)) ?_; simp only [put_lit, List.set_cons_succ, List.set_cons_zero]))
          (refine wpE_run rfl rfl (by simp) (fun w1 hx1 _ K hK => by have hc := hx1.cell s3; go_step; exact hK _ (Ext.refl _)) ?_); simp only [put_lit, List.set_cons_succ, List.set_cons_zero]
          (first | (refine wpE_move rfl rfl rfl ?_; simp only [put_lit, eval_lit, BigFrame.eval_const, List.set_cons_succ, List.set_cons_zero, List.getD_cons_succ, List.getD_cons_zero]) | (refine wpE_run rfl rfl (by simp) (fun w1 hx1 _ K hK => by go_step; exact hK _ (Ext.refl _)) ?_; simp only [put_lit, List.set_cons_succ, List.set_cons_zero]))
          (refine wpE_nil ?_; intro w3 hw2 hF; simp only [List.drop_succ_cons, List.drop_zero])
          clear hF c0 c1 c2 c3 s0 s1 s2 s3
          refine wl_storeA rfl 80 (.tmp 10) (.tmp 65) rfl gx 0 4 rfl (row 4 (xword 8 F p i)) HW.out sz80 (row_size _ _) _ _ (HY.out.ext hw2) (by simp [row_size]) (row_one _ _) (row 4 (xword 8 F p i)) (lay_all _ _ (by simp [row_size])) ?_
          have r1 := (HY.out.ext hw2).setRow (row 4 (xword 8 F p i))
          have r2 := (GR.out.ext hw2).setRow_other (k := gx) (row 4 (xword 8 F p i)) (by omega)
          have r3 := (GG.out.ext hw2).setRow_other (k := gx) (row 4 (xword 8 F p i)) (by omega)
          have r4 : Ext w (World.setRow w3 gx (row 4 (xword 8 F p i))) := below_setRow (GX.out.trans hw2) (by omega) _
          have q1 := Lib.hid r1
          have q2 := Lib.hid r2
          have q3 := Lib.hid r3
          have q4 := Lib.hid r4
          clear r1 r2 r3 r4
          go_wp2_with fail
          go_meet
          case rel => exact ⟨q1.out, q2.out, q3.out, q4.out⟩
      · skip
        have hb : ((i : Int) % 8 == 0) = false := by simp; omega
        have hb2 : ((i : Int) % 8 == 4) = false := by simp; omega
        have q1 := HY.out
        rw [show row 4 X = row 4 (xword 8 F p i) from row_congr fun j hj => by simp [xword, hm, hm4, HE.out]] at q1
        have Q1 := Lib.hid q1
        clear q1
        go_wp2_with fail
        go_meet
        case rel => exact ⟨Q1.out, GR.out, GG.out, GX.out⟩
  case rest =>
    obtain ⟨hY, hR, hG, hX⟩ := hcut
    clear HY GS GR GG GX
    have hzl : ∀ j, j < 4 → xword 8 F p i j < 256 := xword_lt 8 F p i (by omega) hp hF
    have HO := Lib.hid (⟨hY, hR, hG, hX⟩ : Blk wc gx 80 (row 4 (xword 8 F p i)) ∧ Blk wc (w.heap.size + 1) 80 (row 4 fun _ => 0) ∧ Blk wc g 80 cur ∧ Ext w wc)
    clear hY hR hG hX HE
    obtain ⟨Z, hZ⟩ : ∃ Z, xword 8 F p i = Z := ⟨_, rfl⟩
    rw [hZ] at hzl HO
    have HZ := Lib.hid hZ
    clear hZ
    go_wp2_with fail
    go_loopw [11] (fun v11 wr => ∃ j : Nat, j ≤ 4 ∧ v11 = .int .i64 j ∧ Blk wr gx 80 (row 4 (mixF j (fun j => Z j ^^^ F (4 * (i - 8) + j)) Z)) ∧ Blk wr (w.heap.size + 1) 80 (row 4 fun _ => 0) ∧ Blk wr g 80 cur ∧ Ext w wr) (fun v11 _ => 4 - (intOf v11).toNat)
    case atStart => exact ⟨0, by omega, rfl, by rw [mixF_zero]; exact HO.out.1, HO.out.2.1, HO.out.2.2.1, HO.out.2.2.2⟩
    case round =>
      clear HO
      obtain ⟨j, hj, rfl, hY, hR, hG, hX⟩ := hrel
      have HY := Lib.hid hY
      have GR := Lib.hid hR
      have GG := Lib.hid hG
      have GX := Lib.hid hX
      clear hY hR hG hX
      by_cases hj4 : j < 4
      · have hj' : (j : Int) < 4 := by omega
        have c1 := HY.out.byte j hj4
        rw [mixF_at] at c1
        have c2 : wr.cell? ⟨g, (i - 8) * 4 + j, none⟩ = some (.int .u8 ((F (4 * (i - 8) + j) : Nat) : Int)) := by
          rw [GG.out.cell, HC.out _ (by omega), Nat.mul_comm 4]
        have lz := hzl j hj4
        have lf := hF (4 * (i - 8) + j) (by omega)
        go_wp2_with fail
        apply wp_region_mid 14 [.det _, .det _, .det _, .det _, .det _, .det _, .det _, .det _, .det _, .det _, .det _, .det _, .det _, .det _] (by kernel_rfl) rfl (by kernel_rfl)
        · (first | (refine wpE_move rfl rfl rfl ?_; simp only [put_lit, eval_lit, BigFrame.eval_const, List.set_cons_succ, List.set_cons_zero, List.getD_cons_succ, List.getD_cons_zero]) | (refine wpE_run rfl rfl (by simp) (fun w1 hx1 _ K hK => by go_step; exact hK _ (Ext.refl _)) ?_; simp only [put_lit, List.set_cons_succ, List.set_cons_zero]))
          (first | (refine wpE_move rfl rfl rfl ?_; simp only [put_lit, eval_lit, BigFrame.eval_const, List.set_cons_succ, List.set_cons_zero, List.getD_cons_succ, List.getD_cons_zero]) | (refine wpE_run rfl rfl (by simp) (fun w1 hx1 _ K hK => by go_step; exact hK _ (Ext.refl _)) ?_; simp only [put_lit, List.set_cons_succ, List.set_cons_zero]))
          (first | (refine wpE_move rfl rfl rfl ?_; simp only [put_lit, eval_lit, BigFrame.eval_const, List.set_cons_succ, List.set_cons_zero, List.getD_cons_succ, List.getD_cons_zero]) | (refine wpE_run rfl rfl (by simp) (fun w1 hx1 _ K hK => by go_step; exact hK _ (Ext.refl _)) ?_; simp only [put_lit, List.set_cons_succ, List.set_cons_zero]))
          (refine wpE_run rfl rfl (by simp) (fun w1 hx1 _ K hK => by have hc := hx1.cell c1; go_step; exact hK _ (Ext.refl _)) ?_); simp only [put_lit, List.set_cons_succ, List.set_cons_zero]
          (first | (refine wpE_move rfl rfl rfl ?_; simp only [put_lit, eval_lit, BigFrame.eval_const, List.set_cons_succ, List.set_cons_zero, List.getD_cons_succ, List.getD_cons_zero]) | (refine wpE_run rfl rfl (by simp) (fun w1 hx1 _ K hK => by go_step; exact hK _ (Ext.refl _)) ?_; simp only [put_lit, List.set_cons_succ, List.set_cons_zero]))
          (first | (refine wpE_move rfl rfl rfl ?_; simp only [put_lit, eval_lit, BigFrame.eval_const, List.set_cons_succ, List.set_cons_zero, List.getD_cons_succ, List.getD_cons_zero]) | (refine wpE_run rfl rfl (by simp) (fun w1 hx1 _ K hK => by go_step; exact hK _ (Ext.refl _)) ?_; simp only [put_lit, List.set_cons_succ, List.set_cons_zero]))
          (first | (refine wpE_move rfl rfl rfl ?_; simp only [put_lit, eval_lit, BigFrame.eval_const, List.set_cons_succ, List.set_cons_zero, List.getD_cons_succ, List.getD_cons_zero]) | (refine wpE_run rfl rfl (by simp) (fun w1 hx1 _ K hK => by go_step; exact hK _ (Ext.refl _)) ?_; simp only [put_lit, List.set_cons_succ, List.set_cons_zero]))
          (first | (refine wpE_move rfl rfl rfl ?_; simp only [put_lit, eval_lit, BigFrame.eval_const, List.set_cons_succ, List.set_cons_zero, List.getD_cons_succ, List.getD_cons_zero]) | (refine wpE_run rfl rfl (by simp) (fun w1 hx1 _ K hK => by go_step; exact hK _ (Ext.refl _)) ?_; simp only [put_lit, List.set_cons_succ, List.set_cons_zero]))
          (first | (refine wpE_move rfl rfl rfl ?_; simp only [put_lit, eval_lit, BigFrame.eval_const, List.set_cons_succ, List.set_cons_zero, List.getD_cons_succ, List.getD_cons_zero]) | (refine wpE_run rfl rfl (by simp) (fun w1 hx1 _ K hK => by go_step; exact hK _ (Ext.refl _)) ?_; simp only [put_lit, List.set_cons_succ, List.set_cons_zero]))
          (first | (refine wpE_move rfl rfl rfl ?_; simp only [put_lit, eval_lit, BigFrame.eval_const, List.set_cons_succ, List.set_cons_zero, List.getD_cons_succ, List.getD_cons_zero]) | (refine wpE_run rfl rfl (by simp) (fun w1 hx1 _ K hK => by go_step; exact hK _ (Ext.refl _)) ?_; simp only [put_lit, List.set_cons_succ, List.set_cons_zero]))
          (first | (refine wpE_move rfl rfl rfl ?_; simp only [put_lit, eval_lit, BigFrame.eval_const, List.set_cons_succ, List.set_cons_zero, List.getD_cons_succ, List.getD_cons_zero]) | (refine wpE_run rfl rfl (by simp) (fun w1 hx1 _ K hK => by go_step; exact hK _ (Ext.refl _)) ?_; simp only [put_lit, List.set_cons_succ, List.set_cons_zero]))
          (refine wpE_run rfl rfl (by simp) (fun w1 hx1 _ K hK => by have hc := hx1.cell c2; go_step; exact hK _ (Ext.refl _)) ?_); simp only [put_lit, List.set_cons_succ, List.set_cons_zero]
          (first | (refine wpE_move rfl rfl rfl ?_; simp only [put_lit, eval_lit, BigFrame.eval_const, List.set_cons_succ, List.set_cons_zero, List.getD_cons_succ, List.getD_cons_zero]) | (refine wpE_run rfl rfl (by simp) (fun w1 hx1 _ K hK => by go_step; exact hK _ (Ext.refl _)) ?_; simp only [put_lit, List.set_cons_succ, List.set_cons_zero]))
          rw [u8_xor_nat _ _ lz lf]
          (first | (refine wpE_move rfl rfl rfl ?_; simp only [put_lit, eval_lit, BigFrame.eval_const, List.set_cons_succ, List.set_cons_zero, List.getD_cons_succ, List.getD_cons_zero]) | (refine wpE_run rfl rfl (by simp) (fun w1 hx1 _ K hK => by go_step; exact hK _ (Ext.refl _)) ?_; simp only [put_lit, List.set_cons_succ, List.set_cons_zero]))
          (refine wpE_nil ?_; intro w2 hw2 hF; simp only [List.drop_succ_cons, List.drop_zero])
          have hc := hw2.cell c1
          have hfr := (HY.out.ext hw2).frozen j
          clear hF c1 c2
          have hF : True := trivial
          go_wp2_with fail
          go_roundw
          case rel =>
            refine ⟨j + 1, by omega, by go_num, ?_, (GR.out.ext hw2).other _ (by simp; omega), (GG.out.ext hw2).other _ (by simp; omega), (GX.out.trans hw2).setCell (by simp; omega) _⟩
            rw [← mixF_upd]
            exact (HY.out.ext hw2).setB j _
          case measure => simp [intOf]; omega
      · obtain rfl : j = 4 := by omega
        have hy := HY.out
        rw [show row 4 (mixF 4 (fun j => Z j ^^^ F (4 * (i - 8) + j)) Z) = row 4 (fun j => xword 8 F p i j ^^^ F (4 * (i - 8) + j)) from row_congr fun j hj => by simp only [mixF, if_pos hj, HZ.out]] at hy
        have H1 := Lib.hid hy
        clear hy HY
        go_wp2_with (first | (refine wl_loadA rfl 80 _ rfl gx 0 4 rfl agg80 sz80 _ _ H1.out (by simp [row_size]) (row 4 fun j => xword 8 F p i j ^^^ F (4 * (i - 8) + j)) (row_whole _ _) ?_) | (refine wl_storeA rfl 80 _ _ rfl _ 0 4 rfl (row 4 fun j => xword 8 F p i j ^^^ F (4 * (i - 8) + j)) rfl sz80 (row_size _ _) _ _ GR.out (by simp [row_size]) (row_one _ _) (row 4 fun j => xword 8 F p i j ^^^ F (4 * (i - 8) + j)) (lay_all _ _ (by simp [row_size])) ?_))
        refine bodyPost_ret (results_blk rfl _ _ (w.heap.size + 1) 4 80 (row 4 fun j => xword 8 F p i j ^^^ F (4 * (i - 8) + j)) rfl (GR.out.setRow _) agg80 sz80 (row_size _ _).symm) rfl ?_
        exact ⟨rfl, below_setRow (g := w.heap.size + 1) GX.out (by omega) _⟩

end Go.Proofs.Ytnigpobbckampaa
