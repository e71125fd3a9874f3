/- The document's table of boxes; xor of blocks; mixed columns: walked. -/
import Derived.Test.YtnigpobbckampaaG0
import Derived.Test.YtnigpobbckampaaA1
import Derived.Test.YtnigpobbckampaaR
import Derived.Test.YtnigpobbckampaaB
namespace Go.Proofs.Ytnigpobbckampaa
set_option linter.unusedSimpArgs false
set_option linter.unusedVariables false
open Go.RowKit

/-- The table as it is filled. -/
def outS : Nat → Nat → Nat
  | 0 => fun j => if j = 0 then 99 else 0
  | k + 1 => fun j => if j = pw k then boxA (pw ((255 - k) % 255)) else outS k j
theorem outS_ok : (List.range 256).all (fun j => outS 255 j == look boxT j) = true := by kernel_rfl
theorem outS_end : row 256 (outS 255) = row 256 boxP := row_congr fun j hj => by
  have := List.all_eq_true.1 outS_ok j (List.mem_range.2 hj)
  rw [boxP_look j hj]
  simpa using this
theorem outS_succ (k : Nat) : row 256 (outS (k + 1)) = row 256 (upd (outS k) (pw k) (boxA (pw ((255 - k) % 255)))) := row_congr fun j _ => by
  simp only [outS, upd]
theorem outS_zero : row 256 (upd (fun _ => 0) 0 99) = row 256 (outS 0) := row_congr fun j _ => by
  simp only [outS, upd]
theorem three_ok : (List.range 256).all (fun x => mulP x 3 == x ^^^ dbl x) = true := by kernel_rfl
theorem mulP_three (x : Nat) (hx : x < 256) : mulP x 3 = x ^^^ dbl x := by
  have := List.all_eq_true.1 three_ok x (List.mem_range.2 hx)
  simpa using this
theorem boxA_zero : boxA 0 = 99 := by kernel_rfl

set_option maxRecDepth 100000 in
set_option maxHeartbeats 1000000 in
theorem boxes_any (w : World) : Calls Try.prog 51 #[] w fun e w' => e = .returned (.agg (row 256 boxP)) ∧ Ext w w' := by
  go_enter Try.func51, Try.ntmps51
  go_wp2_with (first | (refine wl_allocA rfl 52 rfl _ zero52 ?_) | (refine wl_allocA rfl 96 rfl _ zero96 ?_))
  have hB1 : Blk ((w.alloc (.cells (row 256 fun _ => 0) 52)).alloc (.cells (row 255 fun _ => 0) 96)) (w.heap.size + 1) 96 (row 255 fun _ => 0) := heap_alloc2_new w _ _
  have hB0 : Blk ((w.alloc (.cells (row 256 fun _ => 0) 52)).alloc (.cells (row 255 fun _ => 0) 96)) w.heap.size 52 (row 256 fun _ => 0) := heap_alloc2_old w _ _
  go_loopw [2, 3] (fun v2 v3 wr => ∃ k : Nat, k ≤ 255 ∧ v3 = .int .i64 k ∧ v2 = .int .u8 (pw k : Nat) ∧ Blk wr (w.heap.size + 1) 96 (row 255 (pwS k)) ∧ Blk wr w.heap.size 52 (row 256 fun _ => 0) ∧ Ext w wr)
    (fun _ v3 _ => 255 - (intOf v3).toNat)
  case atStart =>
    refine ⟨0, by omega, rfl, rfl, ?_, hB0, (Ext.alloc _ _).trans (Ext.alloc _ _)⟩
    rw [show row 255 (pwS 0) = row 255 (fun _ => 0) from row_congr (fun j _ => by simp [pwS])]
    exact hB1
  case round =>
    clear hB0 hB1
    obtain ⟨k, hk, rfl, rfl, hb1, hb0, hx⟩ := hrel
    have hpw := pw_lt k
    have hsz := hx.size
    by_cases hlt : k < 255
    · have hlt' : (k : Int) < 255 := by omega
      have hc := hb1.byte k hlt
      have hf := hb1.frozen k
      have H1 := Lib.hid hb1
      have H0 := Lib.hid hb0
      clear hb1 hb0
      go_wp2_with fail
      refine (refmul_any (pw k) 3 hpw (by omega) _).mono ?_
      rintro e w1 ⟨rfl, rfl⟩
      go_wp2_with fail
      go_roundw
      case rel =>
        refine ⟨k + 1, by omega, by go_num, ?_, ?_, ?_, ?_⟩
        · rw [mulP_three _ hpw]; rfl
        · rw [pwS_succ]; exact H1.out.setB k _
        · exact H0.out.other _ (by simp)
        · exact hx.setCell (by simp) _
      case measure => simp [intOf]; omega
    · obtain rfl : k = 255 := by omega
      have hlt' : ¬ ((255 : Nat) : Int) < 255 := by omega
      have H1 := Lib.hid hb1
      have H0 := Lib.hid hb0
      clear hb1 hb0 hpw hlt
      go_wp2_with (refine wl_allocA rfl 52 rfl _ zero52 ?_)
      refine (refbox_any 0 (by omega) _).mono ?_
      rintro e w1 ⟨rfl, hx1⟩
      rw [boxA_zero]
      have hN : Blk w1 wr.heap.size 52 (row 256 fun _ => 0) := (Blk.new wr _ _).ext hx1
      have h1 : Blk w1 (w.heap.size + 1) 96 (row 255 (pwS 255)) := (H1.out.alloc _).ext hx1
      have h0 : Blk w1 w.heap.size 52 (row 256 fun _ => 0) := (H0.out.alloc _).ext hx1
      have hx2 : Ext w w1 := (hx.trans (Ext.alloc _ _)).trans hx1
      have hg2 : w.heap.size + 1 < wr.heap.size := H1.out.lt
      generalize wr.heap.size = gt at hN hg2 ⊢
      clear hx1 H1 H0 hsz hx
      have hc0 := hN.byte 0 (by omega)
      have hf0 := hN.frozen 0
      have HN := Lib.hid hN
      have H1 := Lib.hid h1
      have H0 := Lib.hid h0
      have HX := Lib.hid hx2
      clear hN h1 h0 hx2
      go_wp2_with fail
      have hN : Blk (w1.setCell ⟨gt, 0, none⟩ (.int .u8 99)) gt 52 (row 256 (outS 0)) := by
        rw [← outS_zero]
        exact HN.out.setB 0 99
      have h1 : Blk (w1.setCell ⟨gt, 0, none⟩ (.int .u8 99)) (w.heap.size + 1) 96 (row 255 (pwS 255)) := H1.out.other _ (by simp; omega)
      have h0 : Blk (w1.setCell ⟨gt, 0, none⟩ (.int .u8 99)) w.heap.size 52 (row 256 fun _ => 0) := H0.out.other _ (by simp; omega)
      have hx2 : Ext w (w1.setCell ⟨gt, 0, none⟩ (.int .u8 99)) := HX.out.setCell (by simp; omega) _
      clear HN H1 H0 HX hc0 hf0
      go_loopw [5] (fun v5 wr => ∃ k : Nat, k ≤ 255 ∧ v5 = .int .i64 k ∧ Blk wr gt 52 (row 256 (outS k)) ∧ Blk wr (w.heap.size + 1) 96 (row 255 (pwS 255)) ∧ Blk wr w.heap.size 52 (row 256 fun _ => 0) ∧ Ext w wr) (fun v5 _ => 255 - (intOf v5).toNat)
      case atStart => exact ⟨0, by omega, rfl, hN, h1, h0, hx2⟩
      case round =>
        clear hN h1 h0 hx2
        obtain ⟨k, hk, rfl, hN, h1, h0, hx⟩ := hrel
        have hpw := pw_lt k
        have hpi := pw_lt ((255 - k) % 255)
        have hmod : (255 - k) % 255 < 255 := Nat.mod_lt _ (by omega)
        by_cases hlt : k < 255
        · have hlt' : (k : Int) < 255 := by omega
          have q0 := h1.byte k hlt
          have q1 := h1.byte ((255 - k) % 255) hmod
          have e0 : pwS 255 k = pw k := by simp only [pwS]; rw [if_pos hlt]
          have e1 : pwS 255 ((255 - k) % 255) = pw ((255 - k) % 255) := by simp only [pwS]; rw [if_pos hmod]
          rw [e0] at q0
          rw [e1] at q1
          have q2 : wr.cell? ⟨w.heap.size + 1, (-(k : Int) % 255).toNat, none⟩ = some (.int .u8 ((pw ((255 - k) % 255) : Nat) : Int)) := by
            rw [show (-(k : Int) % 255).toNat = (255 - k) % 255 by omega]; exact q1
          have hkm : -(k : Int) % 255 < 255 := by omega
          have hkm0 : 0 ≤ -(k : Int) % 255 := by omega
          clear e0 e1 q1
          have HN := Lib.hid hN
          have H1 := Lib.hid h1
          have H0 := Lib.hid h0
          clear hN h1 h0
          go_wp2_with fail
          apply wp_region_mid 10 [.det _, .det _, .det _, .det _, .det _, .det _, .det _, .det _, .det _, .det _] (by kernel_rfl) rfl (by kernel_rfl)
          · (first | (refine wpE_move rfl rfl rfl ?_; simp only [put_lit, eval_lit, BigFrame.eval_const, List.set_cons_succ, List.set_cons_zero, List.getD_cons_succ, List.getD_cons_zero]) | (refine wpE_run rfl rfl (by simp) (fun w1 hx1 _ K hK => by go_step; exact hK _ (Ext.refl _)) ?_; simp only [put_lit, List.set_cons_succ, List.set_cons_zero]))
            (first | (refine wpE_move rfl rfl rfl ?_; simp only [put_lit, eval_lit, BigFrame.eval_const, List.set_cons_succ, List.set_cons_zero, List.getD_cons_succ, List.getD_cons_zero]) | (refine wpE_run rfl rfl (by simp) (fun w1 hx1 _ K hK => by go_step; exact hK _ (Ext.refl _)) ?_; simp only [put_lit, List.set_cons_succ, List.set_cons_zero]))
            (refine wpE_run rfl rfl (by simp) (fun w1 hx1 _ K hK => by have hc := hx1.cell q0; go_step; exact hK _ (Ext.refl _)) ?_); simp only [put_lit, List.set_cons_succ, List.set_cons_zero]
            (first | (refine wpE_move rfl rfl rfl ?_; simp only [put_lit, eval_lit, BigFrame.eval_const, List.set_cons_succ, List.set_cons_zero, List.getD_cons_succ, List.getD_cons_zero]) | (refine wpE_run rfl rfl (by simp) (fun w1 hx1 _ K hK => by go_step; exact hK _ (Ext.refl _)) ?_; simp only [put_lit, List.set_cons_succ, List.set_cons_zero]))
            (first | (refine wpE_move rfl rfl rfl ?_; simp only [put_lit, eval_lit, BigFrame.eval_const, List.set_cons_succ, List.set_cons_zero, List.getD_cons_succ, List.getD_cons_zero]) | (refine wpE_run rfl rfl (by simp) (fun w1 hx1 _ K hK => by go_step; exact hK _ (Ext.refl _)) ?_; simp only [put_lit, List.set_cons_succ, List.set_cons_zero]))
            (first | (refine wpE_move rfl rfl rfl ?_; simp only [put_lit, eval_lit, BigFrame.eval_const, List.set_cons_succ, List.set_cons_zero, List.getD_cons_succ, List.getD_cons_zero]) | (refine wpE_run rfl rfl (by simp) (fun w1 hx1 _ K hK => by go_step; exact hK _ (Ext.refl _)) ?_; simp only [put_lit, List.set_cons_succ, List.set_cons_zero]))
            (first | (refine wpE_move rfl rfl rfl ?_; simp only [put_lit, eval_lit, BigFrame.eval_const, List.set_cons_succ, List.set_cons_zero, List.getD_cons_succ, List.getD_cons_zero]) | (refine wpE_run rfl rfl (by simp) (fun w1 hx1 _ K hK => by go_step; exact hK _ (Ext.refl _)) ?_; simp only [put_lit, List.set_cons_succ, List.set_cons_zero]))
            (refine wpE_run rfl rfl (by simp) (fun w1 hx1 _ K hK => by have hc := hx1.cell q2; go_step; exact hK _ (Ext.refl _)) ?_); simp only [put_lit, List.set_cons_succ, List.set_cons_zero]
            (refine wpE_run rfl rfl (by simp) (fun w1 hx1 _ K hK => by go_wp2_with (go_at_call 56; refine (refbox_any _ hpi _).mono ?_; rintro e w2 ⟨rfl, hx2⟩; exact hK _ hx2)) ?_); simp only [put_lit, List.set_cons_succ, List.set_cons_zero]
            (first | (refine wpE_move rfl rfl rfl ?_; simp only [put_lit, eval_lit, BigFrame.eval_const, List.set_cons_succ, List.set_cons_zero, List.getD_cons_succ, List.getD_cons_zero]) | (refine wpE_run rfl rfl (by simp) (fun w1 hx1 _ K hK => by go_step; exact hK _ (Ext.refl _)) ?_; simp only [put_lit, List.set_cons_succ, List.set_cons_zero]))
            (refine wpE_nil ?_; intro w2 hw2 hF; simp only [List.drop_succ_cons, List.drop_zero])
            have hcc := hw2.cell ((HN.out.cell (pw k)).trans (row_get _ _ _ hpw))
            have hff := (HN.out.ext hw2).frozen (pw k)
            clear hF q0 q2
            go_wp2_with fail
            go_roundw
            case rel =>
              refine ⟨k + 1, by omega, by go_num, ?_, (H1.out.ext hw2).other _ (by simp; omega), (H0.out.ext hw2).other _ (by simp; omega), (hx.trans hw2).setCell (by simp; omega) _⟩
              rw [outS_succ]
              exact (HN.out.ext hw2).setB _ _
            case measure => simp [intOf]; omega
        · obtain rfl : k = 255 := by omega
          have hlt' : ¬ ((255 : Nat) : Int) < 255 := by omega
          have HN := Lib.hid hN
          have H0 := Lib.hid h0
          clear hN h1 h0 hpw hpi hmod
          go_wp2_with (first | (refine wl_loadA rfl 52 _ rfl gt 0 256 rfl agg52 sz52 _ _ HN.out (by simp [row_size]) (row 256 boxP) ?e3 ?_) | (refine wl_storeA rfl 52 _ _ rfl _ 0 256 rfl (row 256 boxP) rfl sz52 (row_size _ _) _ _ H0.out (by simp [row_size]) (row_one _ _) (row 256 boxP) (lay_all _ _ (by simp [row_size])) ?_))
          case e3 => rw [row_whole, outS_end]
          refine bodyPost_ret (results_blk rfl _ _ w.heap.size 256 52 (row 256 boxP) rfl (H0.out.setRow _) agg52 sz52 (row_size _ _).symm) rfl ?_
          exact ⟨rfl, below_setRow (g := w.heap.size) hx (by omega) _⟩

set_option maxRecDepth 100000 in
set_option maxHeartbeats 1000000 in
theorem refxor_any (f g : Nat → Nat) (hf : ∀ j, j < 16 → f j < 256) (hg : ∀ j, j < 16 → g j < 256) (w : World) :
    Calls Try.prog 54 #[.agg (row 16 f), .agg (row 16 g)] w fun e w' => e = .returned (.agg (row 16 fun j => f j ^^^ g j)) ∧ Ext w w' := by
  go_enter Try.func54, Try.ntmps54
  go_wp2_with (first | (refine wl_allocA rfl 23 rfl _ zero23 ?_) | (refine wl_boxA rfl 23 _ rfl _ rfl ?_))
  have hB0 : Blk (((w.alloc (.cells (row 16 f) 23)).alloc (.cells (row 16 g) 23)).alloc (.cells (row 16 fun _ => 0) 23)) w.heap.size 23 (row 16 f) := ((Blk.new w _ _).alloc _).alloc _
  have hB1 : Blk (((w.alloc (.cells (row 16 f) 23)).alloc (.cells (row 16 g) 23)).alloc (.cells (row 16 fun _ => 0) 23)) (w.heap.size + 1) 23 (row 16 g) := by
    have := (Blk.new (w.alloc (.cells (row 16 f) 23)) 23 (row 16 g)).alloc (.cells (row 16 fun _ => 0) 23)
    simpa using this
  have hB2 : Blk (((w.alloc (.cells (row 16 f) 23)).alloc (.cells (row 16 g) 23)).alloc (.cells (row 16 fun _ => 0) 23)) (w.heap.size + 2) 23 (row 16 fun _ => 0) := by
    have := (Blk.new ((w.alloc (.cells (row 16 f) 23)).alloc (.cells (row 16 g) 23)) 23 (row 16 fun _ => 0))
    simpa using this
  go_loopw [5] (fun v5 wr => ∃ k : Nat, k ≤ 16 ∧ v5 = .int .i64 k ∧ Blk wr w.heap.size 23 (row 16 (mixF k (fun j => f j ^^^ g j) f)) ∧ Blk wr (w.heap.size + 1) 23 (row 16 g) ∧ Blk wr (w.heap.size + 2) 23 (row 16 fun _ => 0) ∧ Ext w wr)
    (fun v5 _ => 16 - (intOf v5).toNat)
  case atStart =>
    refine ⟨0, by omega, rfl, ?_, hB1, hB2, ((Ext.alloc _ _).trans (Ext.alloc _ _)).trans (Ext.alloc _ _)⟩
    rw [mixF_zero]
    exact hB0
  case round =>
    clear hB0 hB1 hB2
    obtain ⟨k, hk, rfl, hb0, hb1, hb2, hx⟩ := hrel
    by_cases hlt : k < 16
    · have hlt' : (k : Int) < 16 := by omega
      have hc0 : wr.cell? ⟨w.heap.size, k, none⟩ = some (.int .u8 ((f k : Nat) : Int)) := by rw [hb0.byte k hlt, mixF_at]
      have hc1 := hb1.byte k hlt
      have hfr := hb0.frozen k
      have H0 := Lib.hid hb0
      have H1 := Lib.hid hb1
      have H2 := Lib.hid hb2
      clear hb0 hb1 hb2
      go_wp2_with fail
      apply wp_region_mid 8 [.det _, .det _, .det _, .det _, .det _, .det _, .det _, .det _] (by kernel_rfl) rfl (by kernel_rfl)
      · (first | (refine wpE_move rfl rfl rfl ?_; simp only [put_lit, eval_lit, BigFrame.eval_const, List.set_cons_succ, List.set_cons_zero, List.getD_cons_succ, List.getD_cons_zero]) | (refine wpE_run rfl rfl (by simp) (fun w1 hx1 _ K hK => by go_step; exact hK _ (Ext.refl _)) ?_; simp only [put_lit, List.set_cons_succ, List.set_cons_zero]))
        (first | (refine wpE_move rfl rfl rfl ?_; simp only [put_lit, eval_lit, BigFrame.eval_const, List.set_cons_succ, List.set_cons_zero, List.getD_cons_succ, List.getD_cons_zero]) | (refine wpE_run rfl rfl (by simp) (fun w1 hx1 _ K hK => by go_step; exact hK _ (Ext.refl _)) ?_; simp only [put_lit, List.set_cons_succ, List.set_cons_zero]))
        (first | (refine wpE_move rfl rfl rfl ?_; simp only [put_lit, eval_lit, BigFrame.eval_const, List.set_cons_succ, List.set_cons_zero, List.getD_cons_succ, List.getD_cons_zero]) | (refine wpE_run rfl rfl (by simp) (fun w1 hx1 _ K hK => by go_step; exact hK _ (Ext.refl _)) ?_; simp only [put_lit, List.set_cons_succ, List.set_cons_zero]))
        (refine wpE_run rfl rfl (by simp) (fun w1 hx1 _ K hK => by have hc := hx1.cell hc0; go_step; exact hK _ (Ext.refl _)) ?_); simp only [put_lit, List.set_cons_succ, List.set_cons_zero]
        (first | (refine wpE_move rfl rfl rfl ?_; simp only [put_lit, eval_lit, BigFrame.eval_const, List.set_cons_succ, List.set_cons_zero, List.getD_cons_succ, List.getD_cons_zero]) | (refine wpE_run rfl rfl (by simp) (fun w1 hx1 _ K hK => by go_step; exact hK _ (Ext.refl _)) ?_; simp only [put_lit, List.set_cons_succ, List.set_cons_zero]))
        (first | (refine wpE_move rfl rfl rfl ?_; simp only [put_lit, eval_lit, BigFrame.eval_const, List.set_cons_succ, List.set_cons_zero, List.getD_cons_succ, List.getD_cons_zero]) | (refine wpE_run rfl rfl (by simp) (fun w1 hx1 _ K hK => by go_step; exact hK _ (Ext.refl _)) ?_; simp only [put_lit, List.set_cons_succ, List.set_cons_zero]))
        (refine wpE_run rfl rfl (by simp) (fun w1 hx1 _ K hK => by have hc := hx1.cell hc1; go_step; exact hK _ (Ext.refl _)) ?_); simp only [put_lit, List.set_cons_succ, List.set_cons_zero]
        (first | (refine wpE_move rfl rfl rfl ?_; simp only [put_lit, eval_lit, BigFrame.eval_const, List.set_cons_succ, List.set_cons_zero, List.getD_cons_succ, List.getD_cons_zero]) | (refine wpE_run rfl rfl (by simp) (fun w1 hx1 _ K hK => by go_step; exact hK _ (Ext.refl _)) ?_; simp only [put_lit, List.set_cons_succ, List.set_cons_zero]))
        rw [u8_xor_nat _ _ (hf k hlt) (hg k hlt)]
        (refine wpE_nil ?_; intro w2 hw2 hF; simp only [List.drop_succ_cons, List.drop_zero])
        have hcc := hw2.cell hc0
        have hff := (H0.out.ext hw2).frozen k
        clear hF hc0 hc1 hfr
        go_wp2_with fail
        go_roundw
        case rel =>
          refine ⟨k + 1, by omega, by go_num, ?_, (H1.out.ext hw2).other _ (by simp), (H2.out.ext hw2).other _ (by simp), (hx.trans hw2).setCell (by simp) _⟩
          rw [← mixF_upd]
          exact (H0.out.ext hw2).setB k _
        case measure => simp [intOf]; omega
    · obtain rfl : k = 16 := by omega
      have hlt' : ¬ ((16 : Nat) : Int) < 16 := by omega
      have H0 := Lib.hid hb0
      have H2 := Lib.hid hb2
      clear hb0 hb1 hb2 hlt hk
      go_wp2_with (first | (refine wl_loadA rfl 23 _ rfl _ 0 16 rfl agg23 sz23 _ _ H0.out (by simp [row_size]) (row 16 fun j => f j ^^^ g j) ?e3 ?_) | (refine wl_storeA rfl 23 _ _ rfl _ 0 16 rfl (row 16 fun j => f j ^^^ g j) rfl sz23 (row_size _ _) _ _ H2.out (by simp [row_size]) (row_one _ _) (row 16 fun j => f j ^^^ g j) (lay_all _ _ (by simp [row_size])) ?_))
      case e3 => rw [row_whole, row_mix]
      refine bodyPost_ret (results_blk rfl _ _ (w.heap.size + 2) 16 23 (row 16 fun j => f j ^^^ g j) rfl (H2.out.setRow _) agg23 sz23 (row_size _ _).symm) rfl ?_
      exact ⟨rfl, below_setRow (g := w.heap.size + 2) hx (by omega) _⟩

end Go.Proofs.Ytnigpobbckampaa
