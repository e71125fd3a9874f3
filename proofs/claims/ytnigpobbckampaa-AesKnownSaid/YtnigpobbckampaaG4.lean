/- The document's mixed columns, Block, Rounds: walked. -/
import Derived.Test.YtnigpobbckampaaG1
import Derived.Test.YtnigpobbckampaaA3
namespace Go.Proofs.Ytnigpobbckampaa
set_option linter.unusedSimpArgs false
set_option linter.unusedVariables false
open Go.RowKit

theorem two_ok : (List.range 256).all (fun x => mulP 2 x == dbl x && mulP 3 x == x ^^^ dbl x) = true := by kernel_rfl
theorem two_mulP (x : Nat) (hx : x < 256) : mulP 2 x = dbl x ∧ mulP 3 x = x ^^^ dbl x := by
  have := List.all_eq_true.1 two_ok x (List.mem_range.2 hx)
  simpa using this

/-- A mixed byte, as the document says it. -/
def mixQ (f : Nat → Nat) (i : Nat) : Nat := mulP 2 (f i) ^^^ mulP 3 (f (4 * (i / 4) + (i + 1) % 4)) ^^^ f (4 * (i / 4) + (i + 2) % 4) ^^^ f (4 * (i / 4) + (i + 3) % 4)
theorem mixQ_eq (f : Nat → Nat) (hf : ∀ i, i < 16 → f i < 256) (i : Nat) (hi : i < 16) : mixQ f i = mixP f i := by
  obtain ⟨h0, h1, h2, h3⟩ := mix_col hf (i / 4) (by omega)
  unfold mixQ
  rw [(two_mulP _ (hf i hi)).1, (two_mulP _ (hf _ (by omega))).2]
  rw [show (i + 1) % 4 = (i % 4 + 1) % 4 by omega, show (i + 2) % 4 = (i % 4 + 2) % 4 by omega, show (i + 3) % 4 = (i % 4 + 3) % 4 by omega]
  rcases (by omega : i % 4 = 0 ∨ i % 4 = 1 ∨ i % 4 = 2 ∨ i % 4 = 3) with h | h | h | h
  · rw [h]
    have e : i = 4 * (i / 4) := by omega
    generalize i / 4 = q at *
    subst e
    rw [h0]
    simp only [mcol, Nat.zero_add, show (1 : Nat) % 4 = 1 by decide, show (2 : Nat) % 4 = 2 by decide, show (3 : Nat) % 4 = 3 by decide]
    ac_rfl
  · rw [h]
    have e : i = 4 * (i / 4) + 1 := by omega
    generalize i / 4 = q at *
    subst e
    rw [h1]
    simp only [mcol, Nat.add_zero, show (1 + 1 : Nat) % 4 = 2 by decide, show (1 + 2 : Nat) % 4 = 3 by decide, show (1 + 3 : Nat) % 4 = 0 by decide]
    ac_rfl
  · rw [h]
    have e : i = 4 * (i / 4) + 2 := by omega
    generalize i / 4 = q at *
    subst e
    rw [h2]
    simp only [mcol, Nat.add_zero, show (2 + 1 : Nat) % 4 = 3 by decide, show (2 + 2 : Nat) % 4 = 0 by decide, show (2 + 3 : Nat) % 4 = 1 by decide]
    ac_rfl
  · rw [h]
    have e : i = 4 * (i / 4) + 3 := by omega
    generalize i / 4 = q at *
    subst e
    rw [h3]
    simp only [mcol, Nat.add_zero, show (3 + 1 : Nat) % 4 = 0 by decide, show (3 + 2 : Nat) % 4 = 1 by decide, show (3 + 3 : Nat) % 4 = 2 by decide]
    ac_rfl
theorem mixQ_lt (f : Nat → Nat) (hf : ∀ i, i < 16 → f i < 256) (i : Nat) (hi : i < 16) : mixQ f i < 256 := by rw [mixQ_eq f hf i hi]; exact mixP_lt f hf i hi

set_option maxRecDepth 100000 in
set_option maxHeartbeats 1000000 in
theorem mixed_any (f : Nat → Nat) (hf : ∀ j, j < 16 → f j < 256) (w : World) :
    Calls Try.prog 55 #[.agg (row 16 f)] w fun e w' => e = .returned (.agg (row 16 (mixP f))) ∧ Ext w w' := by
  go_enter Try.func55, Try.ntmps55
  go_wp2_with (first | (refine wl_allocA rfl 23 rfl _ zero23 ?_) | (refine wl_boxA rfl 23 _ rfl _ rfl ?_))
  have hB0 : Blk (((w.alloc (.cells (row 16 f) 23)).alloc (.cells (row 16 fun _ => 0) 23)).alloc (.cells (row 16 fun _ => 0) 23)) w.heap.size 23 (row 16 f) := ((Blk.new w _ _).alloc _).alloc _
  have hB1 : Blk (((w.alloc (.cells (row 16 f) 23)).alloc (.cells (row 16 fun _ => 0) 23)).alloc (.cells (row 16 fun _ => 0) 23)) (w.heap.size + 1) 23 (row 16 fun _ => 0) := by
    have := (Blk.new (w.alloc (.cells (row 16 f) 23)) 23 (row 16 fun _ => 0)).alloc (.cells (row 16 fun _ => 0) 23)
    simpa using this
  have hB2 : Blk (((w.alloc (.cells (row 16 f) 23)).alloc (.cells (row 16 fun _ => 0) 23)).alloc (.cells (row 16 fun _ => 0) 23)) (w.heap.size + 1 + 1) 23 (row 16 fun _ => 0) := by
    have := (Blk.new ((w.alloc (.cells (row 16 f) 23)).alloc (.cells (row 16 fun _ => 0) 23)) 23 (row 16 fun _ => 0))
    simpa only [World.size_alloc] using this
  go_loopw [4] (fun v4 wr => ∃ k : Nat, k ≤ 16 ∧ v4 = .int .i64 k ∧ Blk wr w.heap.size 23 (row 16 f) ∧ Blk wr (w.heap.size + 1) 23 (row 16 fun _ => 0) ∧ Blk wr (w.heap.size + 1 + 1) 23 (row 16 (mixF k (mixQ f) fun _ => 0)) ∧ Ext w wr)
    (fun v4 _ => 16 - (intOf v4).toNat)
  case atStart =>
    refine ⟨0, by omega, rfl, hB0, hB1, ?_, ((Ext.alloc _ _).trans (Ext.alloc _ _)).trans (Ext.alloc _ _)⟩
    rw [mixF_zero]
    exact hB2
  case round =>
    clear hB0 hB1 hB2
    obtain ⟨k, hk, rfl, hb0, hb1, hb2, hx⟩ := hrel
    by_cases hlt : k < 16
    · have hlt' : (k : Int) < 16 := by omega
      have f0 := hf k hlt
      have f1 := hf (4 * (k / 4) + (k + 1) % 4) (by omega)
      have f2 := hf (4 * (k / 4) + (k + 2) % 4) (by omega)
      have f3 := hf (4 * (k / 4) + (k + 3) % 4) (by omega)
      have q0 := hb0.byte k hlt
      have q1 := hb0.byte (4 * (k / 4) + (k + 1) % 4) (by omega)
      have q2 := hb0.byte (4 * (k / 4) + (k + 2) % 4) (by omega)
      have q3 := hb0.byte (4 * (k / 4) + (k + 3) % 4) (by omega)
      have m0 := mulP_lt 2 (f k) (by omega)
      have m1 := mulP_lt 3 (f (4 * (k / 4) + (k + 1) % 4)) (by omega)
      have H0 := Lib.hid hb0
      have H1 := Lib.hid hb1
      have H2 := Lib.hid hb2
      have HQ := Lib.hid (show mixQ f k = mulP 2 (f k) ^^^ mulP 3 (f (4 * (k / 4) + (k + 1) % 4)) ^^^ f (4 * (k / 4) + (k + 2) % 4) ^^^ f (4 * (k / 4) + (k + 3) % 4) from rfl)
      clear hb0 hb1 hb2
      go_wp2_with fail
      apply wp_region_mid 30 [.det _, .det _, .det _, .det _, .det _, .det _, .det _, .det _, .det _, .det _, .det _, .det _, .det _, .det _, .det _, .det _, .det _, .det _, .det _, .det _, .det _, .det _, .det _, .det _, .det _, .det _, .det _, .det _, .det _, .det _] (by kernel_rfl) rfl (by kernel_rfl)
      · (first | (refine wpE_move rfl rfl rfl ?_; simp only [put_lit, eval_lit, BigFrame.eval_const, List.set_cons_succ, List.set_cons_zero, List.getD_cons_succ, List.getD_cons_zero]) | (refine wpE_run rfl rfl (by simp) (fun w1 hx1 _ K hK => by go_step; exact hK _ (Ext.refl _)) ?_; simp only [put_lit, List.set_cons_succ, List.set_cons_zero]))
        (first | (refine wpE_move rfl rfl rfl ?_; simp only [put_lit, eval_lit, BigFrame.eval_const, List.set_cons_succ, List.set_cons_zero, List.getD_cons_succ, List.getD_cons_zero]) | (refine wpE_run rfl rfl (by simp) (fun w1 hx1 _ K hK => by go_step; exact hK _ (Ext.refl _)) ?_; simp only [put_lit, List.set_cons_succ, List.set_cons_zero]))
        (first | (refine wpE_move rfl rfl rfl ?_; simp only [put_lit, eval_lit, BigFrame.eval_const, List.set_cons_succ, List.set_cons_zero, List.getD_cons_succ, List.getD_cons_zero]) | (refine wpE_run rfl rfl (by simp) (fun w1 hx1 _ K hK => by go_step; exact hK _ (Ext.refl _)) ?_; simp only [put_lit, List.set_cons_succ, List.set_cons_zero]))
        (refine wpE_run rfl rfl (by simp) (fun w1 hx1 _ K hK => by have hc := hx1.cell q0; go_step; exact hK _ (Ext.refl _)) ?_); simp only [put_lit, List.set_cons_succ, List.set_cons_zero]
        (refine wpE_run rfl rfl (by simp) (fun w1 hx1 _ K hK => by go_wp2_with (go_at_call 27; refine (refmul_ext 2 (f k) (by omega) f0 _).mono ?_; rintro e w2 ⟨rfl, hx2⟩; exact hK _ hx2)) ?_); simp only [put_lit, List.set_cons_succ, List.set_cons_zero]
        (first | (refine wpE_move rfl rfl rfl ?_; simp only [put_lit, eval_lit, BigFrame.eval_const, List.set_cons_succ, List.set_cons_zero, List.getD_cons_succ, List.getD_cons_zero]) | (refine wpE_run rfl rfl (by simp) (fun w1 hx1 _ K hK => by go_step; exact hK _ (Ext.refl _)) ?_; simp only [put_lit, List.set_cons_succ, List.set_cons_zero]))
        (first | (refine wpE_move rfl rfl rfl ?_; simp only [put_lit, eval_lit, BigFrame.eval_const, List.set_cons_succ, List.set_cons_zero, List.getD_cons_succ, List.getD_cons_zero]) | (refine wpE_run rfl rfl (by simp) (fun w1 hx1 _ K hK => by go_step; exact hK _ (Ext.refl _)) ?_; simp only [put_lit, List.set_cons_succ, List.set_cons_zero]))
        (first | (refine wpE_move rfl rfl rfl ?_; simp only [put_lit, eval_lit, BigFrame.eval_const, List.set_cons_succ, List.set_cons_zero, List.getD_cons_succ, List.getD_cons_zero]) | (refine wpE_run rfl rfl (by simp) (fun w1 hx1 _ K hK => by go_step; exact hK _ (Ext.refl _)) ?_; simp only [put_lit, List.set_cons_succ, List.set_cons_zero]))
        (first | (refine wpE_move rfl rfl rfl ?_; simp only [put_lit, eval_lit, BigFrame.eval_const, List.set_cons_succ, List.set_cons_zero, List.getD_cons_succ, List.getD_cons_zero]) | (refine wpE_run rfl rfl (by simp) (fun w1 hx1 _ K hK => by go_step; exact hK _ (Ext.refl _)) ?_; simp only [put_lit, List.set_cons_succ, List.set_cons_zero]))
        (first | (refine wpE_move rfl rfl rfl ?_; simp only [put_lit, eval_lit, BigFrame.eval_const, List.set_cons_succ, List.set_cons_zero, List.getD_cons_succ, List.getD_cons_zero]) | (refine wpE_run rfl rfl (by simp) (fun w1 hx1 _ K hK => by go_step; exact hK _ (Ext.refl _)) ?_; simp only [put_lit, List.set_cons_succ, List.set_cons_zero]))
        (first | (refine wpE_move rfl rfl rfl ?_; simp only [put_lit, eval_lit, BigFrame.eval_const, List.set_cons_succ, List.set_cons_zero, List.getD_cons_succ, List.getD_cons_zero]) | (refine wpE_run rfl rfl (by simp) (fun w1 hx1 _ K hK => by go_step; exact hK _ (Ext.refl _)) ?_; simp only [put_lit, List.set_cons_succ, List.set_cons_zero]))
        (refine wpE_run rfl rfl (by simp) (fun w1 hx1 _ K hK => by have hc := hx1.cell q1; go_step; exact hK _ (Ext.refl _)) ?_); simp only [put_lit, List.set_cons_succ, List.set_cons_zero]
        (refine wpE_run rfl rfl (by simp) (fun w1 hx1 _ K hK => by go_wp2_with (go_at_call 27; refine (refmul_ext 3 _ (by omega) f1 _).mono ?_; rintro e w2 ⟨rfl, hx2⟩; exact hK _ hx2)) ?_); simp only [put_lit, List.set_cons_succ, List.set_cons_zero]
        (first | (refine wpE_move rfl rfl rfl ?_; simp only [put_lit, eval_lit, BigFrame.eval_const, List.set_cons_succ, List.set_cons_zero, List.getD_cons_succ, List.getD_cons_zero]) | (refine wpE_run rfl rfl (by simp) (fun w1 hx1 _ K hK => by go_step; exact hK _ (Ext.refl _)) ?_; simp only [put_lit, List.set_cons_succ, List.set_cons_zero]))
        rw [u8_xor_nat _ _ m0 m1]
        (first | (refine wpE_move rfl rfl rfl ?_; simp only [put_lit, eval_lit, BigFrame.eval_const, List.set_cons_succ, List.set_cons_zero, List.getD_cons_succ, List.getD_cons_zero]) | (refine wpE_run rfl rfl (by simp) (fun w1 hx1 _ K hK => by go_step; exact hK _ (Ext.refl _)) ?_; simp only [put_lit, List.set_cons_succ, List.set_cons_zero]))
        (first | (refine wpE_move rfl rfl rfl ?_; simp only [put_lit, eval_lit, BigFrame.eval_const, List.set_cons_succ, List.set_cons_zero, List.getD_cons_succ, List.getD_cons_zero]) | (refine wpE_run rfl rfl (by simp) (fun w1 hx1 _ K hK => by go_step; exact hK _ (Ext.refl _)) ?_; simp only [put_lit, List.set_cons_succ, List.set_cons_zero]))
        (first | (refine wpE_move rfl rfl rfl ?_; simp only [put_lit, eval_lit, BigFrame.eval_const, List.set_cons_succ, List.set_cons_zero, List.getD_cons_succ, List.getD_cons_zero]) | (refine wpE_run rfl rfl (by simp) (fun w1 hx1 _ K hK => by go_step; exact hK _ (Ext.refl _)) ?_; simp only [put_lit, List.set_cons_succ, List.set_cons_zero]))
        (first | (refine wpE_move rfl rfl rfl ?_; simp only [put_lit, eval_lit, BigFrame.eval_const, List.set_cons_succ, List.set_cons_zero, List.getD_cons_succ, List.getD_cons_zero]) | (refine wpE_run rfl rfl (by simp) (fun w1 hx1 _ K hK => by go_step; exact hK _ (Ext.refl _)) ?_; simp only [put_lit, List.set_cons_succ, List.set_cons_zero]))
        (first | (refine wpE_move rfl rfl rfl ?_; simp only [put_lit, eval_lit, BigFrame.eval_const, List.set_cons_succ, List.set_cons_zero, List.getD_cons_succ, List.getD_cons_zero]) | (refine wpE_run rfl rfl (by simp) (fun w1 hx1 _ K hK => by go_step; exact hK _ (Ext.refl _)) ?_; simp only [put_lit, List.set_cons_succ, List.set_cons_zero]))
        (first | (refine wpE_move rfl rfl rfl ?_; simp only [put_lit, eval_lit, BigFrame.eval_const, List.set_cons_succ, List.set_cons_zero, List.getD_cons_succ, List.getD_cons_zero]) | (refine wpE_run rfl rfl (by simp) (fun w1 hx1 _ K hK => by go_step; exact hK _ (Ext.refl _)) ?_; simp only [put_lit, List.set_cons_succ, List.set_cons_zero]))
        (refine wpE_run rfl rfl (by simp) (fun w1 hx1 _ K hK => by have hc := hx1.cell q2; go_step; exact hK _ (Ext.refl _)) ?_); simp only [put_lit, List.set_cons_succ, List.set_cons_zero]
        (first | (refine wpE_move rfl rfl rfl ?_; simp only [put_lit, eval_lit, BigFrame.eval_const, List.set_cons_succ, List.set_cons_zero, List.getD_cons_succ, List.getD_cons_zero]) | (refine wpE_run rfl rfl (by simp) (fun w1 hx1 _ K hK => by go_step; exact hK _ (Ext.refl _)) ?_; simp only [put_lit, List.set_cons_succ, List.set_cons_zero]))
        rw [u8_xor_nat _ _ (xor_lt m0 m1) f2]
        (first | (refine wpE_move rfl rfl rfl ?_; simp only [put_lit, eval_lit, BigFrame.eval_const, List.set_cons_succ, List.set_cons_zero, List.getD_cons_succ, List.getD_cons_zero]) | (refine wpE_run rfl rfl (by simp) (fun w1 hx1 _ K hK => by go_step; exact hK _ (Ext.refl _)) ?_; simp only [put_lit, List.set_cons_succ, List.set_cons_zero]))
        (first | (refine wpE_move rfl rfl rfl ?_; simp only [put_lit, eval_lit, BigFrame.eval_const, List.set_cons_succ, List.set_cons_zero, List.getD_cons_succ, List.getD_cons_zero]) | (refine wpE_run rfl rfl (by simp) (fun w1 hx1 _ K hK => by go_step; exact hK _ (Ext.refl _)) ?_; simp only [put_lit, List.set_cons_succ, List.set_cons_zero]))
        (first | (refine wpE_move rfl rfl rfl ?_; simp only [put_lit, eval_lit, BigFrame.eval_const, List.set_cons_succ, List.set_cons_zero, List.getD_cons_succ, List.getD_cons_zero]) | (refine wpE_run rfl rfl (by simp) (fun w1 hx1 _ K hK => by go_step; exact hK _ (Ext.refl _)) ?_; simp only [put_lit, List.set_cons_succ, List.set_cons_zero]))
        (first | (refine wpE_move rfl rfl rfl ?_; simp only [put_lit, eval_lit, BigFrame.eval_const, List.set_cons_succ, List.set_cons_zero, List.getD_cons_succ, List.getD_cons_zero]) | (refine wpE_run rfl rfl (by simp) (fun w1 hx1 _ K hK => by go_step; exact hK _ (Ext.refl _)) ?_; simp only [put_lit, List.set_cons_succ, List.set_cons_zero]))
        (first | (refine wpE_move rfl rfl rfl ?_; simp only [put_lit, eval_lit, BigFrame.eval_const, List.set_cons_succ, List.set_cons_zero, List.getD_cons_succ, List.getD_cons_zero]) | (refine wpE_run rfl rfl (by simp) (fun w1 hx1 _ K hK => by go_step; exact hK _ (Ext.refl _)) ?_; simp only [put_lit, List.set_cons_succ, List.set_cons_zero]))
        (first | (refine wpE_move rfl rfl rfl ?_; simp only [put_lit, eval_lit, BigFrame.eval_const, List.set_cons_succ, List.set_cons_zero, List.getD_cons_succ, List.getD_cons_zero]) | (refine wpE_run rfl rfl (by simp) (fun w1 hx1 _ K hK => by go_step; exact hK _ (Ext.refl _)) ?_; simp only [put_lit, List.set_cons_succ, List.set_cons_zero]))
        (refine wpE_run rfl rfl (by simp) (fun w1 hx1 _ K hK => by have hc := hx1.cell q3; go_step; exact hK _ (Ext.refl _)) ?_); simp only [put_lit, List.set_cons_succ, List.set_cons_zero]
        (first | (refine wpE_move rfl rfl rfl ?_; simp only [put_lit, eval_lit, BigFrame.eval_const, List.set_cons_succ, List.set_cons_zero, List.getD_cons_succ, List.getD_cons_zero]) | (refine wpE_run rfl rfl (by simp) (fun w1 hx1 _ K hK => by go_step; exact hK _ (Ext.refl _)) ?_; simp only [put_lit, List.set_cons_succ, List.set_cons_zero]))
        rw [u8_xor_nat _ _ (xor_lt (xor_lt m0 m1) f2) f3, ← HQ.out]
        (refine wpE_nil ?_; intro w2 hw2 hF; simp only [List.drop_succ_cons, List.drop_zero])
        have hcc : w2.cell? ⟨w.heap.size + 1 + 1, k, none⟩ = some (.int .u8 ((0 : Nat) : Int)) := by rw [(H2.out.ext hw2).byte k hlt, mixF_at]
        have hff := (H2.out.ext hw2).frozen k
        clear hF q0 q1 q2 q3
        go_wp2_with fail
        go_roundw
        case rel =>
          refine ⟨k + 1, by omega, by go_num, (H0.out.ext hw2).other _ (by simp; omega), (H1.out.ext hw2).other _ (by simp), ?_, (hx.trans hw2).setCell (by simp; omega) _⟩
          rw [← mixF_upd]
          exact (H2.out.ext hw2).setB k _
        case measure => simp [intOf]; omega
    · obtain rfl : k = 16 := by omega
      have hlt' : ¬ ((16 : Nat) : Int) < 16 := by omega
      have H1 := Lib.hid hb1
      have H2 := Lib.hid hb2
      clear hb0 hb1 hb2 hlt hk
      go_wp2_with (first | (refine wl_loadA rfl 23 _ rfl _ 0 16 rfl agg23 sz23 _ _ H2.out (by simp [row_size]) (row 16 (mixP f)) ?e3 ?_) | (refine wl_storeA rfl 23 _ _ rfl _ 0 16 rfl (row 16 (mixP f)) rfl sz23 (row_size _ _) _ _ H1.out (by simp [row_size]) (row_one _ _) (row 16 (mixP f)) (lay_all _ _ (by simp [row_size])) ?_))
      case e3 =>
        rw [row_whole, row_mix]
        exact row_congr fun j hj => mixQ_eq f hf j hj
      refine bodyPost_ret (results_blk rfl _ _ (w.heap.size + 1) 16 23 (row 16 (mixP f)) rfl (H1.out.setRow _) agg23 sz23 (row_size _ _).symm) rfl ?_
      exact ⟨rfl, below_setRow (g := w.heap.size + 1) hx (by omega) _⟩

end Go.Proofs.Ytnigpobbckampaa
