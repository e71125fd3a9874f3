/- The document's mixed columns, Block, Rounds: walked. The document's Block and Rounds: walked. -/
import Derived.Test.YtnigpobbckampaaG0
import Derived.Test.YtnigpobbckampaaA3
import Derived.Deep.DeepCutAuto
namespace Go.Proofs.Ytnigpobbckampaa
set_option linter.unusedSimpArgs false
set_option linter.unusedVariables false
open Go.RowKit

theorem two_ok : (List.range 256).all (fun x => mulP 2 x == dbl x && mulP 3 x == x ^^^ dbl x) = true := by kernel_rfl
theorem two_mulP (x : Nat) (hx : x < 256) : mulP 2 x = dbl x ∧ mulP 3 x = x ^^^ dbl x := by
  have := List.all_eq_true.1 two_ok x (List.mem_range.2 hx)
  simpa using this

/-- A mixed byte, as the document says it. -/
def mixQ (f : Nat → Nat) (i : Nat) : Nat := mulP 2 (f i) ^^^ mulP 3 (f (4 * (i / 4) + (i + 1) % 4)) ^^^ f (4 * (i / 4) + (i + 2) % 4) ^^^ f (4 * (i / 4) + (i + 3) % 4)
theorem mixQ_eq (f : Nat → Nat) (hf : ∀ i, i < 16 → f i < 256) (i : Nat) (hi : i < 16) : mixQ f i = mixP f i := by
  obtain ⟨h0, h1, h2, h3⟩ := mix_col hf (i / 4) (by omega)
  unfold mixQ
  rw [(two_mulP _ (hf i hi)).1, (two_mulP _ (hf _ (by omega))).2]
  rw [show (i + 1) % 4 = (i % 4 + 1) % 4 by omega, show (i + 2) % 4 = (i % 4 + 2) % 4 by omega, show (i + 3) % 4 = (i % 4 + 3) % 4 by omega]
  rcases (by omega : i % 4 = 0 ∨ i % 4 = 1 ∨ i % 4 = 2 ∨ i % 4 = 3) with h | h | h | h
  · rw [h]
    have e : i = 4 * (i / 4) := by omega
    generalize i / 4 = q at *
    subst e
    rw [h0]
    simp only [mcol, Nat.zero_add, show (1 : Nat) % 4 = 1 by decide, show (2 : Nat) % 4 = 2 by decide, show (3 : Nat) % 4 = 3 by decide]
    ac_rfl
  · rw [h]
    have e : i = 4 * (i / 4) + 1 := by omega
    generalize i / 4 = q at *
    subst e
    rw [h1]
    simp only [mcol, Nat.add_zero, show (1 + 1 : Nat) % 4 = 2 by decide, show (1 + 2 : Nat) % 4 = 3 by decide, show (1 + 3 : Nat) % 4 = 0 by decide]
    ac_rfl
  · rw [h]
    have e : i = 4 * (i / 4) + 2 := by omega
    generalize i / 4 = q at *
    subst e
    rw [h2]
    simp only [mcol, Nat.add_zero, show (2 + 1 : Nat) % 4 = 3 by decide, show (2 + 2 : Nat) % 4 = 0 by decide, show (2 + 3 : Nat) % 4 = 1 by decide]
    ac_rfl
  · rw [h]
    have e : i = 4 * (i / 4) + 3 := by omega
    generalize i / 4 = q at *
    subst e
    rw [h3]
    simp only [mcol, Nat.add_zero, show (3 + 1 : Nat) % 4 = 0 by decide, show (3 + 2 : Nat) % 4 = 1 by decide, show (3 + 3 : Nat) % 4 = 2 by decide]
    ac_rfl
theorem mixQ_lt (f : Nat → Nat) (hf : ∀ i, i < 16 → f i < 256) (i : Nat) (hi : i < 16) : mixQ f i < 256 := by rw [mixQ_eq f hf i hi]; exact mixP_lt f hf i hi

set_option maxRecDepth 100000 in
set_option maxHeartbeats 1000000 in
theorem mixed_any (f : Nat → Nat) (hf : ∀ j, j < 16 → f j < 256) (w : World) :
    Calls Try.prog 55 #[.agg (row 16 f)] w fun e w' => e = .returned (.agg (row 16 (mixP f))) ∧ Ext w w' := by
  go_enter Try.func55, Try.ntmps55
  go_wp2_with (first | (refine wl_allocA rfl 23 rfl _ zero23 ?_) | (refine wl_boxA rfl 23 _ rfl _ rfl ?_))
  have hB0 : Blk (((w.alloc (.cells (row 16 f) 23)).alloc (.cells (row 16 fun _ => 0) 23)).alloc (.cells (row 16 fun _ => 0) 23)) w.heap.size 23 (row 16 f) := ((Blk.new w _ _).alloc _).alloc _
  have hB1 : Blk (((w.alloc (.cells (row 16 f) 23)).alloc (.cells (row 16 fun _ => 0) 23)).alloc (.cells (row 16 fun _ => 0) 23)) (w.heap.size + 1) 23 (row 16 fun _ => 0) := by
    have := (Blk.new (w.alloc (.cells (row 16 f) 23)) 23 (row 16 fun _ => 0)).alloc (.cells (row 16 fun _ => 0) 23)
    simpa using this
  have hB2 : Blk (((w.alloc (.cells (row 16 f) 23)).alloc (.cells (row 16 fun _ => 0) 23)).alloc (.cells (row 16 fun _ => 0) 23)) (w.heap.size + 1 + 1) 23 (row 16 fun _ => 0) := by
    have := (Blk.new ((w.alloc (.cells (row 16 f) 23)).alloc (.cells (row 16 fun _ => 0) 23)) 23 (row 16 fun _ => 0))
    simpa only [World.size_alloc] using this
  go_loopw [4] (fun v4 wr => ∃ k : Nat, k ≤ 16 ∧ v4 = .int .i64 k ∧ Blk wr w.heap.size 23 (row 16 f) ∧ Blk wr (w.heap.size + 1) 23 (row 16 fun _ => 0) ∧ Blk wr (w.heap.size + 1 + 1) 23 (row 16 (mixF k (mixQ f) fun _ => 0)) ∧ Ext w wr)
    (fun v4 _ => 16 - (intOf v4).toNat)
  case atStart =>
    refine ⟨0, by omega, rfl, hB0, hB1, ?_, ((Ext.alloc _ _).trans (Ext.alloc _ _)).trans (Ext.alloc _ _)⟩
    rw [mixF_zero]
    exact hB2
  case round =>
    clear hB0 hB1 hB2
    obtain ⟨k, hk, rfl, hb0, hb1, hb2, hx⟩ := hrel
    by_cases hlt : k < 16
    · have hlt' : (k : Int) < 16 := by omega
      have f0 := hf k hlt
      have f1 := hf (4 * (k / 4) + (k + 1) % 4) (by omega)
      have f2 := hf (4 * (k / 4) + (k + 2) % 4) (by omega)
      have f3 := hf (4 * (k / 4) + (k + 3) % 4) (by omega)
      have q0 := hb0.byte k hlt
      have q1 := hb0.byte (4 * (k / 4) + (k + 1) % 4) (by omega)
      have q2 := hb0.byte (4 * (k / 4) + (k + 2) % 4) (by omega)
      have q3 := hb0.byte (4 * (k / 4) + (k + 3) % 4) (by omega)
      have m0 := mulP_lt 2 (f k) (by omega)
      have m1 := mulP_lt 3 (f (4 * (k / 4) + (k + 1) % 4)) (by omega)
      have H0 := Lib.hid hb0
      have H1 := Lib.hid hb1
      have H2 := Lib.hid hb2
      have HQ := Lib.hid (show mixQ f k = mulP 2 (f k) ^^^ mulP 3 (f (4 * (k / 4) + (k + 1) % 4)) ^^^ f (4 * (k / 4) + (k + 2) % 4) ^^^ f (4 * (k / 4) + (k + 3) % 4) from rfl)
      clear hb0 hb1 hb2
      go_wp2_with fail
      apply wp_region_mid 30 [.det _, .det _, .det _, .det _, .det _, .det _, .det _, .det _, .det _, .det _, .det _, .det _, .det _, .det _, .det _, .det _, .det _, .det _, .det _, .det _, .det _, .det _, .det _, .det _, .det _, .det _, .det _, .det _, .det _, .det _] (by kernel_rfl) rfl (by kernel_rfl)
      · (first | (refine wpE_move rfl rfl rfl ?_; simp only [put_lit, eval_lit, BigFrame.eval_const, List.set_cons_succ, List.set_cons_zero, List.getD_cons_succ, List.getD_cons_zero]) | (refine wpE_run rfl rfl (by simp) (fun w1 hx1 _ K hK => by go_step; exact hK _ (Ext.refl _)) ?_; simp only [put_lit, List.set_cons_succ, List.set_cons_zero]))
        (first | (refine wpE_move rfl rfl rfl ?_; simp only [put_lit, eval_lit, BigFrame.eval_const, List.set_cons_succ, List.set_cons_zero, List.getD_cons_succ, List.getD_cons_zero]) | (refine wpE_run rfl rfl (by simp) (fun w1 hx1 _ K hK => by go_step; exact hK _ (Ext.refl _)) ?_; simp only [put_lit, List.set_cons_succ, List.set_cons_zero]))
        (first | (refine wpE_move rfl rfl rfl ?_; simp only [put_lit, eval_lit, BigFrame.eval_const, List.set_cons_succ, List.set_cons_zero, List.getD_cons_succ, List.getD_cons_zero]) | (refine wpE_run rfl rfl (by simp) (fun w1 hx1 _ K hK => by go_step; exact hK _ (Ext.refl _)) ?_; simp only [put_lit, List.set_cons_succ, List.set_cons_zero]))
        (refine wpE_run rfl rfl (by simp) (fun w1 hx1 _ K hK => by have hc := hx1.cell q0; go_step; exact hK _ (Ext.refl _)) ?_); simp only [put_lit, List.set_cons_succ, List.set_cons_zero]
        (refine wpE_run rfl rfl (by simp) (fun w1 hx1 _ K hK => by go_wp2_with (go_at_call 27; refine (refmul_ext 2 (f k) (by omega) f0 _).mono ?_; rintro e w2 ⟨rfl, hx2⟩; exact hK _ hx2)) ?_); simp only [put_lit, List.set_cons_succ, List.set_cons_zero]
        (first | (refine wpE_move rfl rfl rfl ?_; simp only [put_lit, eval_lit, BigFrame.eval_const, List.set_cons_succ, List.set_cons_zero, List.getD_cons_succ, List.getD_cons_zero]) | (refine wpE_run rfl rfl (by simp) (fun w1 hx1 _ K hK => by go_step; exact hK _ (Ext.refl _)) ?_; simp only [put_lit, List.set_cons_succ, List.set_cons_zero]))
        (first | (refine wpE_move rfl rfl rfl ?_; simp only [put_lit, eval_lit, BigFrame.eval_const, List.set_cons_succ, List.set_cons_zero, List.getD_cons_succ, List.getD_cons_zero]) | (refine wpE_run rfl rfl (by simp) (fun w1 hx1 _ K hK => by go_step; exact hK _ (Ext.refl _)) ?_; simp only [put_lit, List.set_cons_succ, List.set_cons_zero]))
        (first | (refine wpE_move rfl rfl rfl ?_; simp only [put_lit, eval_lit, BigFrame.eval_const, List.set_cons_succ, List.set_cons_zero, List.getD_cons_succ, List.getD_cons_zero]) | (refine wpE_run rfl rfl (by simp) (fun w1 hx1 _ K hK => by go_step; exact hK _ (Ext.refl _)) ?_; simp only [put_lit, List.set_cons_succ, List.set_cons_zero]))
        (first | (refine wpE_move rfl rfl rfl ?_; simp only [put_lit, eval_lit, BigFrame.eval_const, List.set_cons_succ, List.set_cons_zero, List.getD_cons_succ, List.getD_cons_zero]) | (refine wpE_run rfl rfl (by simp) (fun w1 hx1 _ K hK => by go_step; exact hK _ (Ext.refl _)) ?_; simp only [put_lit, List.set_cons_succ, List.set_cons_zero]))
        (first | (refine wpE_move rfl rfl rfl ?_; simp only [put_lit, eval_lit, BigFrame.eval_const, List.set_cons_succ, List.set_cons_zero, List.getD_cons_succ, List.getD_cons_zero]) | (refine wpE_run rfl rfl (by simp) (fun w1 hx1 _ K hK => by go_step; exact hK _ (Ext.refl _)) ?_; simp only [put_lit, List.set_cons_succ, List.set_cons_zero]))
        (first | (refine wpE_move rfl rfl rfl ?_; simp only [put_lit, eval_lit, BigFrame.eval_const, List.set_cons_succ, List.set_cons_zero, List.getD_cons_succ, List.getD_cons_zero]) | (refine wpE_run rfl rfl (by simp) (fun w1 hx1 _ K hK => by go_step; exact hK _ (Ext.refl _)) ?_; simp only [put_lit, List.set_cons_succ, List.set_cons_zero]))
        (refine wpE_run rfl rfl (by simp) (fun w1 hx1 _ K hK => by have hc := hx1.cell q1; go_step; exact hK _ (Ext.refl _)) ?_); simp only [put_lit, List.set_cons_succ, List.set_cons_zero]
        (refine wpE_run rfl rfl (by simp) (fun w1 hx1 _ K hK => by go_wp2_with (go_at_call 27; refine (refmul_ext 3 _ (by omega) f1 _).mono ?_; rintro e w2 ⟨rfl, hx2⟩; exact hK _ hx2)) ?_); simp only [put_lit, List.set_cons_succ, List.set_cons_zero]
        (first | (refine wpE_move rfl rfl rfl ?_; simp only [put_lit, eval_lit, BigFrame.eval_const, List.set_cons_succ, List.set_cons_zero, List.getD_cons_succ, List.getD_cons_zero]) | (refine wpE_run rfl rfl (by simp) (fun w1 hx1 _ K hK => by go_step; exact hK _ (Ext.refl _)) ?_; simp only [put_lit, List.set_cons_succ, List.set_cons_zero]))
        rw [u8_xor_nat _ _ m0 m1]
        (first | (refine wpE_move rfl rfl rfl ?_; simp only [put_lit, eval_lit, BigFrame.eval_const, List.set_cons_succ, List.set_cons_zero, List.getD_cons_succ, List.getD_cons_zero]) | (refine wpE_run rfl rfl (by simp) (fun w1 hx1 _ K hK => by go_step; exact hK _ (Ext.refl _)) ?_; simp only [put_lit, List.set_cons_succ, List.set_cons_zero]))
        (first | (refine wpE_move rfl rfl rfl ?_; simp only [put_lit, eval_lit, BigFrame.eval_const, List.set_cons_succ, List.set_cons_zero, List.getD_cons_succ, List.getD_cons_zero]) | (refine wpE_run rfl rfl (by simp) (fun w1 hx1 _ K hK => by go_step; exact hK _ (Ext.refl _)) ?_; simp only [put_lit, List.set_cons_succ, List.set_cons_zero]))
        (first | (refine wpE_move rfl rfl rfl ?_; simp only [put_lit, eval_lit, BigFrame.eval_const, List.set_cons_succ, List.set_cons_zero, List.getD_cons_succ, List.getD_cons_zero]) | (refine wpE_run rfl rfl (by simp) (fun w1 hx1 _ K hK => by go_step; exact hK _ (Ext.refl _)) ?_; simp only [put_lit, List.set_cons_succ, List.set_cons_zero]))
        (first | (refine wpE_move rfl rfl rfl ?_; simp only [put_lit, eval_lit, BigFrame.eval_const, List.set_cons_succ, List.set_cons_zero, List.getD_cons_succ, List.getD_cons_zero]) | (refine wpE_run rfl rfl (by simp) (fun w1 hx1 _ K hK => by go_step; exact hK _ (Ext.refl _)) ?_; simp only [put_lit, List.set_cons_succ, List.set_cons_zero]))
        (first | (refine wpE_move rfl rfl rfl ?_; simp only [put_lit, eval_lit, BigFrame.eval_const, List.set_cons_succ, List.set_cons_zero, List.getD_cons_succ, List.getD_cons_zero]) | (refine wpE_run rfl rfl (by simp) (fun w1 hx1 _ K hK => by go_step; exact hK _ (Ext.refl _)) ?_; simp only [put_lit, List.set_cons_succ, List.set_cons_zero]))
        (first | (refine wpE_move rfl rfl rfl ?_; simp only [put_lit, eval_lit, BigFrame.eval_const, List.set_cons_succ, List.set_cons_zero, List.getD_cons_succ, List.getD_cons_zero]) | (refine wpE_run rfl rfl (by simp) (fun w1 hx1 _ K hK => by go_step; exact hK _ (Ext.refl _)) ?_; simp only [put_lit, List.set_cons_succ, List.set_cons_zero]))
        (refine wpE_run rfl rfl (by simp) (fun w1 hx1 _ K hK => by have hc := hx1.cell q2; go_step; exact hK _ (Ext.refl _)) ?_); simp only [put_lit, List.set_cons_succ, List.set_cons_zero]
        (first | (refine wpE_move rfl rfl rfl ?_; simp only [put_lit, eval_lit, BigFrame.eval_const, List.set_cons_succ, List.set_cons_zero, List.getD_cons_succ, List.getD_cons_zero]) | (refine wpE_run rfl rfl (by simp) (fun w1 hx1 _ K hK => by go_step; exact hK _ (Ext.refl _)) ?_; simp only [put_lit, List.set_cons_succ, List.set_cons_zero]))
        rw [u8_xor_nat _ _ (xor_lt m0 m1) f2]
        (first | (refine wpE_move rfl rfl rfl ?_; simp only [put_lit, eval_lit, BigFrame.eval_const, List.set_cons_succ, List.set_cons_zero, List.getD_cons_succ, List.getD_cons_zero]) | (refine wpE_run rfl rfl (by simp) (fun w1 hx1 _ K hK => by go_step; exact hK _ (Ext.refl _)) ?_; simp only [put_lit, List.set_cons_succ, List.set_cons_zero]))
        (first | (refine wpE_move rfl rfl rfl ?_; simp only [put_lit, eval_lit, BigFrame.eval_const, List.set_cons_succ, List.set_cons_zero, List.getD_cons_succ, List.getD_cons_zero]) | (refine wpE_run rfl rfl (by simp) (fun w1 hx1 _ K hK => by go_step; exact hK _ (Ext.refl _)) ?_; simp only [put_lit, List.set_cons_succ, List.set_cons_zero]))
        (first | (refine wpE_move rfl rfl rfl ?_; simp only [put_lit, eval_lit, BigFrame.eval_const, List.set_cons_succ, List.set_cons_zero, List.getD_cons_succ, List.getD_cons_zero]) | (refine wpE_run rfl rfl (by simp) (fun w1 hx1 _ K hK => by go_step; exact hK _ (Ext.refl _)) ?_; simp only [put_lit, List.set_cons_succ, List.set_cons_zero]))
        (first | (refine wpE_move rfl rfl rfl ?_; simp only [put_lit, eval_lit, BigFrame.eval_const, List.set_cons_succ, List.set_cons_zero, List.getD_cons_succ, List.getD_cons_zero]) | (refine wpE_run rfl rfl (by simp) (fun w1 hx1 _ K hK => by go_step; exact hK _ (Ext.refl _)) ?_; simp only [put_lit, List.set_cons_succ, List.set_cons_zero]))
        (first | (refine wpE_move rfl rfl rfl ?_; simp only [put_lit, eval_lit, BigFrame.eval_const, List.set_cons_succ, List.set_cons_zero, List.getD_cons_succ, List.getD_cons_zero]) | (refine wpE_run rfl rfl (by simp) (fun w1 hx1 _ K hK => by go_step; exact hK _ (Ext.refl _)) ?_; simp only [put_lit, List.set_cons_succ, List.set_cons_zero]))
        (first | (refine wpE_move rfl rfl rfl ?_; simp only [put_lit, eval_lit, BigFrame.eval_const, List.set_cons_succ, List.set_cons_zero, List.getD_cons_succ, List.getD_cons_zero]) | (refine wpE_run rfl rfl (by simp) (fun w1 hx1 _ K hK => by go_step; exact hK _ (Ext.refl _)) ?_; simp only [put_lit, List.set_cons_succ, List.set_cons_zero]))
        (refine wpE_run rfl rfl (by simp) (fun w1 hx1 _ K hK => by have hc := hx1.cell q3; go_step; exact hK _ (Ext.refl _)) ?_); simp only [put_lit, List.set_cons_succ, List.set_cons_zero]
        (first | (refine wpE_move rfl rfl rfl ?_; simp only [put_lit, eval_lit, BigFrame.eval_const, List.set_cons_succ, List.set_cons_zero, List.getD_cons_succ, List.getD_cons_zero]) | (refine wpE_run rfl rfl (by simp) (fun w1 hx1 _ K hK => by go_step; exact hK _ (Ext.refl _)) ?_; simp only [put_lit, List.set_cons_succ, List.set_cons_zero]))
        rw [u8_xor_nat _ _ (xor_lt (xor_lt m0 m1) f2) f3, ← HQ.out]
        (refine wpE_nil ?_; intro w2 hw2 hF; simp only [List.drop_succ_cons, List.drop_zero])
        have hcc : w2.cell? ⟨w.heap.size + 1 + 1, k, none⟩ = some (.int .u8 ((0 : Nat) : Int)) := by rw [(H2.out.ext hw2).byte k hlt, mixF_at]
        have hff := (H2.out.ext hw2).frozen k
        clear hF q0 q1 q2 q3
        go_wp2_with fail
        go_roundw
        case rel =>
          refine ⟨k + 1, by omega, by go_num, (H0.out.ext hw2).other _ (by simp; omega), (H1.out.ext hw2).other _ (by simp), ?_, (hx.trans hw2).setCell (by simp; omega) _⟩
          rw [← mixF_upd]
          exact (H2.out.ext hw2).setB k _
        case measure => simp [intOf]; omega
    · obtain rfl : k = 16 := by omega
      have hlt' : ¬ ((16 : Nat) : Int) < 16 := by omega
      have H1 := Lib.hid hb1
      have H2 := Lib.hid hb2
      clear hb0 hb1 hb2 hlt hk
      go_wp2_with (first | (refine wl_loadA rfl 23 _ rfl _ 0 16 rfl agg23 sz23 _ _ H2.out (by simp [row_size]) (row 16 (mixP f)) ?e3 ?_) | (refine wl_storeA rfl 23 _ _ rfl _ 0 16 rfl (row 16 (mixP f)) rfl sz23 (row_size _ _) _ _ H1.out (by simp [row_size]) (row_one _ _) (row 16 (mixP f)) (lay_all _ _ (by simp [row_size])) ?_))
      case e3 =>
        rw [row_whole, row_mix]
        exact row_congr fun j hj => mixQ_eq f hf j hj
      refine bodyPost_ret (results_blk rfl _ _ (w.heap.size + 1) 16 23 (row 16 (mixP f)) rfl (H1.out.setRow _) agg23 sz23 (row_size _ _).symm) rfl ?_
      exact ⟨rfl, below_setRow (g := w.heap.size + 1) hx (by omega) _⟩

end Go.Proofs.Ytnigpobbckampaa
namespace Go.Proofs.Ytnigpobbckampaa
set_option linter.unusedSimpArgs false
set_option linter.unusedVariables false
open Go.RowKit

theorem put_noG (a : Act) (v : Value) : a.put none v = a := rfl

/-- The document's cipher. -/
def CphR (w : World) (b : Nat) (n : Nat) (ks : Nat → Nat → Nat) : Prop :=
  ∃ kb cap cs, Blk w b 78 (ccells kb n cap) ∧ Blk w kb 23 cs ∧ n * 16 ≤ cs.size ∧ ∀ i, i < n → ∀ j, j < 16 → cs[i * 16 + j]? = some (.int .u8 ((ks i j : Nat) : Int)) ∧ ks i j < 256
theorem CphR.ext {w w' : World} {b n : Nat} {ks : Nat → Nat → Nat} (h : CphR w b n ks) (hx : Ext w w') : CphR w' b n ks := by
  obtain ⟨kb, cap, cs, h1, h2, h3⟩ := h
  exact ⟨kb, cap, cs, h1.ext hx, h2.ext hx, h3⟩

set_option maxRecDepth 100000 in
set_option maxHeartbeats 1000000 in
theorem refrounds_any (b n : Nat) (ks : Nat → Nat → Nat) (hn : 1 ≤ n) (hn2 : n ≤ 1000) (w : World) (hC : CphR w b n ks) :
    Calls Try.prog 24 #[.pointer (some ⟨b, 0, none⟩)] w fun e w' => e = .returned (.int .i64 ((n - 1 : Nat) : Int)) ∧ w = w' := by
  obtain ⟨kb, cap, cs, h1, h2, h3⟩ := hC
  have hc : w.cell? ⟨b, 0, none⟩ = some (.slice (some ⟨kb, 0, none⟩) n cap) := (h1.cell 0).trans (ccells_0 _ _ _)
  clear h1 h2 h3
  go_enter Try.func24, Try.ntmps24
  go_wp2
  go_ret
  have : ((n - 1 : Nat) : Int) = (n : Int) - 1 := by omega
  exact ⟨by rw [this]; rfl, rfl⟩

set_option maxRecDepth 100000 in
set_option maxHeartbeats 1000000 in
theorem refblock_any (b n : Nat) (ks : Nat → Nat → Nat) (hn : 2 ≤ n) (hn2 : n ≤ 1000) (x : Nat → Nat) (hx : ∀ i, i < 16 → x i < 256) (w : World) (hC : CphR w b n ks) :
    Calls Try.prog 22 #[.pointer (some ⟨b, 0, none⟩), .agg (row 16 x)] w fun e w' => e = .returned (.agg (row 16 (blockP n ks x))) ∧ Ext w w' := by
  have HC := Lib.hid hC
  clear hC
  go_enter Try.func22, Try.ntmps22
  go_wp2_with (first | (refine wl_allocA rfl 23 rfl _ zero23 ?_) | (refine wl_boxA rfl 23 _ rfl _ rfl ?_))
  obtain ⟨W, hW⟩ : ∃ W, (w.alloc (.cells (row 16 x) 23)).alloc (.cells (row 16 fun _ => 0) 23) = W := ⟨_, rfl⟩
  have hBx : Blk W w.heap.size 23 (row 16 x) := hW ▸ (Blk.new w 23 (row 16 x)).alloc _
  have hBr : Blk W (w.heap.size + 1) 23 (row 16 fun _ => 0) := by
    have := Blk.new (w.alloc (.cells (row 16 x) 23)) 23 (row 16 fun _ => 0)
    rw [hW] at this
    simpa using this
  have hWx : Ext w W := hW ▸ (Ext.alloc _ _).trans (Ext.alloc _ _)
  have hWs : W.heap.size = w.heap.size + 2 := by rw [← hW]; simp
  rw [hW]
  clear hW
  obtain ⟨kb, cap, cs, hb1, hb2, hlen, hks⟩ := HC.out.ext hWx
  have hk0 : ∀ j, j < 16 → ks 0 j < 256 := fun j hj => (hks 0 (by omega) j hj).2
  have hc0 : W.cell? ⟨b, 0, none⟩ = some (.slice (some ⟨kb, 0, none⟩) n cap) := (hb1.cell 0).trans (ccells_0 _ _ _)
  simp only [put_lit, List.set_cons_succ, List.set_cons_zero]
  apply wp_region_mid 9 [.det _, .det _, .det _, .det _, .det _, .det _, .det _, .det _, .any (Fresh W 23 (row 16 fun _ => 0))] (by kernel_rfl) rfl (by kernel_rfl)
  · refine wpE_run rfl rfl (by simp) (fun w' hx' _ K hK => wp_loadA 23 _ rfl _ 0 16 rfl agg23 sz23 _ _ (hBx.ext hx') (by simp [row_size]) (row 16 x) (row_whole _ _) (hK _ (Ext.refl _))) ?_
    simp only [put_lit, List.set_cons_succ, List.set_cons_zero]
    (first | (refine wpE_move rfl rfl rfl ?_; simp only [put_lit, eval_lit, BigFrame.eval_const, List.set_cons_succ, List.set_cons_zero, List.getD_cons_succ, List.getD_cons_zero]) | (refine wpE_run rfl rfl (by simp) (fun w1 hx1 _ K hK => by go_step; exact hK _ (Ext.refl _)) ?_; simp only [put_lit, List.set_cons_succ, List.set_cons_zero]))
    (first | (refine wpE_move rfl rfl rfl ?_; simp only [put_lit, eval_lit, BigFrame.eval_const, List.set_cons_succ, List.set_cons_zero, List.getD_cons_succ, List.getD_cons_zero]) | (refine wpE_run rfl rfl (by simp) (fun w1 hx1 _ K hK => by go_step; exact hK _ (Ext.refl _)) ?_; simp only [put_lit, List.set_cons_succ, List.set_cons_zero]))
    (first | (refine wpE_move rfl rfl rfl ?_; simp only [put_lit, eval_lit, BigFrame.eval_const, List.set_cons_succ, List.set_cons_zero, List.getD_cons_succ, List.getD_cons_zero]) | (refine wpE_run rfl rfl (by simp) (fun w1 hx1 _ K hK => by go_step; exact hK _ (Ext.refl _)) ?_; simp only [put_lit, List.set_cons_succ, List.set_cons_zero]))
    (refine wpE_run rfl rfl (by simp) (fun w1 hx1 _ K hK => by have hc := hx1.cell hc0; go_step; exact hK _ (Ext.refl _)) ?_); simp only [put_lit, List.set_cons_succ, List.set_cons_zero]
    (refine wpE_run rfl rfl (by simp) (fun w1 hx1 _ K hK => by have hn0 : 0 < n := (by omega); go_step; exact hK _ (Ext.refl _)) ?_); simp only [put_lit, List.set_cons_succ, List.set_cons_zero]
    refine wpE_run rfl rfl (by simp) (fun w' hx' _ K hK => wp_loadA 23 _ rfl _ 0 16 rfl agg23 sz23 _ _ (hb2.ext hx') (by simp; omega) (row 16 (ks 0)) (part_keys hks 0 (by omega)) (hK _ (Ext.refl _))) ?_
    simp only [put_lit, List.set_cons_succ, List.set_cons_zero]
    (refine wpE_run rfl rfl (by simp) (fun w1 hx1 _ K hK => by go_wp2_with (go_at_call 54; refine (refxor_any _ _ hx hk0 _).mono ?_; rintro e w2 ⟨rfl, hx2⟩; exact hK _ hx2)) ?_); simp only [put_lit, List.set_cons_succ, List.set_cons_zero]
    refine wpE_alloc rfl zero23 rfl (by simp) rfl (fun u => ?_)
    simp only [put_lit, List.set_cons_succ, List.set_cons_zero]
    refine wpE_nil ?_
    intro w2 hw2 hF
    obtain ⟨g, rfl, hg, hbg⟩ := hF _ (List.mem_cons_self)
    simp only [List.drop_succ_cons, List.drop_zero]
    have hg1 : g ≠ w.heap.size + 1 := by omega
    refine wl_storeA rfl 23 _ _ rfl g 0 16 rfl (row 16 fun j => x j ^^^ ks 0 j) rfl sz23 (row_size _ _) _ _ hbg (by simp [row_size]) (row_one _ _) (row 16 (stP (n - 1) ks x 0)) (lay_all _ _ (by simp [row_size])) ?_
    have hA : Blk (w2.setRow g (row 16 (stP (n - 1) ks x 0))) g 23 (row 16 (stP (n - 1) ks x 0)) := hbg.setRow _
    have hR : Blk (w2.setRow g (row 16 (stP (n - 1) ks x 0))) (w.heap.size + 1) 23 (row 16 fun _ => 0) := (hBr.ext hw2).setRow_other _ (Ne.symm hg1)
    have hL : Below w.heap.size w (w2.setRow g (row 16 (stP (n - 1) ks x 0))) := below_setRow (hWx.trans hw2) (by omega) _
    generalize w2.setRow g (row 16 (stP (n - 1) ks x 0)) = W2 at hA hR hL ⊢
    have hkl : ∀ i, i < n → ∀ j, j < 16 → ks i j < 256 := fun i hi j hj => (hks i hi j hj).2
    clear hF hbg hw2 hks hlen hb1 hb2 hc0 hBx hBr hWx
    go_wp2_with fail
    go_loopw [6] (fun v6 wr => ∃ k : Nat, k ≤ n - 1 ∧ v6 = .int .i64 ((k + 1 : Nat) : Int) ∧ Blk wr g 23 (row 16 (stP (n - 1) ks x k)) ∧ Blk wr (w.heap.size + 1) 23 (row 16 fun _ => 0) ∧ Below w.heap.size w wr)
      (fun v6 _ => n + 1 - (intOf v6).toNat)
    case atStart => exact ⟨0, by omega, rfl, hA, hR, hL⟩
    case round =>
      clear hA hR hL
      obtain ⟨k, hk, rfl, hA, hR, hL⟩ := hrel
      obtain ⟨kb, cap, cs, hb1, hb2, hlen, hks⟩ := HC.out.ext hL
      have hc0 : wr.cell? ⟨b, 0, none⟩ = some (.slice (some ⟨kb, 0, none⟩) n cap) := (hb1.cell 0).trans (ccells_0 _ _ _)
      clear hb1 hb2 hlen hks
      have HA := Lib.hid hA
      have HR := Lib.hid hR
      clear hA hR
      obtain ⟨wo, rfl⟩ : ∃ wo : World, wo = wr := ⟨_, rfl⟩
      by_cases hlt : k < n - 1
      · have hlt' : ((k + 1 : Nat) : Int) < (n : Int) := by omega
        go_wp2_with (refine wl_allocA rfl 23 rfl _ zero23 ?_)
        clear hc0
        have hAlt : ∀ j, j < 16 → stP (n - 1) ks x k j < 256 := fun j hj => stP_lt _ _ _ hx _ (fun i hi => hkl i (by omega)) j hj
        have hw0 := hL.size
        have hglt := HA.out.lt
        have hA1 : Blk (wo.alloc (.cells (row 16 fun _ => 0) 23)) g 23 (row 16 (stP (n - 1) ks x k)) := HA.out.alloc _
        have hR1 : Blk (wo.alloc (.cells (row 16 fun _ => 0) 23)) (w.heap.size + 1) 23 (row 16 fun _ => 0) := HR.out.alloc _
        have hB1 : Blk (wo.alloc (.cells (row 16 fun _ => 0) 23)) wo.heap.size 23 (row 16 fun _ => 0) := Blk.new _ _ _
        have hRlt := HR.out.lt
        go_loopw [8] (fun v8 wr => ∃ i : Nat, i ≤ 16 ∧ v8 = .int .i64 i ∧ Blk wr wo.heap.size 23 (row 16 (mixF i (subP (stP (n - 1) ks x k)) fun _ => 0)) ∧ Blk wr g 23 (row 16 (stP (n - 1) ks x k)) ∧ Blk wr (w.heap.size + 1) 23 (row 16 fun _ => 0) ∧ Below w.heap.size w wr)
          (fun v8 _ => 16 - (intOf v8).toNat)
        case atStart => exact ⟨0, by omega, rfl, by rw [mixF_zero]; exact hB1, hA1, hR1, hL.alloc hw0 _⟩
        case round =>
          clear hA1 hR1 hB1 HA HR hL
          obtain ⟨i, hi, rfl, hB, hA, hR, hL⟩ := hrel
          have HA := Lib.hid hA
          have HB := Lib.hid hB
          have HR := Lib.hid hR
          by_cases hi16 : i < 16
          · have c1 := hA.byte ((i + 4 * (i % 4)) % 16) (by omega)
            have c2 : wr.cell? ⟨b, 1 + stP (n - 1) ks x k ((i + 4 * (i % 4)) % 16), none⟩ = some (.int .u8 ((subP (stP (n - 1) ks x k) i : Nat) : Int)) := by
              obtain ⟨kb', cap', cs', hb1', _⟩ := HC.out.ext hL
              rw [hb1'.cell, Nat.add_comm, ccells_succ _ _ _ _ (hAlt _ (by omega))]
              rfl
            have hlt1 := hAlt ((i + 4 * (i % 4)) % 16) (by omega)
            have hi16' : (i : Int) < 16 := by omega
            clear hA hB hR
            go_wp2_with fail
            apply wp_region_mid 14 [.det _, .det _, .det _, .det _, .det _, .det _, .det _, .det _, .det _, .det _, .det _, .det _, .det _, .det _] (by kernel_rfl) rfl (by kernel_rfl)
            · (first | (refine wpE_move rfl rfl rfl ?_; simp only [put_lit, eval_lit, BigFrame.eval_const, List.set_cons_succ, List.set_cons_zero, List.getD_cons_succ, List.getD_cons_zero]) | (refine wpE_run rfl rfl (by simp) (fun w1 hx1 _ K hK => by go_step; exact hK _ (Ext.refl _)) ?_; simp only [put_lit, List.set_cons_succ, List.set_cons_zero]))
              (first | (refine wpE_move rfl rfl rfl ?_; simp only [put_lit, eval_lit, BigFrame.eval_const, List.set_cons_succ, List.set_cons_zero, List.getD_cons_succ, List.getD_cons_zero]) | (refine wpE_run rfl rfl (by simp) (fun w1 hx1 _ K hK => by go_step; exact hK _ (Ext.refl _)) ?_; simp only [put_lit, List.set_cons_succ, List.set_cons_zero]))
              (first | (refine wpE_move rfl rfl rfl ?_; simp only [put_lit, eval_lit, BigFrame.eval_const, List.set_cons_succ, List.set_cons_zero, List.getD_cons_succ, List.getD_cons_zero]) | (refine wpE_run rfl rfl (by simp) (fun w1 hx1 _ K hK => by go_step; exact hK _ (Ext.refl _)) ?_; simp only [put_lit, List.set_cons_succ, List.set_cons_zero]))
              (first | (refine wpE_move rfl rfl rfl ?_; simp only [put_lit, eval_lit, BigFrame.eval_const, List.set_cons_succ, List.set_cons_zero, List.getD_cons_succ, List.getD_cons_zero]) | (refine wpE_run rfl rfl (by simp) (fun w1 hx1 _ K hK => by go_step; exact hK _ (Ext.refl _)) ?_; simp only [put_lit, List.set_cons_succ, List.set_cons_zero]))
              (first | (refine wpE_move rfl rfl rfl ?_; simp only [put_lit, eval_lit, BigFrame.eval_const, List.set_cons_succ, List.set_cons_zero, List.getD_cons_succ, List.getD_cons_zero]) | (refine wpE_run rfl rfl (by simp) (fun w1 hx1 _ K hK => by go_step; exact hK _ (Ext.refl _)) ?_; simp only [put_lit, List.set_cons_succ, List.set_cons_zero]))
              (first | (refine wpE_move rfl rfl rfl ?_; simp only [put_lit, eval_lit, BigFrame.eval_const, List.set_cons_succ, List.set_cons_zero, List.getD_cons_succ, List.getD_cons_zero]) | (refine wpE_run rfl rfl (by simp) (fun w1 hx1 _ K hK => by go_step; exact hK _ (Ext.refl _)) ?_; simp only [put_lit, List.set_cons_succ, List.set_cons_zero]))
              (first | (refine wpE_move rfl rfl rfl ?_; simp only [put_lit, eval_lit, BigFrame.eval_const, List.set_cons_succ, List.set_cons_zero, List.getD_cons_succ, List.getD_cons_zero]) | (refine wpE_run rfl rfl (by simp) (fun w1 hx1 _ K hK => by go_step; exact hK _ (Ext.refl _)) ?_; simp only [put_lit, List.set_cons_succ, List.set_cons_zero]))
              (first | (refine wpE_move rfl rfl rfl ?_; simp only [put_lit, eval_lit, BigFrame.eval_const, List.set_cons_succ, List.set_cons_zero, List.getD_cons_succ, List.getD_cons_zero]) | (refine wpE_run rfl rfl (by simp) (fun w1 hx1 _ K hK => by go_step; exact hK _ (Ext.refl _)) ?_; simp only [put_lit, List.set_cons_succ, List.set_cons_zero]))
              (first | (refine wpE_move rfl rfl rfl ?_; simp only [put_lit, eval_lit, BigFrame.eval_const, List.set_cons_succ, List.set_cons_zero, List.getD_cons_succ, List.getD_cons_zero]) | (refine wpE_run rfl rfl (by simp) (fun w1 hx1 _ K hK => by go_step; exact hK _ (Ext.refl _)) ?_; simp only [put_lit, List.set_cons_succ, List.set_cons_zero]))
              (refine wpE_run rfl rfl (by simp) (fun w1 hx1 _ K hK => by have hc := hx1.cell c1; go_step; exact hK _ (Ext.refl _)) ?_); simp only [put_lit, List.set_cons_succ, List.set_cons_zero]
              (first | (refine wpE_move rfl rfl rfl ?_; simp only [put_lit, eval_lit, BigFrame.eval_const, List.set_cons_succ, List.set_cons_zero, List.getD_cons_succ, List.getD_cons_zero]) | (refine wpE_run rfl rfl (by simp) (fun w1 hx1 _ K hK => by go_step; exact hK _ (Ext.refl _)) ?_; simp only [put_lit, List.set_cons_succ, List.set_cons_zero]))
              (first | (refine wpE_move rfl rfl rfl ?_; simp only [put_lit, eval_lit, BigFrame.eval_const, List.set_cons_succ, List.set_cons_zero, List.getD_cons_succ, List.getD_cons_zero]) | (refine wpE_run rfl rfl (by simp) (fun w1 hx1 _ K hK => by go_step; exact hK _ (Ext.refl _)) ?_; simp only [put_lit, List.set_cons_succ, List.set_cons_zero]))
              (first | (refine wpE_move rfl rfl rfl ?_; simp only [put_lit, eval_lit, BigFrame.eval_const, List.set_cons_succ, List.set_cons_zero, List.getD_cons_succ, List.getD_cons_zero]) | (refine wpE_run rfl rfl (by simp) (fun w1 hx1 _ K hK => by go_step; exact hK _ (Ext.refl _)) ?_; simp only [put_lit, List.set_cons_succ, List.set_cons_zero]))
              (refine wpE_run rfl rfl (by simp) (fun w1 hx1 _ K hK => by have hc := hx1.cell c2; go_step; exact hK _ (Ext.refl _)) ?_); simp only [put_lit, List.set_cons_succ, List.set_cons_zero]
              (refine wpE_nil ?_; intro w2 hw2 hF; simp only [List.drop_succ_cons, List.drop_zero])
              have hcc : w2.cell? ⟨wo.heap.size, i, none⟩ = some (.int .u8 ((0 : Nat) : Int)) := by rw [(HB.out.ext hw2).byte i hi16, mixF_at]
              have hff := (HB.out.ext hw2).frozen i
              clear hF c1 c2
              go_wp2_with fail
              go_roundw
              case rel =>
                refine ⟨i + 1, by omega, by go_num, ?_, (HA.out.ext hw2).other _ (by simp; omega), (HR.out.ext hw2).other _ (by simp; omega), (hL.trans (Below.mono hw2 hL.size)).setCell (by simp; omega) _⟩
                rw [← mixF_upd]
                exact (HB.out.ext hw2).setB i _
              case measure => simp [intOf]; omega
          · obtain rfl : i = 16 := by omega
            have hi16' : ¬ ((16 : Nat) : Int) < 16 := by omega
            obtain ⟨kb, cap, cs, hb1, hb2, hlen, hks⟩ := HC.out.ext hL
            have hc0 : wr.cell? ⟨b, 0, none⟩ = some (.slice (some ⟨kb, 0, none⟩) n cap) := (hb1.cell 0).trans (ccells_0 _ _ _)
            clear hb1 hb2 hlen hks hA hB hR hi hi16
            go_upto_if 52 with fail
            go_cut [] from 52 to 54 (fun wx => Blk wx wo.heap.size 23 (row 16 (roundP (n - 1) k (stP (n - 1) ks x k))) ∧ Blk wx g 23 (row 16 (stP (n - 1) ks x k)) ∧ Blk wx (w.heap.size + 1) 23 (row 16 fun _ => 0) ∧ Below w.heap.size w wx)
            case first =>
              have hSlt : ∀ j, j < 16 → subP (stP (n - 1) ks x k) j < 256 := fun j _ => subP_lt _ j
              by_cases hmx : k + 1 < n - 1
              · have hmx' : ((k + 1 : Nat) : Int) < (n : Int) - 1 := by omega
                have HR0 := Lib.hid (show roundP (n - 1) k (stP (n - 1) ks x k) = mixP (subP (stP (n - 1) ks x k)) by unfold roundP; rw [if_pos hmx])
                go_wp2_with (refine wl_loadA rfl 23 _ rfl _ 0 16 rfl agg23 sz23 _ _ HB.out (by simp [row_size]) (row 16 (subP (stP (n - 1) ks x k))) (by rw [row_whole, row_mix]) ?_)
                refine (mixed_any _ hSlt _).mono ?_
                rintro e w2 ⟨rfl, hw2⟩
                have hB2 := HB.out.ext hw2
                go_wp2_with (refine wl_storeA rfl 23 _ _ rfl _ 0 16 rfl (row 16 (mixP (subP (stP (n - 1) ks x k)))) rfl sz23 (row_size _ _) _ _ hB2 (by simp [row_size]) (row_one _ _) (row 16 (mixP (subP (stP (n - 1) ks x k)))) (lay_all _ _ (by simp [row_size])) ?_)
                simp only [put_noG]
                go_meet
                case rel =>
                  rw [HR0.out]
                  exact ⟨hB2.setRow _, (HA.out.ext hw2).setRow_other _ (by omega), (HR.out.ext hw2).setRow_other _ (by omega), below_setRow (g := wo.heap.size) (hL.trans (Below.mono hw2 hL.size)) (by omega) _⟩
              · have hmx' : ¬ ((k + 1 : Nat) : Int) < (n : Int) - 1 := by omega
                go_wp2_with fail
                go_meet
                case rel =>
                  have hr : roundP (n - 1) k (stP (n - 1) ks x k) = subP (stP (n - 1) ks x k) := by unfold roundP; rw [if_neg hmx]
                  rw [hr]
                  exact ⟨by have := HB.out; rw [row_mix] at this; exact this, HA.out, HR.out, hL⟩
            case rest =>
              obtain ⟨hB, hA, hR, hL⟩ := hcut
              have hk1 : ∀ j, j < 16 → ks (k + 1) j < 256 := fun j hj => hkl (k + 1) (by omega) j hj
              have hrl : ∀ j, j < 16 → roundP (n - 1) k (stP (n - 1) ks x k) j < 256 := fun j hj => roundP_lt _ _ _ j hj
              obtain ⟨kb', cap', cs', hb1', hb2', hlen', hks'⟩ := HC.out.ext hL
              have hc0 : wc.cell? ⟨b, 0, none⟩ = some (.slice (some ⟨kb', 0, none⟩) n cap') := (hb1'.cell 0).trans (ccells_0 _ _ _)
              clear HA HR HB
              go_wp2_with fail
              apply wp_region_mid 9 [.det _, .det _, .det _, .det _, .det _, .det _, .det _, .det _, .det _] (by kernel_rfl) rfl (by kernel_rfl)
              · refine wpE_run rfl rfl (by simp) (fun w' hx' _ K hK => wp_loadA 23 _ rfl _ 0 16 rfl agg23 sz23 _ _ (hB.ext hx') (by simp [row_size]) (row 16 (roundP (n - 1) k (stP (n - 1) ks x k))) (row_whole _ _) (hK _ (Ext.refl _))) ?_
                simp only [put_lit, List.set_cons_succ, List.set_cons_zero]
                (first | (refine wpE_move rfl rfl rfl ?_; simp only [put_lit, eval_lit, BigFrame.eval_const, List.set_cons_succ, List.set_cons_zero, List.getD_cons_succ, List.getD_cons_zero]) | (refine wpE_run rfl rfl (by simp) (fun w1 hx1 _ K hK => by go_step; exact hK _ (Ext.refl _)) ?_; simp only [put_lit, List.set_cons_succ, List.set_cons_zero]))
                (first | (refine wpE_move rfl rfl rfl ?_; simp only [put_lit, eval_lit, BigFrame.eval_const, List.set_cons_succ, List.set_cons_zero, List.getD_cons_succ, List.getD_cons_zero]) | (refine wpE_run rfl rfl (by simp) (fun w1 hx1 _ K hK => by go_step; exact hK _ (Ext.refl _)) ?_; simp only [put_lit, List.set_cons_succ, List.set_cons_zero]))
                (first | (refine wpE_move rfl rfl rfl ?_; simp only [put_lit, eval_lit, BigFrame.eval_const, List.set_cons_succ, List.set_cons_zero, List.getD_cons_succ, List.getD_cons_zero]) | (refine wpE_run rfl rfl (by simp) (fun w1 hx1 _ K hK => by go_step; exact hK _ (Ext.refl _)) ?_; simp only [put_lit, List.set_cons_succ, List.set_cons_zero]))
                (refine wpE_run rfl rfl (by simp) (fun w1 hx1 _ K hK => by have hc := hx1.cell hc0; go_step; exact hK _ (Ext.refl _)) ?_); simp only [put_lit, List.set_cons_succ, List.set_cons_zero]
                (first | (refine wpE_move rfl rfl rfl ?_; simp only [put_lit, eval_lit, BigFrame.eval_const, List.set_cons_succ, List.set_cons_zero, List.getD_cons_succ, List.getD_cons_zero]) | (refine wpE_run rfl rfl (by simp) (fun w1 hx1 _ K hK => by go_step; exact hK _ (Ext.refl _)) ?_; simp only [put_lit, List.set_cons_succ, List.set_cons_zero]))
                (refine wpE_run rfl rfl (by simp) (fun w1 hx1 _ K hK => by have hkn : k + 1 < n := (by omega); go_step; exact hK _ (Ext.refl _)) ?_); simp only [put_lit, List.set_cons_succ, List.set_cons_zero]
                refine wpE_run rfl rfl (by simp) (fun w' hx' _ K hK => wp_loadA 23 _ rfl _ ((k + 1) * 16) 16 rfl agg23 sz23 _ _ (hb2'.ext hx') ?_ (row 16 (ks (k + 1))) (part_keys hks' (k + 1) (by omega)) (hK _ (Ext.refl _))) ?_
                · have : (k + 1 + 1) * 16 ≤ n * 16 := Nat.mul_le_mul_right _ (by omega)
                  omega
                simp only [put_lit, List.set_cons_succ, List.set_cons_zero]
                (refine wpE_run rfl rfl (by simp) (fun w1 hx1 _ K hK => by go_wp2_with (go_at_call 54; refine (refxor_any _ _ hrl hk1 _).mono ?_; rintro e w2 ⟨rfl, hx2⟩; exact hK _ hx2)) ?_); simp only [put_lit, List.set_cons_succ, List.set_cons_zero]
                (refine wpE_nil ?_; intro w2 hw2 hF; simp only [List.drop_succ_cons, List.drop_zero])
                refine wl_storeA rfl 23 _ _ rfl g 0 16 rfl (row 16 fun j => roundP (n - 1) k (stP (n - 1) ks x k) j ^^^ ks (k + 1) j) rfl sz23 (row_size _ _) _ _ (hA.ext hw2) (by simp [row_size]) (row_one _ _) (row 16 (stP (n - 1) ks x (k + 1))) (lay_all _ _ (by simp [row_size])) ?_
                have hA' : Blk (w2.setRow g (row 16 (stP (n - 1) ks x (k + 1)))) g 23 (row 16 (stP (n - 1) ks x (k + 1))) := (hA.ext hw2).setRow _
                have hR' : Blk (w2.setRow g (row 16 (stP (n - 1) ks x (k + 1)))) (w.heap.size + 1) 23 (row 16 fun _ => 0) := (hR.ext hw2).setRow_other _ (Ne.symm hg1)
                have hL' : Below w.heap.size w (w2.setRow g (row 16 (stP (n - 1) ks x (k + 1)))) := below_setRow (hL.trans (Below.mono hw2 hL.size)) (by omega) _
                generalize w2.setRow g (row 16 (stP (n - 1) ks x (k + 1))) = W3 at hA' hR' hL' ⊢
                clear hF hA hR hks' hlen' hb1' hb2' hc0 hB
                go_wp2_with fail
                go_roundw
                case rel => exact ⟨k + 1, by omega, by go_num, hA', hR', hL'⟩
                case measure => simp [intOf]; omega
      · obtain rfl : k = n - 1 := by omega
        have hlt' : ¬ ((n - 1 + 1 : Nat) : Int) < (n : Int) := by omega
        go_wp2_with (first | (refine wl_loadA rfl 23 _ rfl _ 0 16 rfl agg23 sz23 _ _ HA.out (by simp [row_size]) (row 16 (blockP n ks x)) (row_whole _ _) ?_) | (refine wl_storeA rfl 23 _ _ rfl _ 0 16 rfl (row 16 (blockP n ks x)) rfl sz23 (row_size _ _) _ _ HR.out (by simp [row_size]) (row_one _ _) (row 16 (blockP n ks x)) (lay_all _ _ (by simp [row_size])) ?_))
        refine bodyPost_ret (results_blk rfl _ _ (w.heap.size + 1) 16 23 (row 16 (blockP n ks x)) rfl (HR.out.setRow _) agg23 sz23 (row_size _ _).symm) rfl ?_
        exact ⟨rfl, below_setRow (g := w.heap.size + 1) hL (by omega) _⟩

end Go.Proofs.Ytnigpobbckampaa
