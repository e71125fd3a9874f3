/- The document's Open: walked. -/
import Derived.Test.YtnigpobbckampaaJ7
import Derived.Test.YtnigpobbckampaaZ0
namespace Go.Proofs.Ytnigpobbckampaa
open Go.RowKit
set_option linter.unusedSimpArgs false
set_option linter.unusedVariables false

set_option maxRecDepth 100000 in
set_option maxHeartbeats 1000000 in
theorem refopen43_any (vb vh : Value) (nb nh b K : Nat) (fb fh nonce : Nat → Nat) (ks : Nat → Nat → Nat) (w : World) (hn : nb ≤ 65552) (hnh : nh ≤ 65536) (hvb : RdF w vb nb fb) (hvh : RdF w vh nh fh) (hNl : ∀ j, j < 12 → nonce j < 256)
    (hC : CphR w b K ks) (hK : 2 ≤ K) (hK2 : K ≤ 1000) (hks : ∀ i, i < K → ∀ j, j < 16 → ks i j < 256) :
    Calls Try.prog 43 #[.pointer (some ⟨b, 0, none⟩), .agg (row 12 nonce), vb, vh] w fun e w' => Ext w w' ∧
      ((WholeP K ks nonce nb nh fb fh ∧ ∃ v', e = .returned (.tuple #[v', .int .i64 0]) ∧ RdF w' v' (nb - 16) (hideP K ks nonce fb)) ∨
       (¬ WholeP K ks nonce nb nh fb fh ∧ e = .returned (.tuple #[.slice none 0 0, .int .i64 80]))) := by
  obtain ⟨bo, bc, rfl, hbc⟩ := hvb.len
  obtain ⟨ho, hc, rfl, hhc⟩ := hvh.len
  have HB := Lib.hid hvb
  have HH := Lib.hid hvh
  have HC := Lib.hid hC
  have HKS := Lib.hid hks
  clear hvb hvh hC hks
  have h1' : ¬ (65552 : Int) < (nb : Int) := by omega
  have h2' : ¬ (65536 : Int) < (nh : Int) := by omega
  go_enter Try.func43, Try.ntmps43
  go_upto_region 1 with (refine wl_boxA rfl 55 _ rfl _ rfl ?_)
  have hb0 : Blk (w.alloc (.cells (row 12 nonce) 55)) w.heap.size 55 (row 12 nonce) := Blk.new _ _ _
  have hx0 : Ext w (w.alloc (.cells (row 12 nonce) 55)) := Ext.alloc _ _
  try simp only [put_lit, put_nil7, List.set_cons_succ, List.set_cons_zero]
  generalize w.alloc (.cells (row 12 nonce) 55) = w2 at hb0 hx0 ⊢
  have HN := Lib.hid hb0
  have HX0 := Lib.hid hx0
  clear hb0 hx0
  by_cases h16 : 16 ≤ nb
  · obtain ⟨m, rfl⟩ : ∃ m, nb = m + 16 := ⟨nb - 16, by omega⟩
    have hlt : ¬ (m : Int) < 0 := by omega
    have h3' : ¬ (65552 : Int) < (m : Int) + 16 := by omega
    obtain ⟨g, off, c9, e9, _, hf⟩ := HB.out.form (by omega)
    obtain ⟨rfl, rfl⟩ : bo = some ⟨g, off, none⟩ ∧ bc = c9 := by cases e9; exact ⟨rfl, rfl⟩
    clear e9 hf h16
    have HB1 := Lib.hid (show RdF w2 (.slice (some ⟨g, off, none⟩) m bc) m fb from by
      have h := (HB.out.ext HX0.out).part 0 m bc (by omega) (by omega)
      exact h.congr (fun i _ => by rw [Nat.zero_add]))
    have HB2 := Lib.hid (show RdF w2 (.slice (some ⟨g, off + m, none⟩) 16 (bc - m)) 16 (fun j => fb (m + j)) from (HB.out.ext HX0.out).part m 16 (bc - m) (by omega) (by omega))
    by_cases hW : ∀ i, i < 16 → byP (tagN K ks nonce m nh fb fh) i = fb (m + i)
    · skip
      have HDD := Lib.hid (show eqU 16 16 (byP (tagN K ks nonce m nh fb fh)) (fun j => fb (m + j)) = true from eqU_true rfl hW)
      go_upto_region 6 with fail
      apply wp_region_mid 16 [.det _, .det _, .det _, .det _, .det _, .det _, .det _, .det _, .det _, .any (RdV 16 (byP (tagN K ks nonce m nh fb fh))), .det _, .det _, .det _, .det _, .det _, .det _] (by kernel_rfl) rfl (by kernel_rfl)
      · skip
        (first | (refine wpE_move rfl rfl rfl ?_; simp only [put_lit, eval_lit, BigFrame.eval_const, List.set_cons_succ, List.set_cons_zero, List.getD_cons_succ, List.getD_cons_zero]) | (refine wpE_run rfl rfl (by simp) (fun w1 hx1 _ K hK => by go_step; exact hK _ (Ext.refl _)) ?_; simp only [put_lit, List.set_cons_succ, List.set_cons_zero]))
        (first | (refine wpE_move rfl rfl rfl ?_; simp only [put_lit, eval_lit, BigFrame.eval_const, List.set_cons_succ, List.set_cons_zero, List.getD_cons_succ, List.getD_cons_zero]) | (refine wpE_run rfl rfl (by simp) (fun w1 hx1 _ K hK => by go_step; exact hK _ (Ext.refl _)) ?_; simp only [put_lit, List.set_cons_succ, List.set_cons_zero]))
        (first | (refine wpE_move rfl rfl rfl ?_; simp only [put_lit, eval_lit, BigFrame.eval_const, List.set_cons_succ, List.set_cons_zero, List.getD_cons_succ, List.getD_cons_zero]) | (refine wpE_run rfl rfl (by simp) (fun w1 hx1 _ K hK => by go_step; exact hK _ (Ext.refl _)) ?_; simp only [put_lit, List.set_cons_succ, List.set_cons_zero]))
        (first | (refine wpE_move rfl rfl rfl ?_; simp only [put_lit, eval_lit, BigFrame.eval_const, List.set_cons_succ, List.set_cons_zero, List.getD_cons_succ, List.getD_cons_zero]) | (refine wpE_run rfl rfl (by simp) (fun w1 hx1 _ K hK => by go_step; exact hK _ (Ext.refl _)) ?_; simp only [put_lit, List.set_cons_succ, List.set_cons_zero]))
        refine wpE_run rfl rfl (by simp) (fun w' hx' _ K9 hK9 => wp_loadA 55 _ rfl _ 0 12 rfl agg55 sz55 _ _ (HN.out.ext hx') (by simp [row_size]) (row 12 nonce) (row_whole _ _) (hK9 _ (Ext.refl _))) ?_
        simp only [put_lit, List.set_cons_succ, List.set_cons_zero]
        (first | (refine wpE_move rfl rfl rfl ?_; simp only [put_lit, eval_lit, BigFrame.eval_const, List.set_cons_succ, List.set_cons_zero, List.getD_cons_succ, List.getD_cons_zero]) | (refine wpE_run rfl rfl (by simp) (fun w1 hx1 _ K hK => by go_step; exact hK _ (Ext.refl _)) ?_; simp only [put_lit, List.set_cons_succ, List.set_cons_zero]))
        (first | (refine wpE_move rfl rfl rfl ?_; simp only [put_lit, eval_lit, BigFrame.eval_const, List.set_cons_succ, List.set_cons_zero, List.getD_cons_succ, List.getD_cons_zero]) | (refine wpE_run rfl rfl (by simp) (fun w1 hx1 _ K hK => by go_step; exact hK _ (Ext.refl _)) ?_; simp only [put_lit, List.set_cons_succ, List.set_cons_zero]))
        (first | (refine wpE_move rfl rfl rfl ?_; simp only [put_lit, eval_lit, BigFrame.eval_const, List.set_cons_succ, List.set_cons_zero, List.getD_cons_succ, List.getD_cons_zero]) | (refine wpE_run rfl rfl (by simp) (fun w1 hx1 _ K hK => by go_step; exact hK _ (Ext.refl _)) ?_; simp only [put_lit, List.set_cons_succ, List.set_cons_zero]))
        (first | (refine wpE_move rfl rfl rfl ?_; simp only [put_lit, eval_lit, BigFrame.eval_const, List.set_cons_succ, List.set_cons_zero, List.getD_cons_succ, List.getD_cons_zero]) | (refine wpE_run rfl rfl (by simp) (fun w1 hx1 _ K hK => by go_step; exact hK _ (Ext.refl _)) ?_; simp only [put_lit, List.set_cons_succ, List.set_cons_zero]))
        refine wpE_any (V := RdV 16 (byP (tagN K ks nonce m nh fb fh))) rfl (fun _ _ _ hx h => h.mono hx) rfl (by simp) (fun w1 hx1 _ K9 hK9 => by go_wp2_with (go_at_call 65; refine (reftag65_any _ _ m nh b K fb fh nonce ks _ (by omega) (by omega) (HB1.out.ext hx1) (HH.out.ext (HX0.out.trans hx1)) hNl (HC.out.ext (HX0.out.trans hx1)) hK hK2 HKS.out).mono ?_; rintro e w2 ⟨v2, rfl, ho2, hx2⟩; exact hK9 _ _ hx2 ho2.rd)) ?_
        intro u33
        simp only [put_lit, List.set_cons_succ, List.set_cons_zero]
        (first | (refine wpE_move rfl rfl rfl ?_; simp only [put_lit, eval_lit, BigFrame.eval_const, List.set_cons_succ, List.set_cons_zero, List.getD_cons_succ, List.getD_cons_zero]) | (refine wpE_run rfl rfl (by simp) (fun w1 hx1 _ K hK => by go_step; exact hK _ (Ext.refl _)) ?_; simp only [put_lit, List.set_cons_succ, List.set_cons_zero]))
        (first | (refine wpE_move rfl rfl rfl ?_; simp only [put_lit, eval_lit, BigFrame.eval_const, List.set_cons_succ, List.set_cons_zero, List.getD_cons_succ, List.getD_cons_zero]) | (refine wpE_run rfl rfl (by simp) (fun w1 hx1 _ K hK => by go_step; exact hK _ (Ext.refl _)) ?_; simp only [put_lit, List.set_cons_succ, List.set_cons_zero]))
        (first | (refine wpE_move rfl rfl rfl ?_; simp only [put_lit, eval_lit, BigFrame.eval_const, List.set_cons_succ, List.set_cons_zero, List.getD_cons_succ, List.getD_cons_zero]) | (refine wpE_run rfl rfl (by simp) (fun w1 hx1 _ K hK => by go_step; exact hK _ (Ext.refl _)) ?_; simp only [put_lit, List.set_cons_succ, List.set_cons_zero]))
        refine wpE_run rfl rfl (by simp) (fun w1 hx1 hfc K9 hK9 => by have hr := Lib.hid (show RdF w1 u33 16 (byP (tagN K ks nonce m nh fb fh)) from hfc _ (List.mem_cons_self ..) (by show (33 : Nat) ∈ _; decide)); clear hfc; go_wp2_with (go_at_call 41; refine (eqb41_any _ _ 16 16 _ _ _ hr.out (HB2.out.ext hx1)).mono ?_; rintro e w2 ⟨rfl, hx2⟩; exact hK9 _ hx2)) ?_
        simp only [put_lit, List.set_cons_succ, List.set_cons_zero]
        rw [HDD.out]
        (first | (refine wpE_move rfl rfl rfl ?_; simp only [put_lit, eval_lit, BigFrame.eval_const, List.set_cons_succ, List.set_cons_zero, List.getD_cons_succ, List.getD_cons_zero]) | (refine wpE_run rfl rfl (by simp) (fun w1 hx1 _ K hK => by go_step; exact hK _ (Ext.refl _)) ?_; simp only [put_lit, List.set_cons_succ, List.set_cons_zero]))
        (first | (refine wpE_move rfl rfl rfl ?_; simp only [put_lit, eval_lit, BigFrame.eval_const, List.set_cons_succ, List.set_cons_zero, List.getD_cons_succ, List.getD_cons_zero]) | (refine wpE_run rfl rfl (by simp) (fun w1 hx1 _ K hK => by go_step; exact hK _ (Ext.refl _)) ?_; simp only [put_lit, List.set_cons_succ, List.set_cons_zero]))
        (refine wpE_nil ?_; intro w2 hw2 hF; simp only [List.drop_succ_cons, List.drop_zero])
        clear hF
        have HX5 := Lib.hid (HX0.out.trans hw2)
        have HW5 := Lib.hid hw2
        have HN5 := Lib.hid (HN.out.ext hw2)
        clear hw2 HN
        have HN := HN5
        clear HN5
        go_upto_region 8 with fail
        apply wp_region_mid 8 [.det _, .det _, .det _, .det _, .det _, .any (RdV m (hideP K ks nonce fb)), .any (RdV m (hideP K ks nonce fb)), .det _] (by kernel_rfl) rfl (by kernel_rfl)
        · skip
          (first | (refine wpE_move rfl rfl rfl ?_; simp only [put_lit, eval_lit, BigFrame.eval_const, List.set_cons_succ, List.set_cons_zero, List.getD_cons_succ, List.getD_cons_zero]) | (refine wpE_run rfl rfl (by simp) (fun w1 hx1 _ K hK => by go_step; exact hK _ (Ext.refl _)) ?_; simp only [put_lit, List.set_cons_succ, List.set_cons_zero]))
          refine wpE_run rfl rfl (by simp) (fun w' hx' _ K9 hK9 => wp_loadA 55 _ rfl _ 0 12 rfl agg55 sz55 _ _ (HN.out.ext hx') (by simp [row_size]) (row 12 nonce) (row_whole _ _) (hK9 _ (Ext.refl _))) ?_
          simp only [put_lit, List.set_cons_succ, List.set_cons_zero]
          (first | (refine wpE_move rfl rfl rfl ?_; simp only [put_lit, eval_lit, BigFrame.eval_const, List.set_cons_succ, List.set_cons_zero, List.getD_cons_succ, List.getD_cons_zero]) | (refine wpE_run rfl rfl (by simp) (fun w1 hx1 _ K hK => by go_step; exact hK _ (Ext.refl _)) ?_; simp only [put_lit, List.set_cons_succ, List.set_cons_zero]))
          (first | (refine wpE_move rfl rfl rfl ?_; simp only [put_lit, eval_lit, BigFrame.eval_const, List.set_cons_succ, List.set_cons_zero, List.getD_cons_succ, List.getD_cons_zero]) | (refine wpE_run rfl rfl (by simp) (fun w1 hx1 _ K hK => by go_step; exact hK _ (Ext.refl _)) ?_; simp only [put_lit, List.set_cons_succ, List.set_cons_zero]))
          (first | (refine wpE_move rfl rfl rfl ?_; simp only [put_lit, eval_lit, BigFrame.eval_const, List.set_cons_succ, List.set_cons_zero, List.getD_cons_succ, List.getD_cons_zero]) | (refine wpE_run rfl rfl (by simp) (fun w1 hx1 _ K hK => by go_step; exact hK _ (Ext.refl _)) ?_; simp only [put_lit, List.set_cons_succ, List.set_cons_zero]))
          refine wpE_any (V := RdV m (hideP K ks nonce fb)) rfl (fun _ _ _ hx h => h.mono hx) rfl (by simp) (fun w1 hx1 _ K9 hK9 => by go_wp2_with (go_at_call 64; refine (hidden64_any _ m b K fb nonce ks _ (by omega) (HB1.out.ext (HW5.out.trans hx1)) hNl (HC.out.ext (HX5.out.trans hx1)) hK hK2 HKS.out).mono ?_; rintro e w2 ⟨v2, rfl, ho2, hx2⟩; exact hK9 _ _ hx2 ho2.rd)) ?_
          intro u45
          simp only [put_lit, List.set_cons_succ, List.set_cons_zero]
          refine wpE_any (V := RdV m (hideP K ks nonce fb)) rfl (fun _ _ _ hx h => h.mono hx) rfl (by simp) (fun w1 hx1 hfc K9 hK9 => by have hr := hfc (45, RdV m (hideP K ks nonce fb) u45) (by simp) (by show (45 : Nat) ∈ _; decide); go_step; exact hK9 _ _ (Ext.refl _) hr) ?_
          intro u8
          simp only [put_lit, List.set_cons_succ, List.set_cons_zero]
          (first | (refine wpE_move rfl rfl rfl ?_; simp only [put_lit, eval_lit, BigFrame.eval_const, List.set_cons_succ, List.set_cons_zero, List.getD_cons_succ, List.getD_cons_zero]) | (refine wpE_run rfl rfl (by simp) (fun w1 hx1 _ K hK => by go_step; exact hK _ (Ext.refl _)) ?_; simp only [put_lit, List.set_cons_succ, List.set_cons_zero]))
          refine wpE_nil ?_
          intro w6 hw6 hF
          simp only [List.drop_succ_cons, List.drop_zero]
          have HR6 := Lib.hid (show RdF w6 u8 m (hideP K ks nonce fb) from hF _ (List.mem_cons_self ..))
          have HX6 := Lib.hid (HX5.out.trans hw6)
          clear hF hw6
          go_wp2_with fail
          refine bodyPost_ret (v := .tuple #[u8, .int .i64 0]) (by kernel_rfl) rfl ?_
          exact ⟨HX6.out, .inl ⟨⟨by omega, fun j hj => by rw [Nat.add_sub_cancel]; exact hW j hj⟩, u8, rfl, by first | exact HR6.out | (rw [Nat.add_sub_cancel]; exact HR6.out)⟩⟩
    · skip
      have HDD := Lib.hid (show eqU 16 16 (byP (tagN K ks nonce m nh fb fh)) (fun j => fb (m + j)) = false from eqU_false (fun h => hW h.2))
      go_upto_region 6 with fail
      apply wp_region_mid 16 [.det _, .det _, .det _, .det _, .det _, .det _, .det _, .det _, .det _, .any (RdV 16 (byP (tagN K ks nonce m nh fb fh))), .det _, .det _, .det _, .det _, .det _, .det _] (by kernel_rfl) rfl (by kernel_rfl)
      · skip
        (first | (refine wpE_move rfl rfl rfl ?_; simp only [put_lit, eval_lit, BigFrame.eval_const, List.set_cons_succ, List.set_cons_zero, List.getD_cons_succ, List.getD_cons_zero]) | (refine wpE_run rfl rfl (by simp) (fun w1 hx1 _ K hK => by go_step; exact hK _ (Ext.refl _)) ?_; simp only [put_lit, List.set_cons_succ, List.set_cons_zero]))
        (first | (refine wpE_move rfl rfl rfl ?_; simp only [put_lit, eval_lit, BigFrame.eval_const, List.set_cons_succ, List.set_cons_zero, List.getD_cons_succ, List.getD_cons_zero]) | (refine wpE_run rfl rfl (by simp) (fun w1 hx1 _ K hK => by go_step; exact hK _ (Ext.refl _)) ?_; simp only [put_lit, List.set_cons_succ, List.set_cons_zero]))
        (first | (refine wpE_move rfl rfl rfl ?_; simp only [put_lit, eval_lit, BigFrame.eval_const, List.set_cons_succ, List.set_cons_zero, List.getD_cons_succ, List.getD_cons_zero]) | (refine wpE_run rfl rfl (by simp) (fun w1 hx1 _ K hK => by go_step; exact hK _ (Ext.refl _)) ?_; simp only [put_lit, List.set_cons_succ, List.set_cons_zero]))
        (first | (refine wpE_move rfl rfl rfl ?_; simp only [put_lit, eval_lit, BigFrame.eval_const, List.set_cons_succ, List.set_cons_zero, List.getD_cons_succ, List.getD_cons_zero]) | (refine wpE_run rfl rfl (by simp) (fun w1 hx1 _ K hK => by go_step; exact hK _ (Ext.refl _)) ?_; simp only [put_lit, List.set_cons_succ, List.set_cons_zero]))
        refine wpE_run rfl rfl (by simp) (fun w' hx' _ K9 hK9 => wp_loadA 55 _ rfl _ 0 12 rfl agg55 sz55 _ _ (HN.out.ext hx') (by simp [row_size]) (row 12 nonce) (row_whole _ _) (hK9 _ (Ext.refl _))) ?_
        simp only [put_lit, List.set_cons_succ, List.set_cons_zero]
        (first | (refine wpE_move rfl rfl rfl ?_; simp only [put_lit, eval_lit, BigFrame.eval_const, List.set_cons_succ, List.set_cons_zero, List.getD_cons_succ, List.getD_cons_zero]) | (refine wpE_run rfl rfl (by simp) (fun w1 hx1 _ K hK => by go_step; exact hK _ (Ext.refl _)) ?_; simp only [put_lit, List.set_cons_succ, List.set_cons_zero]))
        (first | (refine wpE_move rfl rfl rfl ?_; simp only [put_lit, eval_lit, BigFrame.eval_const, List.set_cons_succ, List.set_cons_zero, List.getD_cons_succ, List.getD_cons_zero]) | (refine wpE_run rfl rfl (by simp) (fun w1 hx1 _ K hK => by go_step; exact hK _ (Ext.refl _)) ?_; simp only [put_lit, List.set_cons_succ, List.set_cons_zero]))
        (first | (refine wpE_move rfl rfl rfl ?_; simp only [put_lit, eval_lit, BigFrame.eval_const, List.set_cons_succ, List.set_cons_zero, List.getD_cons_succ, List.getD_cons_zero]) | (refine wpE_run rfl rfl (by simp) (fun w1 hx1 _ K hK => by go_step; exact hK _ (Ext.refl _)) ?_; simp only [put_lit, List.set_cons_succ, List.set_cons_zero]))
        (first | (refine wpE_move rfl rfl rfl ?_; simp only [put_lit, eval_lit, BigFrame.eval_const, List.set_cons_succ, List.set_cons_zero, List.getD_cons_succ, List.getD_cons_zero]) | (refine wpE_run rfl rfl (by simp) (fun w1 hx1 _ K hK => by go_step; exact hK _ (Ext.refl _)) ?_; simp only [put_lit, List.set_cons_succ, List.set_cons_zero]))
        refine wpE_any (V := RdV 16 (byP (tagN K ks nonce m nh fb fh))) rfl (fun _ _ _ hx h => h.mono hx) rfl (by simp) (fun w1 hx1 _ K9 hK9 => by go_wp2_with (go_at_call 65; refine (reftag65_any _ _ m nh b K fb fh nonce ks _ (by omega) (by omega) (HB1.out.ext hx1) (HH.out.ext (HX0.out.trans hx1)) hNl (HC.out.ext (HX0.out.trans hx1)) hK hK2 HKS.out).mono ?_; rintro e w2 ⟨v2, rfl, ho2, hx2⟩; exact hK9 _ _ hx2 ho2.rd)) ?_
        intro u33
        simp only [put_lit, List.set_cons_succ, List.set_cons_zero]
        (first | (refine wpE_move rfl rfl rfl ?_; simp only [put_lit, eval_lit, BigFrame.eval_const, List.set_cons_succ, List.set_cons_zero, List.getD_cons_succ, List.getD_cons_zero]) | (refine wpE_run rfl rfl (by simp) (fun w1 hx1 _ K hK => by go_step; exact hK _ (Ext.refl _)) ?_; simp only [put_lit, List.set_cons_succ, List.set_cons_zero]))
        (first | (refine wpE_move rfl rfl rfl ?_; simp only [put_lit, eval_lit, BigFrame.eval_const, List.set_cons_succ, List.set_cons_zero, List.getD_cons_succ, List.getD_cons_zero]) | (refine wpE_run rfl rfl (by simp) (fun w1 hx1 _ K hK => by go_step; exact hK _ (Ext.refl _)) ?_; simp only [put_lit, List.set_cons_succ, List.set_cons_zero]))
        (first | (refine wpE_move rfl rfl rfl ?_; simp only [put_lit, eval_lit, BigFrame.eval_const, List.set_cons_succ, List.set_cons_zero, List.getD_cons_succ, List.getD_cons_zero]) | (refine wpE_run rfl rfl (by simp) (fun w1 hx1 _ K hK => by go_step; exact hK _ (Ext.refl _)) ?_; simp only [put_lit, List.set_cons_succ, List.set_cons_zero]))
        refine wpE_run rfl rfl (by simp) (fun w1 hx1 hfc K9 hK9 => by have hr := Lib.hid (show RdF w1 u33 16 (byP (tagN K ks nonce m nh fb fh)) from hfc _ (List.mem_cons_self ..) (by show (33 : Nat) ∈ _; decide)); clear hfc; go_wp2_with (go_at_call 41; refine (eqb41_any _ _ 16 16 _ _ _ hr.out (HB2.out.ext hx1)).mono ?_; rintro e w2 ⟨rfl, hx2⟩; exact hK9 _ hx2)) ?_
        simp only [put_lit, List.set_cons_succ, List.set_cons_zero]
        rw [HDD.out]
        (first | (refine wpE_move rfl rfl rfl ?_; simp only [put_lit, eval_lit, BigFrame.eval_const, List.set_cons_succ, List.set_cons_zero, List.getD_cons_succ, List.getD_cons_zero]) | (refine wpE_run rfl rfl (by simp) (fun w1 hx1 _ K hK => by go_step; exact hK _ (Ext.refl _)) ?_; simp only [put_lit, List.set_cons_succ, List.set_cons_zero]))
        (first | (refine wpE_move rfl rfl rfl ?_; simp only [put_lit, eval_lit, BigFrame.eval_const, List.set_cons_succ, List.set_cons_zero, List.getD_cons_succ, List.getD_cons_zero]) | (refine wpE_run rfl rfl (by simp) (fun w1 hx1 _ K hK => by go_step; exact hK _ (Ext.refl _)) ?_; simp only [put_lit, List.set_cons_succ, List.set_cons_zero]))
        (refine wpE_nil ?_; intro w2 hw2 hF; simp only [List.drop_succ_cons, List.drop_zero])
        clear hF
        have HX5 := Lib.hid (HX0.out.trans hw2)
        clear hw2
        go_wp2_with fail
        refine bodyPost_ret (v := .tuple #[.slice none 0 0, .int .i64 80]) (by kernel_rfl) rfl ?_
        exact ⟨HX5.out, .inr ⟨fun h => hW (fun j hj => by have := h.2 j hj; rw [Nat.add_sub_cancel] at this; exact this), rfl⟩⟩
  · have hlt : (nb : Int) - 16 < 0 := by omega
    have hnw : ¬ WholeP K ks nonce nb nh fb fh := fun h => h16 h.1
    have HNW := Lib.hid hnw
    clear hnw
    go_upto_region 6 with fail
    apply wp_region_mid 16 [.det _, .det _, .det _, .det _, .det _, .det _, .det _, .det _, .det _, .det _, .det _, .det _, .det _, .det _, .det _, .det _] (by kernel_rfl) rfl (by kernel_rfl)
    · skip
      (first | (refine wpE_move rfl rfl rfl ?_; simp only [put_lit, eval_lit, BigFrame.eval_const, List.set_cons_succ, List.set_cons_zero, List.getD_cons_succ, List.getD_cons_zero]) | (refine wpE_run rfl rfl (by simp) (fun w1 hx1 _ K hK => by go_step; exact hK _ (Ext.refl _)) ?_; simp only [put_lit, List.set_cons_succ, List.set_cons_zero]))
      (first | (refine wpE_move rfl rfl rfl ?_; simp only [put_lit, eval_lit, BigFrame.eval_const, List.set_cons_succ, List.set_cons_zero, List.getD_cons_succ, List.getD_cons_zero]) | (refine wpE_run rfl rfl (by simp) (fun w1 hx1 _ K hK => by go_step; exact hK _ (Ext.refl _)) ?_; simp only [put_lit, List.set_cons_succ, List.set_cons_zero]))
      (first | (refine wpE_move rfl rfl rfl ?_; simp only [put_lit, eval_lit, BigFrame.eval_const, List.set_cons_succ, List.set_cons_zero, List.getD_cons_succ, List.getD_cons_zero]) | (refine wpE_run rfl rfl (by simp) (fun w1 hx1 _ K hK => by go_step; exact hK _ (Ext.refl _)) ?_; simp only [put_lit, List.set_cons_succ, List.set_cons_zero]))
      refine wpE_skip rfl ?_
      simp only [put_lit, List.set_cons_succ, List.set_cons_zero]
      refine wpE_skip rfl ?_
      simp only [put_lit, List.set_cons_succ, List.set_cons_zero]
      refine wpE_skip rfl ?_
      simp only [put_lit, List.set_cons_succ, List.set_cons_zero]
      refine wpE_skip rfl ?_
      simp only [put_lit, List.set_cons_succ, List.set_cons_zero]
      refine wpE_skip rfl ?_
      simp only [put_lit, List.set_cons_succ, List.set_cons_zero]
      refine wpE_skip rfl ?_
      simp only [put_lit, List.set_cons_succ, List.set_cons_zero]
      refine wpE_skip rfl ?_
      simp only [put_lit, List.set_cons_succ, List.set_cons_zero]
      refine wpE_skip rfl ?_
      simp only [put_lit, List.set_cons_succ, List.set_cons_zero]
      refine wpE_skip rfl ?_
      simp only [put_lit, List.set_cons_succ, List.set_cons_zero]
      refine wpE_skip rfl ?_
      simp only [put_lit, List.set_cons_succ, List.set_cons_zero]
      refine wpE_skip rfl ?_
      simp only [put_lit, List.set_cons_succ, List.set_cons_zero]
      refine wpE_skip rfl ?_
      simp only [put_lit, List.set_cons_succ, List.set_cons_zero]
      (first | (refine wpE_move rfl rfl rfl ?_; simp only [put_lit, eval_lit, BigFrame.eval_const, List.set_cons_succ, List.set_cons_zero, List.getD_cons_succ, List.getD_cons_zero]) | (refine wpE_run rfl rfl (by simp) (fun w1 hx1 _ K hK => by go_step; exact hK _ (Ext.refl _)) ?_; simp only [put_lit, List.set_cons_succ, List.set_cons_zero]))
      (refine wpE_nil ?_; intro w2 hw2 hF; simp only [List.drop_succ_cons, List.drop_zero])
      have HX5 := Lib.hid (HX0.out.trans hw2)
      clear hF hw2
      go_wp2_with fail
      refine bodyPost_ret (v := .tuple #[.slice none 0 0, .int .i64 80]) (by kernel_rfl) rfl ?_
      exact ⟨HX5.out, .inr ⟨HNW.out, rfl⟩⟩
end Go.Proofs.Ytnigpobbckampaa
