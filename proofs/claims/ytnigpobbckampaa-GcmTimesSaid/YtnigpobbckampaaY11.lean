/- Open, walked. -/
import Derived.Test.YtnigpobbckampaaY9
namespace Go.Proofs.Ytnigpobbckampaa
open Go.RowKit
set_option linter.unusedSimpArgs false
set_option linter.unusedVariables false

/-- A tag's bytes, wherever they come to lie. -/
def TagAt (X : Nat → Nat) (v : Value) (w : World) : Prop := ∃ g, v = .slice (some ⟨g, 0, none⟩) 16 16 ∧ Blk w g 23 (row 16 X)
theorem TagAt.rd {X : Nat → Nat} {v : Value} {w : World} (hX : ∀ j, j < 16 → X j < 256) (h : TagAt X v w) : RdF w v 16 X := by
  obtain ⟨g, rfl, hb⟩ := h
  exact ⟨_, _, rfl, Nat.le_refl _, fun h => (by cases h), fun i hi => ⟨hX i hi, _, rfl, by rw [Addr.add_lit, Nat.zero_add]; exact hb.byte i hi⟩⟩

/-- A box that is whole. -/
def WholeP (K : Nat) (ks : Nat → Nat → Nat) (nonce : Nat → Nat) (nb nh : Nat) (fb fh : Nat → Nat) : Prop := 16 ≤ nb ∧ ∀ j, j < 16 → byP (tagN K ks nonce (nb - 16) nh fb fh) j = fb (nb - 16 + j)

set_option maxRecDepth 100000 in
set_option maxHeartbeats 1000000 in
theorem open42_any (vb vh : Value) (nb nh b K : Nat) (fb fh nonce : Nat → Nat) (ks : Nat → Nat → Nat) (w : World) (hn : nb ≤ 65552) (hnh : nh ≤ 65536) (hvb : RdF w vb nb fb) (hvh : RdF w vh nh fh) (hNl : ∀ j, j < 12 → nonce j < 256)
    (hC : Cph w b K ks) (hK : 2 ≤ K) (hK2 : K ≤ 1000) :
    Calls Try.prog 42 #[.pointer (some ⟨b, 0, none⟩), .agg (row 12 nonce), vb, vh] w fun e w' => Ext w w' ∧
      ((WholeP K ks nonce nb nh fb fh ∧ ∃ v', e = .returned (.tuple #[v', .int .i64 0]) ∧ OwnF w' w.heap.size v' (nb - 16) (hideP K ks nonce fb)) ∨
       (¬ WholeP K ks nonce nb nh fb fh ∧ e = .returned (.tuple #[.slice none 0 0, .int .i64 80]))) := by
  obtain ⟨bo, bc, rfl, hbc⟩ := hvb.len
  obtain ⟨ho, hc, rfl, hhc⟩ := hvh.len
  have HB := Lib.hid hvb
  have HH := Lib.hid hvh
  have HC := Lib.hid hC
  clear hvb hvh hC
  go_enter Try.func42, Try.ntmps42
  go_upto_region 1 with (refine wl_boxA rfl 55 _ rfl _ rfl ?_)
  have hb0 : Blk (w.alloc (.cells (row 12 nonce) 55)) w.heap.size 55 (row 12 nonce) := Blk.new _ _ _
  have hx0 : Ext w (w.alloc (.cells (row 12 nonce) 55)) := Ext.alloc _ _
  try simp only [put_lit, put_nil7, List.set_cons_succ, List.set_cons_zero]
  generalize w.alloc (.cells (row 12 nonce) 55) = w0 at hb0 hx0 ⊢
  have HB0 := Lib.hid hb0
  have HX0 := Lib.hid hx0
  clear hb0 hx0
  go_wp2_with fail
  refine (asked_ok b bo ho nb bc nh hc 65552 _ hn hnh).mono ?_
  rintro e w1 ⟨rfl, rfl⟩
  go_wp2_with (refine wl_loadA rfl 55 _ rfl _ 0 12 rfl agg55 sz55 _ _ HB0.out (by simp [row_size]) (row 12 nonce) (row_whole _ _) ?_)
  refine (counted61_any b nonce _).mono ?_
  rintro e w2 ⟨rfl, hw2⟩
  have hgn : Blk w2 (w0.heap.size + 1) 55 (row 12 nonce) := by
    rw [hw2]
    have := Blk.new (w0.alloc (.cells #[.pointer (some ⟨b, 0, none⟩)] 25)) 55 (row 12 nonce)
    simpa only [World.size_alloc] using this
  have hgc : w2.cell? ⟨w0.heap.size, 0, none⟩ = some (.pointer (some ⟨b, 0, none⟩)) := by
    rw [hw2]
    exact (((Blk.new w0 25 #[.pointer (some ⟨b, 0, none⟩)]).alloc (.cells (row 12 nonce) 55)).cell 0).trans rfl
  have hx2 : Ext w w2 := by
    rw [hw2]
    exact (HX0.out.trans (Ext.alloc _ _)).trans (Ext.alloc _ _)
  generalize w0.heap.size = gc at hgn hgc ⊢
  have HGN := Lib.hid hgn
  have HGC := Lib.hid hgc
  have HX2 := Lib.hid hx2
  clear hgn hgc hx2 hw2 HB0 HX0
  by_cases h16 : 16 ≤ nb
  · obtain ⟨m, rfl⟩ : ∃ m, nb = m + 16 := ⟨nb - 16, by omega⟩
    have hlt : ¬ (m : Int) < 0 := by omega
    obtain ⟨g, off, c9, e9, _, hf⟩ := HB.out.form (by omega)
    obtain ⟨rfl, rfl⟩ : bo = some ⟨g, off, none⟩ ∧ bc = c9 := by cases e9; exact ⟨rfl, rfl⟩
    clear e9 hf h16
    have HB1 := Lib.hid (show RdF w2 (.slice (some ⟨g, off, none⟩) m bc) m fb from by
      have h := (HB.out.ext HX2.out).part 0 m bc (by omega) (by omega)
      exact h.congr (fun i _ => by rw [Nat.zero_add]))
    have HB2 := Lib.hid (show RdF w2 (.slice (some ⟨g, off + m, none⟩) 16 (bc - m)) 16 (fun j => fb (m + j)) from (HB.out.ext HX2.out).part m 16 (bc - m) (by omega) (by omega))
    by_cases hW : ∀ i, i < 16 → byP (tagN K ks nonce m nh fb fh) i = fb (m + i)
    · skip
      have HDD := Lib.hid (show eqU 16 16 (byP (tagN K ks nonce m nh fb fh)) (fun j => fb (m + j)) = true from eqU_true rfl hW)
      go_upto_region 6 with fail
      apply wp_region_mid 16 [.det _, .det _, .det _, .det _, .det _, .det _, .det _, .det _, .det _, .any (TagAt (byP (tagN K ks nonce m nh fb fh))), .det _, .det _, .det _, .det _, .det _, .det _] (by kernel_rfl) rfl (by kernel_rfl)
      · skip
        (first | (refine wpE_move rfl rfl rfl ?_; simp only [put_lit, eval_lit, BigFrame.eval_const, List.set_cons_succ, List.set_cons_zero, List.getD_cons_succ, List.getD_cons_zero]) | (refine wpE_run rfl rfl (by simp) (fun w1 hx1 _ K hK => by go_step; exact hK _ (Ext.refl _)) ?_; simp only [put_lit, List.set_cons_succ, List.set_cons_zero]))
        (first | (refine wpE_move rfl rfl rfl ?_; simp only [put_lit, eval_lit, BigFrame.eval_const, List.set_cons_succ, List.set_cons_zero, List.getD_cons_succ, List.getD_cons_zero]) | (refine wpE_run rfl rfl (by simp) (fun w1 hx1 _ K hK => by go_step; exact hK _ (Ext.refl _)) ?_; simp only [put_lit, List.set_cons_succ, List.set_cons_zero]))
        (first | (refine wpE_move rfl rfl rfl ?_; simp only [put_lit, eval_lit, BigFrame.eval_const, List.set_cons_succ, List.set_cons_zero, List.getD_cons_succ, List.getD_cons_zero]) | (refine wpE_run rfl rfl (by simp) (fun w1 hx1 _ K hK => by go_step; exact hK _ (Ext.refl _)) ?_; simp only [put_lit, List.set_cons_succ, List.set_cons_zero]))
        (first | (refine wpE_move rfl rfl rfl ?_; simp only [put_lit, eval_lit, BigFrame.eval_const, List.set_cons_succ, List.set_cons_zero, List.getD_cons_succ, List.getD_cons_zero]) | (refine wpE_run rfl rfl (by simp) (fun w1 hx1 _ K hK => by go_step; exact hK _ (Ext.refl _)) ?_; simp only [put_lit, List.set_cons_succ, List.set_cons_zero]))
        (first | (refine wpE_move rfl rfl rfl ?_; simp only [put_lit, eval_lit, BigFrame.eval_const, List.set_cons_succ, List.set_cons_zero, List.getD_cons_succ, List.getD_cons_zero]) | (refine wpE_run rfl rfl (by simp) (fun w1 hx1 _ K hK => by go_step; exact hK _ (Ext.refl _)) ?_; simp only [put_lit, List.set_cons_succ, List.set_cons_zero]))
        (first | (refine wpE_move rfl rfl rfl ?_; simp only [put_lit, eval_lit, BigFrame.eval_const, List.set_cons_succ, List.set_cons_zero, List.getD_cons_succ, List.getD_cons_zero]) | (refine wpE_run rfl rfl (by simp) (fun w1 hx1 _ K hK => by go_step; exact hK _ (Ext.refl _)) ?_; simp only [put_lit, List.set_cons_succ, List.set_cons_zero]))
        (first | (refine wpE_move rfl rfl rfl ?_; simp only [put_lit, eval_lit, BigFrame.eval_const, List.set_cons_succ, List.set_cons_zero, List.getD_cons_succ, List.getD_cons_zero]) | (refine wpE_run rfl rfl (by simp) (fun w1 hx1 _ K hK => by go_step; exact hK _ (Ext.refl _)) ?_; simp only [put_lit, List.set_cons_succ, List.set_cons_zero]))
        (first | (refine wpE_move rfl rfl rfl ?_; simp only [put_lit, eval_lit, BigFrame.eval_const, List.set_cons_succ, List.set_cons_zero, List.getD_cons_succ, List.getD_cons_zero]) | (refine wpE_run rfl rfl (by simp) (fun w1 hx1 _ K hK => by go_step; exact hK _ (Ext.refl _)) ?_; simp only [put_lit, List.set_cons_succ, List.set_cons_zero]))
        (first | (refine wpE_move rfl rfl rfl ?_; simp only [put_lit, eval_lit, BigFrame.eval_const, List.set_cons_succ, List.set_cons_zero, List.getD_cons_succ, List.getD_cons_zero]) | (refine wpE_run rfl rfl (by simp) (fun w1 hx1 _ K hK => by go_step; exact hK _ (Ext.refl _)) ?_; simp only [put_lit, List.set_cons_succ, List.set_cons_zero]))
        refine wpE_any (V := TagAt (byP (tagN K ks nonce m nh fb fh))) rfl (fun _ _ _ hx h => by obtain ⟨g, e, h⟩ := h; exact ⟨g, e, h.ext hx⟩) rfl (by simp) (fun w1 hx1 _ K9 hK9 => by go_wp2_with (go_at_call 63; refine (tag63_any _ _ m nh (gc + 1) gc b K fb fh nonce ks _ (by omega) (by omega) (HB1.out.ext hx1) (HH.out.ext (HX2.out.trans hx1)) (HGN.out.ext hx1) hNl (hx1.cell HGC.out) (HC.out.ext (HX2.out.trans hx1)) hK hK2).mono ?_; rintro e w2 ⟨g2, rfl, _, hb2, hx2⟩; exact hK9 _ _ hx2 ⟨g2, rfl, hb2⟩)) ?_
        intro u35
        simp only [put_lit, List.set_cons_succ, List.set_cons_zero]
        (first | (refine wpE_move rfl rfl rfl ?_; simp only [put_lit, eval_lit, BigFrame.eval_const, List.set_cons_succ, List.set_cons_zero, List.getD_cons_succ, List.getD_cons_zero]) | (refine wpE_run rfl rfl (by simp) (fun w1 hx1 _ K hK => by go_step; exact hK _ (Ext.refl _)) ?_; simp only [put_lit, List.set_cons_succ, List.set_cons_zero]))
        (first | (refine wpE_move rfl rfl rfl ?_; simp only [put_lit, eval_lit, BigFrame.eval_const, List.set_cons_succ, List.set_cons_zero, List.getD_cons_succ, List.getD_cons_zero]) | (refine wpE_run rfl rfl (by simp) (fun w1 hx1 _ K hK => by go_step; exact hK _ (Ext.refl _)) ?_; simp only [put_lit, List.set_cons_succ, List.set_cons_zero]))
        (first | (refine wpE_move rfl rfl rfl ?_; simp only [put_lit, eval_lit, BigFrame.eval_const, List.set_cons_succ, List.set_cons_zero, List.getD_cons_succ, List.getD_cons_zero]) | (refine wpE_run rfl rfl (by simp) (fun w1 hx1 _ K hK => by go_step; exact hK _ (Ext.refl _)) ?_; simp only [put_lit, List.set_cons_succ, List.set_cons_zero]))
        refine wpE_run rfl rfl (by simp) (fun w1 hx1 hfc K9 hK9 => by have ht : TagAt (byP (tagN K ks nonce m nh fb fh)) u35 w1 := hfc _ (List.mem_cons_self ..) (by show (35 : Nat) ∈ _; decide); have hr := Lib.hid (ht.rd (fun j _ => byP_lt _ _)); clear hfc ht; go_wp2_with (go_at_call 66; refine (equal66_any _ _ 16 16 _ _ _ (by omega) (by omega) hr.out (HB2.out.ext hx1)).mono ?_; rintro e w2 ⟨rfl, hx2⟩; exact hK9 _ hx2)) ?_
        simp only [put_lit, List.set_cons_succ, List.set_cons_zero]
        rw [HDD.out]
        (first | (refine wpE_move rfl rfl rfl ?_; simp only [put_lit, eval_lit, BigFrame.eval_const, List.set_cons_succ, List.set_cons_zero, List.getD_cons_succ, List.getD_cons_zero]) | (refine wpE_run rfl rfl (by simp) (fun w1 hx1 _ K hK => by go_step; exact hK _ (Ext.refl _)) ?_; simp only [put_lit, List.set_cons_succ, List.set_cons_zero]))
        (first | (refine wpE_move rfl rfl rfl ?_; simp only [put_lit, eval_lit, BigFrame.eval_const, List.set_cons_succ, List.set_cons_zero, List.getD_cons_succ, List.getD_cons_zero]) | (refine wpE_run rfl rfl (by simp) (fun w1 hx1 _ K hK => by go_step; exact hK _ (Ext.refl _)) ?_; simp only [put_lit, List.set_cons_succ, List.set_cons_zero]))
        (refine wpE_nil ?_; intro w5 hw5 hF; simp only [List.drop_succ_cons, List.drop_zero])
        clear hF
        have HX5 := Lib.hid (HX2.out.trans hw5)
        have HW5 := Lib.hid hw5
        clear hw5
        go_wp2_with fail
        refine (hide62_any _ m (gc + 1) gc b K fb nonce ks _ (by omega) (HB1.out.ext HW5.out) (HGN.out.ext HW5.out) hNl (HW5.out.cell HGC.out) (HC.out.ext HX5.out) hK hK2).mono ?_
        rintro e w6 ⟨v6, rfl, ho6, hx6⟩
        have HO6 := Lib.hid (ho6.mono HX5.out.size)
        have HX6 := Lib.hid (HX5.out.trans hx6)
        clear ho6 hx6
        go_wp2_with fail
        refine bodyPost_ret (v := .tuple #[v6, .int .i64 0]) (by kernel_rfl) rfl ?_
        exact ⟨HX6.out, .inl ⟨⟨by omega, fun j hj => by rw [Nat.add_sub_cancel]; exact hW j hj⟩, v6, rfl, by rw [Nat.add_sub_cancel]; exact HO6.out⟩⟩
    · skip
      have HDD := Lib.hid (show eqU 16 16 (byP (tagN K ks nonce m nh fb fh)) (fun j => fb (m + j)) = false from eqU_false (fun h => hW h.2))
      go_upto_region 6 with fail
      apply wp_region_mid 16 [.det _, .det _, .det _, .det _, .det _, .det _, .det _, .det _, .det _, .any (TagAt (byP (tagN K ks nonce m nh fb fh))), .det _, .det _, .det _, .det _, .det _, .det _] (by kernel_rfl) rfl (by kernel_rfl)
      · skip
        (first | (refine wpE_move rfl rfl rfl ?_; simp only [put_lit, eval_lit, BigFrame.eval_const, List.set_cons_succ, List.set_cons_zero, List.getD_cons_succ, List.getD_cons_zero]) | (refine wpE_run rfl rfl (by simp) (fun w1 hx1 _ K hK => by go_step; exact hK _ (Ext.refl _)) ?_; simp only [put_lit, List.set_cons_succ, List.set_cons_zero]))
        (first | (refine wpE_move rfl rfl rfl ?_; simp only [put_lit, eval_lit, BigFrame.eval_const, List.set_cons_succ, List.set_cons_zero, List.getD_cons_succ, List.getD_cons_zero]) | (refine wpE_run rfl rfl (by simp) (fun w1 hx1 _ K hK => by go_step; exact hK _ (Ext.refl _)) ?_; simp only [put_lit, List.set_cons_succ, List.set_cons_zero]))
        (first | (refine wpE_move rfl rfl rfl ?_; simp only [put_lit, eval_lit, BigFrame.eval_const, List.set_cons_succ, List.set_cons_zero, List.getD_cons_succ, List.getD_cons_zero]) | (refine wpE_run rfl rfl (by simp) (fun w1 hx1 _ K hK => by go_step; exact hK _ (Ext.refl _)) ?_; simp only [put_lit, List.set_cons_succ, List.set_cons_zero]))
        (first | (refine wpE_move rfl rfl rfl ?_; simp only [put_lit, eval_lit, BigFrame.eval_const, List.set_cons_succ, List.set_cons_zero, List.getD_cons_succ, List.getD_cons_zero]) | (refine wpE_run rfl rfl (by simp) (fun w1 hx1 _ K hK => by go_step; exact hK _ (Ext.refl _)) ?_; simp only [put_lit, List.set_cons_succ, List.set_cons_zero]))
        (first | (refine wpE_move rfl rfl rfl ?_; simp only [put_lit, eval_lit, BigFrame.eval_const, List.set_cons_succ, List.set_cons_zero, List.getD_cons_succ, List.getD_cons_zero]) | (refine wpE_run rfl rfl (by simp) (fun w1 hx1 _ K hK => by go_step; exact hK _ (Ext.refl _)) ?_; simp only [put_lit, List.set_cons_succ, List.set_cons_zero]))
        (first | (refine wpE_move rfl rfl rfl ?_; simp only [put_lit, eval_lit, BigFrame.eval_const, List.set_cons_succ, List.set_cons_zero, List.getD_cons_succ, List.getD_cons_zero]) | (refine wpE_run rfl rfl (by simp) (fun w1 hx1 _ K hK => by go_step; exact hK _ (Ext.refl _)) ?_; simp only [put_lit, List.set_cons_succ, List.set_cons_zero]))
        (first | (refine wpE_move rfl rfl rfl ?_; simp only [put_lit, eval_lit, BigFrame.eval_const, List.set_cons_succ, List.set_cons_zero, List.getD_cons_succ, List.getD_cons_zero]) | (refine wpE_run rfl rfl (by simp) (fun w1 hx1 _ K hK => by go_step; exact hK _ (Ext.refl _)) ?_; simp only [put_lit, List.set_cons_succ, List.set_cons_zero]))
        (first | (refine wpE_move rfl rfl rfl ?_; simp only [put_lit, eval_lit, BigFrame.eval_const, List.set_cons_succ, List.set_cons_zero, List.getD_cons_succ, List.getD_cons_zero]) | (refine wpE_run rfl rfl (by simp) (fun w1 hx1 _ K hK => by go_step; exact hK _ (Ext.refl _)) ?_; simp only [put_lit, List.set_cons_succ, List.set_cons_zero]))
        (first | (refine wpE_move rfl rfl rfl ?_; simp only [put_lit, eval_lit, BigFrame.eval_const, List.set_cons_succ, List.set_cons_zero, List.getD_cons_succ, List.getD_cons_zero]) | (refine wpE_run rfl rfl (by simp) (fun w1 hx1 _ K hK => by go_step; exact hK _ (Ext.refl _)) ?_; simp only [put_lit, List.set_cons_succ, List.set_cons_zero]))
        refine wpE_any (V := TagAt (byP (tagN K ks nonce m nh fb fh))) rfl (fun _ _ _ hx h => by obtain ⟨g, e, h⟩ := h; exact ⟨g, e, h.ext hx⟩) rfl (by simp) (fun w1 hx1 _ K9 hK9 => by go_wp2_with (go_at_call 63; refine (tag63_any _ _ m nh (gc + 1) gc b K fb fh nonce ks _ (by omega) (by omega) (HB1.out.ext hx1) (HH.out.ext (HX2.out.trans hx1)) (HGN.out.ext hx1) hNl (hx1.cell HGC.out) (HC.out.ext (HX2.out.trans hx1)) hK hK2).mono ?_; rintro e w2 ⟨g2, rfl, _, hb2, hx2⟩; exact hK9 _ _ hx2 ⟨g2, rfl, hb2⟩)) ?_
        intro u35
        simp only [put_lit, List.set_cons_succ, List.set_cons_zero]
        (first | (refine wpE_move rfl rfl rfl ?_; simp only [put_lit, eval_lit, BigFrame.eval_const, List.set_cons_succ, List.set_cons_zero, List.getD_cons_succ, List.getD_cons_zero]) | (refine wpE_run rfl rfl (by simp) (fun w1 hx1 _ K hK => by go_step; exact hK _ (Ext.refl _)) ?_; simp only [put_lit, List.set_cons_succ, List.set_cons_zero]))
        (first | (refine wpE_move rfl rfl rfl ?_; simp only [put_lit, eval_lit, BigFrame.eval_const, List.set_cons_succ, List.set_cons_zero, List.getD_cons_succ, List.getD_cons_zero]) | (refine wpE_run rfl rfl (by simp) (fun w1 hx1 _ K hK => by go_step; exact hK _ (Ext.refl _)) ?_; simp only [put_lit, List.set_cons_succ, List.set_cons_zero]))
        (first | (refine wpE_move rfl rfl rfl ?_; simp only [put_lit, eval_lit, BigFrame.eval_const, List.set_cons_succ, List.set_cons_zero, List.getD_cons_succ, List.getD_cons_zero]) | (refine wpE_run rfl rfl (by simp) (fun w1 hx1 _ K hK => by go_step; exact hK _ (Ext.refl _)) ?_; simp only [put_lit, List.set_cons_succ, List.set_cons_zero]))
        refine wpE_run rfl rfl (by simp) (fun w1 hx1 hfc K9 hK9 => by have ht : TagAt (byP (tagN K ks nonce m nh fb fh)) u35 w1 := hfc _ (List.mem_cons_self ..) (by show (35 : Nat) ∈ _; decide); have hr := Lib.hid (ht.rd (fun j _ => byP_lt _ _)); clear hfc ht; go_wp2_with (go_at_call 66; refine (equal66_any _ _ 16 16 _ _ _ (by omega) (by omega) hr.out (HB2.out.ext hx1)).mono ?_; rintro e w2 ⟨rfl, hx2⟩; exact hK9 _ hx2)) ?_
        simp only [put_lit, List.set_cons_succ, List.set_cons_zero]
        rw [HDD.out]
        (first | (refine wpE_move rfl rfl rfl ?_; simp only [put_lit, eval_lit, BigFrame.eval_const, List.set_cons_succ, List.set_cons_zero, List.getD_cons_succ, List.getD_cons_zero]) | (refine wpE_run rfl rfl (by simp) (fun w1 hx1 _ K hK => by go_step; exact hK _ (Ext.refl _)) ?_; simp only [put_lit, List.set_cons_succ, List.set_cons_zero]))
        (first | (refine wpE_move rfl rfl rfl ?_; simp only [put_lit, eval_lit, BigFrame.eval_const, List.set_cons_succ, List.set_cons_zero, List.getD_cons_succ, List.getD_cons_zero]) | (refine wpE_run rfl rfl (by simp) (fun w1 hx1 _ K hK => by go_step; exact hK _ (Ext.refl _)) ?_; simp only [put_lit, List.set_cons_succ, List.set_cons_zero]))
        (refine wpE_nil ?_; intro w5 hw5 hF; simp only [List.drop_succ_cons, List.drop_zero])
        clear hF
        have HX5 := Lib.hid (HX2.out.trans hw5)
        have HW5 := Lib.hid hw5
        clear hw5
        go_wp2_with fail
        refine bodyPost_ret (v := .tuple #[.slice none 0 0, .int .i64 80]) (by kernel_rfl) rfl ?_
        exact ⟨HX5.out, .inr ⟨fun h => hW (fun j hj => by have := h.2 j hj; rw [Nat.add_sub_cancel] at this; exact this), rfl⟩⟩
  · have hlt : (nb : Int) - 16 < 0 := by omega
    have hnw : ¬ WholeP K ks nonce nb nh fb fh := fun h => h16 h.1
    have HNW := Lib.hid hnw
    clear hnw
    go_upto_region 6 with fail
    apply wp_region_mid 16 [.det _, .det _, .det _, .det _, .det _, .det _, .det _, .det _, .det _, .det _, .det _, .det _, .det _, .det _, .det _, .det _] (by kernel_rfl) rfl (by kernel_rfl)
    · skip
      (first | (refine wpE_move rfl rfl rfl ?_; simp only [put_lit, eval_lit, BigFrame.eval_const, List.set_cons_succ, List.set_cons_zero, List.getD_cons_succ, List.getD_cons_zero]) | (refine wpE_run rfl rfl (by simp) (fun w1 hx1 _ K hK => by go_step; exact hK _ (Ext.refl _)) ?_; simp only [put_lit, List.set_cons_succ, List.set_cons_zero]))
      (first | (refine wpE_move rfl rfl rfl ?_; simp only [put_lit, eval_lit, BigFrame.eval_const, List.set_cons_succ, List.set_cons_zero, List.getD_cons_succ, List.getD_cons_zero]) | (refine wpE_run rfl rfl (by simp) (fun w1 hx1 _ K hK => by go_step; exact hK _ (Ext.refl _)) ?_; simp only [put_lit, List.set_cons_succ, List.set_cons_zero]))
      (first | (refine wpE_move rfl rfl rfl ?_; simp only [put_lit, eval_lit, BigFrame.eval_const, List.set_cons_succ, List.set_cons_zero, List.getD_cons_succ, List.getD_cons_zero]) | (refine wpE_run rfl rfl (by simp) (fun w1 hx1 _ K hK => by go_step; exact hK _ (Ext.refl _)) ?_; simp only [put_lit, List.set_cons_succ, List.set_cons_zero]))
      refine wpE_skip rfl ?_
      simp only [put_lit, List.set_cons_succ, List.set_cons_zero]
      refine wpE_skip rfl ?_
      simp only [put_lit, List.set_cons_succ, List.set_cons_zero]
      refine wpE_skip rfl ?_
      simp only [put_lit, List.set_cons_succ, List.set_cons_zero]
      refine wpE_skip rfl ?_
      simp only [put_lit, List.set_cons_succ, List.set_cons_zero]
      refine wpE_skip rfl ?_
      simp only [put_lit, List.set_cons_succ, List.set_cons_zero]
      refine wpE_skip rfl ?_
      simp only [put_lit, List.set_cons_succ, List.set_cons_zero]
      refine wpE_skip rfl ?_
      simp only [put_lit, List.set_cons_succ, List.set_cons_zero]
      refine wpE_skip rfl ?_
      simp only [put_lit, List.set_cons_succ, List.set_cons_zero]
      refine wpE_skip rfl ?_
      simp only [put_lit, List.set_cons_succ, List.set_cons_zero]
      refine wpE_skip rfl ?_
      simp only [put_lit, List.set_cons_succ, List.set_cons_zero]
      refine wpE_skip rfl ?_
      simp only [put_lit, List.set_cons_succ, List.set_cons_zero]
      refine wpE_skip rfl ?_
      simp only [put_lit, List.set_cons_succ, List.set_cons_zero]
      (first | (refine wpE_move rfl rfl rfl ?_; simp only [put_lit, eval_lit, BigFrame.eval_const, List.set_cons_succ, List.set_cons_zero, List.getD_cons_succ, List.getD_cons_zero]) | (refine wpE_run rfl rfl (by simp) (fun w1 hx1 _ K hK => by go_step; exact hK _ (Ext.refl _)) ?_; simp only [put_lit, List.set_cons_succ, List.set_cons_zero]))
      (refine wpE_nil ?_; intro w5 hw5 hF; simp only [List.drop_succ_cons, List.drop_zero])
      have HX5 := Lib.hid (HX2.out.trans hw5)
      clear hF hw5
      go_wp2_with fail
      refine bodyPost_ret (v := .tuple #[.slice none 0 0, .int .i64 80]) (by kernel_rfl) rfl ?_
      exact ⟨HX5.out, .inr ⟨HNW.out, rfl⟩⟩
end Go.Proofs.Ytnigpobbckampaa
