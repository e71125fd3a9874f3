/- aes.New, walked: keys of 32 bytes. -/
import Derived.Test.YtnigpobbckampaaE0
import Derived.Deep.DeepCutAuto
import Derived.Deep.CutBlock
namespace Go.Proofs.Ytnigpobbckampaa
set_option linter.unusedSimpArgs false
set_option linter.unusedVariables false
open Go.RowKit Go.Shelf

attribute [local go_sem] Oper.semAt_some

set_option maxRecDepth 100000 in
set_option maxHeartbeats 1000000 in
theorem new8_any (v : Value) (f : Nat → Nat) (w : World) (hv : RdF w v 32 f) :
    Calls Try.prog 19 #[v] w fun e w' => ∃ b, e = .returned (.tuple #[.pointer (some ⟨b, 0, none⟩), .int .i64 0]) ∧ Cph w' b (8 + 7) (keysP 8 f) ∧ w.heap.size ≤ b ∧ Ext w w' := by
  obtain ⟨ao, cap, rfl, hcap⟩ := hv.len
  have HV := Lib.hid hv
  have hlt := hv.lt
  clear hv
  refine callsIn_wide.1 (callsIn_of_wp_marks (n := 0) Try.func19 rfl trivial (wpIn_wide.2 ?_) rfl)
  simp only [Try.ntmps19, List.size_toArray, List.length_cons, List.length_nil, Nat.reduceAdd, Nat.reduceSub, Array.replicate_succ, Array.replicate_zero, List.push_toArray, List.append_toArray, List.nil_append, List.cons_append]
  go_wp2_with (first | (go_at_call 47; refine (build_any _).mono ?_; rintro e w1 ⟨rfl, hx1⟩) | (refine wl_fieldR rfl 71 _ _ rfl _ rfl _ (fld71_1 _ _) ?_; rw [tab_box]) | (refine wl_allocA rfl 52 rfl _ zero52 ?_) | (refine wl_storeA rfl 52 _ _ rfl _ 0 256 rfl (row 256 boxP) rfl sz52 (row_size _ _) _ _ (Blk.new _ _ _) (by simp [row_size]) (row_one _ _) (row 256 boxP) (lay_all _ _ (by simp [row_size])) ?_))
  have hB0 : Blk ((w1.alloc (.cells (row 256 fun _ => 0) 52)).setRow w1.heap.size (row 256 boxP)) w1.heap.size 52 (row 256 boxP) := (Blk.new _ _ _).setRow _
  have hx2 : Ext w ((w1.alloc (.cells (row 256 fun _ => 0) 52)).setRow w1.heap.size (row 256 boxP)) := below_setRow (g := w1.heap.size) (hx1.trans (Ext.alloc _ _)) hx1.size _
  have hgB := hB0.lt
  have hg0 := hx1.size
  clear hx1
  generalize w1.heap.size = gB at hB0 hx2 hgB hg0 ⊢
  generalize (w1.alloc (.cells (row 256 fun _ => 0) 52)).setRow gB (row 256 boxP) = w2 at hB0 hx2 hgB ⊢
  refine (clone_any _ 32 f _ (by omega) (HV.out.ext hx2)).mono ?_
  rintro e w3 ⟨v6, rfl, ho, hx3⟩
  have hB3 := hB0.ext hx3
  have hs3 := hx3.size
  have HX := Lib.hid (hx2.trans hx3)
  clear hB0 hx3 hx2 HV hcap
  generalize w2.heap.size = B at ho hgB hs3
  go_wp2_with fail
  go_loopw [6, 7, 35] (fun v6 v7 v35 wr => ∃ t : Nat, t ≤ 52 ∧ v35 = .int .i64 t ∧ v7 = .int .u8 (((xp 8 f t).2 : Nat) : Int) ∧ OwnF wr B v6 (4 * (8 + t)) (xp 8 f t).1 ∧ Below B w3 wr) (fun _ _ v35 _ => 52 - (intOf v35).toNat)
  case atStart => exact ⟨0, by omega, rfl, rfl, ho, Below.refl _ _⟩
  case round =>
    clear ho
    obtain ⟨t, ht, rfl, rfl, ho, hx⟩ := hrel
    obtain ⟨wo, rfl⟩ : ∃ wo : World, wo = wr := ⟨_, rfl⟩
    have hwB : B ≤ wo.heap.size := Nat.le_trans hs3 hx.size
    by_cases hlt' : t < 52
    · have hti : (t : Int) < 52 := by omega
      have HO := Lib.hid ho
      obtain ⟨g, off, cap, ty, cur, rfl, hgb, hblk, hnc, hsz, hf⟩ := ho.form (by omega)
      have hpr := ho.rd.part (4 * (8 + t) - 4) 4 (cap - (4 * (8 + t) - 4)) (by omega) (by omega)
      have HP := Lib.hid hpr
      have hxl := xp_lt 8 (by omega) f hlt t
      have HF := Lib.hid (show xp 8 f (t + 1) = (xstep 8 (xp 8 f t).1 (xp 8 f t).2 (8 + t), xpow 8 (xp 8 f t).2 (8 + t)) from rfl)
      clear ho hblk hf hpr
      generalize hF : xp 8 f t = FP at HO HP hxl HF
      obtain ⟨F, p⟩ := FP
      clear hF
      have hFl : ∀ m, m < 4 * (8 + t) → F m < 256 := hxl.1
      have hpl : p < 256 := hxl.2
      have hBx : Blk wo gB 52 (row 256 boxP) := hB3.below hx hgB
      clear hxl
      go_wp2_with fail
      rw [show 4 * (8 + t) - (4 * (8 + t) - 4) = 4 by omega]
      refine (clone_any _ 4 _ _ (by omega) HP.out).mono ?_
      rintro e wa ⟨v9, rfl, h9, hxa⟩
      replace h9 : OwnF wa wo.heap.size v9 4 (fun j => F (4 * (8 + t - 1) + j)) := h9.congr fun i _ => by rw [show 4 * (8 + t - 1) + i = 4 * (8 + t) - 4 + i by omega]
      clear HP
      have hBa := hBx.ext hxa
      have hga : gB < wo.heap.size := by omega
      generalize hwr : wo.heap.size = Bx at h9 hga
      go_upto_block 2 with fail
      go_cut [7, 9, 10, 11] from 47 to 105 (fun v7 v9 v10 v11 wx => v7 = .int .u8 ((xpow 8 p (8 + t) : Nat) : Int) ∧ OwnF wx Bx v9 4 (xword 8 F p (8 + t)) ∧ Ext wo wx)
      case first =>
        obtain ⟨G, hG⟩ : ∃ G : Nat → Nat, G = fun j => F (4 * (8 + t - 1) + j) := ⟨_, rfl⟩
        rw [← hG] at h9
        have hGl : ∀ j, j < 4 → G j < 256 := h9.lt
        by_cases h0 : t % 8 = 0
        · have h0' : ((t : Int) + 8) % 8 = 0 := by omega
          have HXW := Lib.hid (show ∀ j, xword 8 F p (8 + t) j = boxP ((fun j => G ((j + 1) % 4)) j) ^^^ (if j = 0 then p else 0) from fun j => by rw [hG]; unfold xword; rw [if_pos (by omega)])
          have HXP := Lib.hid (show xpow 8 p (8 + t) = dbl p from by unfold xpow; rw [if_pos (by omega)])
          clear hG
          go_wp2_with fail
          obtain ⟨g9, o9, c9, ty9, cur9, rfl, hgb9, hblk9, hnc9, hsz9, hf9⟩ := h9.form (by omega)
          have hc0 := (hblk9.cell (o9 + 0)).trans (hf9 0 (by omega)).2
          rw [Nat.add_zero] at hc0
          have H9 := Lib.hid h9
          have HBa := Lib.hid hBa
          clear hblk9 hf9 h9 hsz9 hBa
          apply wp_region_mid 6 [.det _, .det _, .det _, .det _, .det _, .any (One wa (.int .u8 ((G 0 : Nat) : Int)))] (by kernel_rfl) rfl (by kernel_rfl)
          · (first | (refine wpE_move rfl rfl rfl ?_; simp only [put_lit, eval_lit, BigFrame.eval_const, List.set_cons_succ, List.set_cons_zero, List.getD_cons_succ, List.getD_cons_zero]) | (refine wpE_run rfl rfl (by simp) (fun w1 hx1 _ K hK => by go_step; exact hK _ (Ext.refl _)) ?_; simp only [put_lit, List.set_cons_succ, List.set_cons_zero]))
            (first | (refine wpE_move rfl rfl rfl ?_; simp only [put_lit, eval_lit, BigFrame.eval_const, List.set_cons_succ, List.set_cons_zero, List.getD_cons_succ, List.getD_cons_zero]) | (refine wpE_run rfl rfl (by simp) (fun w1 hx1 _ K hK => by go_step; exact hK _ (Ext.refl _)) ?_; simp only [put_lit, List.set_cons_succ, List.set_cons_zero]))
            (first | (refine wpE_move rfl rfl rfl ?_; simp only [put_lit, eval_lit, BigFrame.eval_const, List.set_cons_succ, List.set_cons_zero, List.getD_cons_succ, List.getD_cons_zero]) | (refine wpE_run rfl rfl (by simp) (fun w1 hx1 _ K hK => by go_step; exact hK _ (Ext.refl _)) ?_; simp only [put_lit, List.set_cons_succ, List.set_cons_zero]))
            (first | (refine wpE_move rfl rfl rfl ?_; simp only [put_lit, eval_lit, BigFrame.eval_const, List.set_cons_succ, List.set_cons_zero, List.getD_cons_succ, List.getD_cons_zero]) | (refine wpE_run rfl rfl (by simp) (fun w1 hx1 _ K hK => by go_step; exact hK _ (Ext.refl _)) ?_; simp only [put_lit, List.set_cons_succ, List.set_cons_zero]))
            (refine wpE_run rfl rfl (by simp) (fun w1 hx1 _ K hK => by have hc := hx1.cell hc0; go_step; exact hK _ (Ext.refl _)) ?_); simp only [put_lit, List.set_cons_succ, List.set_cons_zero]
            refine wpE_any (V := One wa (.int .u8 ((G 0 : Nat) : Int))) rfl (fun _ _ _ hx h => h.mono hx) rfl (by simp) (fun w1 hx1 _ K hK => by go_step; exact hK _ _ (Ext.alloc _ _) ⟨_, rfl, hx1.size, Blk.new _ _ _⟩) ?_
            intro u57
            simp only [put_lit, List.set_cons_succ, List.set_cons_zero]
            (refine wpE_nil ?_; intro w2 hw2 hF; simp only [List.drop_succ_cons, List.drop_zero])
            have hu := hF _ (List.mem_cons_self ..)
            simp only at hu
            clear hF
            have HO9 := Lib.hid ((H9.out.ext hw2).tail 1 (by omega) 3 (c9 - 1) rfl rfl)
            have HU := Lib.hid (hu.rd (hGl 0 (by omega)))
            clear hu
            have hw2s := hw2.size
            have hxas := hxa.size
            go_wp2_with (refine wl_appendF rfl (.tmp 53) (.tmp 57) rfl Bx _ _ 3 1 (fun j => G (1 + j)) (fun _ => G 0) (fun j => G ((j + 1) % 4)) rfl rfl HO9.out HU.out (by omega) (by omega) (fun i hi => by rw [show (i + 1) % 4 = 1 + i by omega]) (fun j hj => by rw [show (3 + j + 1) % 4 = 0 by omega]) ?_; intro v58 wb h58 hb58; obtain ⟨g9b, o9b, c9b, _, _, rfl, hgb9b, _, hnc9b, _, _⟩ := h58.form (by omega))
            have hBb : Blk wb gB 52 (row 256 boxP) := (HBa.out.ext hw2).below hb58 hga
            have hLb : Below Bx wo wb := by
              have h1 : Below Bx wo wa := by rw [← hwr]; exact hxa
              exact (h1.trans (Below.mono hw2 (by omega))).trans hb58
            have h9 : OwnF wb Bx (.slice (some ⟨g9b, o9b, none⟩) 4 c9b) 4 (fun j => G ((j + 1) % 4)) := h58
            have hGl' : ∀ j, j < 4 → (fun j => G ((j + 1) % 4)) j < 256 := fun j hj => hGl _ (by omega)
            clear HO9 HU H9 hc0 HBa hb58 hw2 hgb9 hnc9 h58 hxa hBx hw2s hxas hGl
            obtain ⟨G', hG'⟩ : ∃ G' : Nat → Nat, G' = fun j => G ((j + 1) % 4) := ⟨_, rfl⟩
            rw [← hG'] at h9 hGl'
            have HXW' := Lib.hid (show ∀ j, xword 8 F p (8 + t) j = boxP (G' j) ^^^ (if j = 0 then p else 0) from fun j => by rw [hG']; exact HXW.out j)
            clear hG'
            clear hgb9b hnc9b
            obtain ⟨g9, hg9⟩ : ∃ x, x = g9b := ⟨_, rfl⟩
            obtain ⟨o9, ho9⟩ : ∃ x, x = o9b := ⟨_, rfl⟩
            obtain ⟨c9, hc9⟩ : ∃ x, x = c9b := ⟨_, rfl⟩
            rw [← hg9, ← ho9, ← hc9] at h9 ⊢
            clear hg9 ho9 hc9
            go_loopw [61] (fun vj wl => ∃ j : Nat, j ≤ 4 ∧ vj = .int .i64 j ∧ OwnF wl Bx (.slice (some ⟨g9, o9, none⟩) 4 c9) 4 (mixF j (fun j => boxP (G' j)) G') ∧ Blk wl gB 52 (row 256 boxP) ∧ Below Bx wo wl) (fun vj _ => 4 - (intOf vj).toNat)
            case atStart => exact ⟨0, by omega, rfl, by rw [mixF_zero]; exact h9, hBb, hLb⟩
            case round =>
              clear h9 hBb hLb
              obtain ⟨j, hj, rfl, h9, hBb, hLb⟩ := hrel
              by_cases hj4 : j < 4
              · have hj4' : (j : Int) < 4 := by omega
                have H9 := Lib.hid h9
                have HB := Lib.hid hBb
                obtain ⟨_, _, _, ty9, cur9, heq, hgb9, hblk9, hnc9, hsz9, hf9⟩ := h9.form (by omega)
                cases heq
                have hc9 := (hf9 j hj4).2
                rw [mixF_ge _ _ _ _ (Nat.le_refl _)] at hc9
                have hcj := (hblk9.cell (o9 + j)).trans hc9
                have hcb := hBb.byte (G' j) (hGl' j hj4)
                have hfr := hblk9.frozen (o9 + j)
                have HS := Lib.hid (h9.stored1 j (boxP (G' j)) (boxP_lt _) hj4)
                have hGj := hGl' j hj4
                clear h9 hBb hblk9 hf9 hc9
                go_wp2_with fail
                go_roundw
                case rel =>
                  refine ⟨j + 1, by omega, by go_num, ?_, HB.out.other _ (by simp; omega), hLb.setCell (by simp; omega) _⟩
                  rw [← mixF_upd]
                  exact HS.out
                case measure => simp [intOf]; omega
              · obtain rfl : j = 4 := by omega
                have hj4' : ¬ ((4 : Nat) : Int) < 4 := by omega
                obtain ⟨_, _, _, ty9, cur9, heq, hgb9, hblk9, hnc9, hsz9, hf9⟩ := h9.form (by omega)
                cases heq
                have hc0 := (hblk9.cell (o9 + 0)).trans (hf9 0 (by omega)).2
                have hfr := hblk9.frozen (o9 + 0)
                have hm0 : mixF 4 (fun j => boxP (G' j)) G' 0 = boxP (G' 0) := by simp [mixF]
                have hst := h9.stored1 0 (boxP (G' 0) ^^^ p) (xor_lt (boxP_lt _) hpl) (by omega)
                rw [Nat.add_zero] at hc0 hfr hst
                rw [hm0] at hc0
                have HS := Lib.hid hst
                have HX2 := Lib.hid (u8_xor_nat _ _ (boxP_lt (G' 0)) hpl)
                clear hblk9 hf9 h9 hBb hst
                go_wp2_with (go_at_call 49; refine (double_ext p hpl _).mono ?_; rintro e wd ⟨rfl, hxd⟩)
                rw [HX2.out] at hxd
                have hb9 := hLb.setCell (p := ⟨g9, o9, none⟩) hgb9 (.int .u8 ((boxP (G' 0) ^^^ p : Nat) : Int))
                go_meet
                case rel =>
                  refine ⟨by rw [HXP.out], (HS.out.ext hxd).congr fun i hi => ?_, ?_⟩
                  · rw [HXW'.out i]
                    unfold upd
                    split
                    · rename_i hi0
                      rw [hi0]
                    · simp [mixF, hi]
                  · have hb9s := hb9.size
                    have := hb9.trans (Below.mono hxd (by omega))
                    rw [← hwr] at this
                    exact this
        · have h0' : ¬ ((t : Int) + 8) % 8 = 0 := by omega
          by_cases h4 : t % 8 = 4
          · have h4' : ((t : Int) + 8) % 8 = 4 := by omega
            obtain ⟨g9, o9, c9, ty9, cur9, rfl, hgb9, hblk9, hnc9, hsz9, hf9⟩ := h9.form (by omega)
            have hBb := hBa
            have hLb : Below Bx wo wa := by rw [← hwr]; exact hxa
            clear hblk9 hf9 hsz9 hgb9 hBa hBx hxa
            obtain ⟨wb, rfl⟩ : ∃ wb : World, wb = wa := ⟨_, rfl⟩
            have HXW := Lib.hid (show ∀ j, xword 8 F p (8 + t) j = boxP (G j) from fun j => by rw [hG]; unfold xword; rw [if_neg (by omega), if_pos ⟨rfl, by omega⟩])
            have HXP := Lib.hid (show xpow 8 p (8 + t) = p from by unfold xpow; rw [if_neg (by omega)])
            have H9 := Lib.hid h9
            have HBb := Lib.hid hBb
            clear hG h9 hBb
            go_wp2_with fail
            have h9 := H9.out
            have hBb := HBb.out
            have hGl' := hGl
            clear H9 HBb
            go_loopw [93] (fun vj wl => ∃ j : Nat, j ≤ 4 ∧ vj = .int .i64 j ∧ OwnF wl Bx (.slice (some ⟨g9, o9, none⟩) 4 c9) 4 (mixF j (fun j => boxP (G j)) G) ∧ Blk wl gB 52 (row 256 boxP) ∧ Below Bx wo wl) (fun vj _ => 4 - (intOf vj).toNat)
            case atStart => exact ⟨0, by omega, rfl, by rw [mixF_zero]; exact h9, hBb, hLb⟩
            case round =>
              clear h9 hBb hLb
              obtain ⟨j, hj, rfl, h9, hBb, hLb⟩ := hrel
              by_cases hj4 : j < 4
              · have hj4' : (j : Int) < 4 := by omega
                have H9 := Lib.hid h9
                have HB := Lib.hid hBb
                obtain ⟨_, _, _, ty9, cur9, heq, hgb9, hblk9, hnc9, hsz9, hf9⟩ := h9.form (by omega)
                cases heq
                have hc9 := (hf9 j hj4).2
                rw [mixF_ge _ _ _ _ (Nat.le_refl _)] at hc9
                have hcj := (hblk9.cell (o9 + j)).trans hc9
                have hcb := hBb.byte (G j) (hGl' j hj4)
                have hfr := hblk9.frozen (o9 + j)
                have HS := Lib.hid (h9.stored1 j (boxP (G j)) (boxP_lt _) hj4)
                have hGj := hGl' j hj4
                clear h9 hBb hblk9 hf9 hc9
                go_wp2_with fail
                go_roundw
                case rel =>
                  refine ⟨j + 1, by omega, by go_num, ?_, HB.out.other _ (by simp; omega), hLb.setCell (by simp; omega) _⟩
                  rw [← mixF_upd]
                  exact HS.out
                case measure => simp [intOf]; omega
              · obtain rfl : j = 4 := by omega
                have hj4' : ¬ ((4 : Nat) : Int) < 4 := by omega
                have H9 := Lib.hid h9
                clear h9 hBb
                go_wp2_with fail
                go_meet
                case rel =>
                  refine ⟨by rw [HXP.out], H9.out.congr fun i hi => ?_, ?_⟩
                  · rw [HXW.out i]
                    simp [mixF, hi]
                  · have := hLb
                    rw [← hwr] at this
                    exact this
          · have h4' : ¬ ((t : Int) + 8) % 8 = 4 := by omega
            have HXW := Lib.hid (show ∀ j, xword 8 F p (8 + t) j = G j from fun j => by rw [hG]; unfold xword; rw [if_neg (by omega), if_neg (by omega)])
            have HXP := Lib.hid (show xpow 8 p (8 + t) = p from by unfold xpow; rw [if_neg (by omega)])
            have H9 := Lib.hid h9
            clear hG h9
            go_wp2_with fail
            go_meet
            case rel => exact ⟨by rw [HXP.out], H9.out.congr fun i _ => HXW.out i, hxa⟩
      case rest =>
        obtain ⟨rfl, h9, hxc⟩ := hcut
        have hXl : ∀ j, j < 4 → xword 8 F p (8 + t) j < 256 := h9.lt
        obtain ⟨X, hX⟩ : ∃ X : Nat → Nat, X = xword 8 F p (8 + t) := ⟨_, rfl⟩
        rw [← hX] at h9 hXl
        have HS1 := Lib.hid (show ∀ i, i < 4 * (8 + t) → xstep 8 F p (8 + t) i = F i from fun i hi => by unfold xstep; rw [if_pos hi])
        have HS2 := Lib.hid (show ∀ j, j < 4 → xstep 8 F p (8 + t) (4 * (8 + t) + j) = mixF 4 (fun j => X j ^^^ F (4 * t + j)) X j from fun j hj => by
          unfold xstep
          rw [if_neg (by omega), ← hX, show 4 * (8 + t) + j - 4 * (8 + t) = j by omega, show 4 * (8 + t - 8) + j = 4 * t + j by omega]
          simp [mixF, hj])
        clear hX
        obtain ⟨g9, o9, c9, ty9, cur9, rfl, hgb9, hblk9, hnc9, hsz9, hf9⟩ := h9.form (by omega)
        have hLb : Below Bx wo wc := by rw [← hwr]; exact hxc
        have hgo : g < Bx := by
          obtain ⟨_, _, _, _, _, hq, _, hbq, _⟩ := HO.out.form (by omega)
          cases hq
          rw [← hwr]
          exact hbq.lt
        clear hblk9 hf9 hsz9 hBa hBx hxa
        have H9 := Lib.hid h9
        clear h9
        go_wp2_with fail
        have h9 := H9.out
        clear H9
        go_loopw [108] (fun vj wl => ∃ j : Nat, j ≤ 4 ∧ vj = .int .i64 j ∧ OwnF wl Bx (.slice (some ⟨g9, o9, none⟩) 4 c9) 4 (mixF j (fun j => X j ^^^ F (4 * t + j)) X) ∧ Below Bx wo wl) (fun vj _ => 4 - (intOf vj).toNat)
        case atStart => exact ⟨0, by omega, rfl, by rw [mixF_zero]; exact h9, hLb⟩
        case round =>
          clear h9 hLb
          obtain ⟨j, hj, rfl, h9, hLb⟩ := hrel
          by_cases hj4 : j < 4
          · have hj4' : (j : Int) < 4 := by omega
            obtain ⟨_, _, _, ty9, cur9, heq, _, hblk9, _, hsz9, hf9⟩ := h9.form (by omega)
            cases heq
            have hc9 := (hf9 j hj4).2
            rw [mixF_ge _ _ _ _ (Nat.le_refl _)] at hc9
            have hcj := (hblk9.cell (o9 + j)).trans hc9
            have hfr := hblk9.frozen (o9 + j)
            have H9 := Lib.hid h9
            have HXF := Lib.hid (u8_xor_nat _ _ (hXl j hj4) (hFl (4 * t + j) (by omega)))
            have hca : wr.cell? ⟨g, off + (4 * t + j), none⟩ = some (.int .u8 ((F (4 * t + j) : Nat) : Int)) := by
              obtain ⟨_, _, hq, _, _, hfa⟩ := HO.out.rd
              cases hq
              obtain ⟨_, a, ha, hca⟩ := hfa (4 * t + j) (by omega)
              cases ha
              rw [Addr.add_lit] at hca
              exact (hLb.cell (p := ⟨g, off + (4 * t + j), none⟩) hgo).trans hca
            clear h9 hblk9 hf9 hc9 hsz9
            go_wp2_with fail
            apply wp_region_mid 14 [.det _, .det _, .det _, .det _, .det _, .det _, .det _, .det _, .det _, .det _, .det _, .det _, .det _, .det _] (by kernel_rfl) rfl (by kernel_rfl)
            · (first | (refine wpE_move rfl rfl rfl ?_; simp only [put_lit, eval_lit, BigFrame.eval_const, List.set_cons_succ, List.set_cons_zero, List.getD_cons_succ, List.getD_cons_zero]) | (refine wpE_run rfl rfl (by simp) (fun w1 hx1 _ K hK => by go_step; exact hK _ (Ext.refl _)) ?_; simp only [put_lit, List.set_cons_succ, List.set_cons_zero]))
              (first | (refine wpE_move rfl rfl rfl ?_; simp only [put_lit, eval_lit, BigFrame.eval_const, List.set_cons_succ, List.set_cons_zero, List.getD_cons_succ, List.getD_cons_zero]) | (refine wpE_run rfl rfl (by simp) (fun w1 hx1 _ K hK => by go_step; exact hK _ (Ext.refl _)) ?_; simp only [put_lit, List.set_cons_succ, List.set_cons_zero]))
              (refine wpE_run rfl rfl (by simp) (fun w1 hx1 _ K hK => by skip; go_step; exact hK _ (Ext.refl _)) ?_); simp only [put_lit, List.set_cons_succ, List.set_cons_zero]
              (refine wpE_run rfl rfl (by simp) (fun w1 hx1 _ K hK => by have hc := hx1.cell hcj; go_step; exact hK _ (Ext.refl _)) ?_); simp only [put_lit, List.set_cons_succ, List.set_cons_zero]
              (first | (refine wpE_move rfl rfl rfl ?_; simp only [put_lit, eval_lit, BigFrame.eval_const, List.set_cons_succ, List.set_cons_zero, List.getD_cons_succ, List.getD_cons_zero]) | (refine wpE_run rfl rfl (by simp) (fun w1 hx1 _ K hK => by go_step; exact hK _ (Ext.refl _)) ?_; simp only [put_lit, List.set_cons_succ, List.set_cons_zero]))
              (first | (refine wpE_move rfl rfl rfl ?_; simp only [put_lit, eval_lit, BigFrame.eval_const, List.set_cons_succ, List.set_cons_zero, List.getD_cons_succ, List.getD_cons_zero]) | (refine wpE_run rfl rfl (by simp) (fun w1 hx1 _ K hK => by go_step; exact hK _ (Ext.refl _)) ?_; simp only [put_lit, List.set_cons_succ, List.set_cons_zero]))
              (first | (refine wpE_move rfl rfl rfl ?_; simp only [put_lit, eval_lit, BigFrame.eval_const, List.set_cons_succ, List.set_cons_zero, List.getD_cons_succ, List.getD_cons_zero]) | (refine wpE_run rfl rfl (by simp) (fun w1 hx1 _ K hK => by go_step; exact hK _ (Ext.refl _)) ?_; simp only [put_lit, List.set_cons_succ, List.set_cons_zero]))
              (first | (refine wpE_move rfl rfl rfl ?_; simp only [put_lit, eval_lit, BigFrame.eval_const, List.set_cons_succ, List.set_cons_zero, List.getD_cons_succ, List.getD_cons_zero]) | (refine wpE_run rfl rfl (by simp) (fun w1 hx1 _ K hK => by go_step; exact hK _ (Ext.refl _)) ?_; simp only [put_lit, List.set_cons_succ, List.set_cons_zero]))
              (first | (refine wpE_move rfl rfl rfl ?_; simp only [put_lit, eval_lit, BigFrame.eval_const, List.set_cons_succ, List.set_cons_zero, List.getD_cons_succ, List.getD_cons_zero]) | (refine wpE_run rfl rfl (by simp) (fun w1 hx1 _ K hK => by go_step; exact hK _ (Ext.refl _)) ?_; simp only [put_lit, List.set_cons_succ, List.set_cons_zero]))
              (first | (refine wpE_move rfl rfl rfl ?_; simp only [put_lit, eval_lit, BigFrame.eval_const, List.set_cons_succ, List.set_cons_zero, List.getD_cons_succ, List.getD_cons_zero]) | (refine wpE_run rfl rfl (by simp) (fun w1 hx1 _ K hK => by go_step; exact hK _ (Ext.refl _)) ?_; simp only [put_lit, List.set_cons_succ, List.set_cons_zero]))
              (first | (refine wpE_move rfl rfl rfl ?_; simp only [put_lit, eval_lit, BigFrame.eval_const, List.set_cons_succ, List.set_cons_zero, List.getD_cons_succ, List.getD_cons_zero]) | (refine wpE_run rfl rfl (by simp) (fun w1 hx1 _ K hK => by go_step; exact hK _ (Ext.refl _)) ?_; simp only [put_lit, List.set_cons_succ, List.set_cons_zero]))
              (refine wpE_run rfl rfl (by simp) (fun w1 hx1 _ K hK => by skip; go_step; exact hK _ (Ext.refl _)) ?_); simp only [put_lit, List.set_cons_succ, List.set_cons_zero]
              (refine wpE_run rfl rfl (by simp) (fun w1 hx1 _ K hK => by have hc := hx1.cell hca; go_step; exact hK _ (Ext.refl _)) ?_); simp only [put_lit, List.set_cons_succ, List.set_cons_zero]
              (first | (refine wpE_move rfl rfl rfl ?_; simp only [put_lit, eval_lit, BigFrame.eval_const, List.set_cons_succ, List.set_cons_zero, List.getD_cons_succ, List.getD_cons_zero]) | (refine wpE_run rfl rfl (by simp) (fun w1 hx1 _ K hK => by go_step; exact hK _ (Ext.refl _)) ?_; simp only [put_lit, List.set_cons_succ, List.set_cons_zero]))
              rw [HXF.out]
              (refine wpE_nil ?_; intro w2 hw2 hF; simp only [List.drop_succ_cons, List.drop_zero])
              have hc2 := hw2.cell hcj
              have hwr2 : w2.frozen? ⟨g9, o9 + j, none⟩ = false := by
                obtain ⟨_, _, _, _, _, hq, _, hbq, _⟩ := (H9.out.ext hw2).form (by omega)
                cases hq
                exact hbq.frozen _
              have HS := Lib.hid ((H9.out.ext hw2).stored1 j (X j ^^^ F (4 * t + j)) (xor_lt (hXl j hj4) (hFl _ (by omega))) hj4)
              have hLs := hLb.size
              have HL := Lib.hid ((hLb.trans (Below.mono hw2 (by rw [← hwr]; exact hLb.size))).setCell (p := ⟨g9, o9 + j, none⟩) hgb9 (.int .u8 ((X j ^^^ F (4 * t + j) : Nat) : Int)))
              clear hF hcj hca hfr hw2
              go_wp2_with fail
              go_roundw
              case rel =>
                refine ⟨j + 1, by omega, by go_num, ?_, HL.out⟩
                rw [← mixF_upd]
                exact HS.out
              case measure => simp [intOf]; omega
          · obtain rfl : j = 4 := by omega
            have hj4' : ¬ ((4 : Nat) : Int) < 4 := by omega
            have H9 := Lib.hid h9
            have HA := Lib.hid (HO.out.ext (show Ext wo wr by unfold Ext; rw [hwr]; exact hLb))
            have hLs := hLb.size
            have HFO := HF.out
            clear h9
            go_wp2_with (refine wl_appendF rfl (.tmp 127) (.tmp 128) rfl B _ _ (4 * (8 + t)) 4 F (mixF 4 (fun j => X j ^^^ F (4 * t + j)) X) (xstep 8 F p (8 + t)) rfl rfl HA.out H9.out.rd (by omega) (by omega) HS1.out HS2.out ?_; intro v' w' hv' hb')
            go_roundw
            case rel =>
              refine ⟨t + 1, by omega, by go_num, by rw [HFO], ?_, ?_⟩
              · rw [HFO]
                exact hv'
              · exact (hx.trans (hLb.mono (by omega))).trans hb'
            case measure => simp [intOf]; omega
    · obtain rfl : t = 52 := by omega
      obtain ⟨g, off, cap, ty, cur, rfl, hgb, hblk, hnc, hsz, hf⟩ := ho.form (by omega)
      have hBx := Lib.hid (hB3.below hx hgB)
      obtain ⟨F, hF⟩ : ∃ F : Nat → Nat, F = (xp 8 f 52).1 := ⟨_, rfl⟩
      rw [← hF] at hf ho
      have HW := Lib.hid hf
      have HF := Lib.hid hF
      have HK := Lib.hid hblk
      clear ho hf hF hblk hB3
      go_wp2_with (first | (refine wl_loadA rfl 52 _ rfl gB 0 256 rfl agg52 sz52 _ _ hBx.out (by simp [row_size]) (row 256 boxP) (row_whole _ _) ?_) | (refine wl_build54 rfl _ rfl boxP rfl ?_) | (refine wl_boxA rfl 54 _ rfl _ rfl ?_) | (go_at_call 50; refine (chunk_any _ _ _ _).mono ?_; rintro e w5 ⟨rfl, rfl⟩))
      have hgc0 := Ext.size HX.out
      obtain ⟨W5, hW5⟩ : ∃ W5, ((((wo.alloc (.cells (#[.slice none 0 0] ++ row 256 boxP) 54)).alloc (.cells #[.pointer (some ⟨wo.heap.size, 0, none⟩)] 25)).alloc (.cells #[.slice (some ⟨g, off, none⟩) 240 cap] 22)).alloc (.cells #[.int .i64 16] 3)) = W5 := ⟨_, rfl⟩
      have hx5 : Ext wo W5 := by rw [← hW5]; exact (((Ext.alloc _ _).trans (Ext.alloc _ _)).trans (Ext.alloc _ _)).trans (Ext.alloc _ _)
      have hg0c : Blk W5 wo.heap.size 54 (#[.slice none 0 0] ++ row 256 boxP) := by rw [← hW5]; exact (((Blk.new _ _ _).alloc _).alloc _).alloc _
      have hg13 : Blk W5 (wo.heap.size + 1) 25 #[.pointer (some ⟨wo.heap.size, 0, none⟩)] := by
        rw [← hW5]
        have := ((Blk.new (wo.alloc (.cells (#[.slice none 0 0] ++ row 256 boxP) 54)) 25 #[.pointer (some ⟨wo.heap.size, 0, none⟩)]).alloc (.cells #[.slice (some ⟨g, off, none⟩) 240 cap] 22)).alloc (.cells #[.int .i64 16] 3)
        simpa only [World.size_alloc] using this
      have hgs : Blk W5 (wo.heap.size + 1 + 1) 22 #[.slice (some ⟨g, off, none⟩) 240 cap] := by
        rw [← hW5]
        have := (Blk.new ((wo.alloc (.cells (#[.slice none 0 0] ++ row 256 boxP) 54)).alloc (.cells #[.pointer (some ⟨wo.heap.size, 0, none⟩)] 25)) 22 #[.slice (some ⟨g, off, none⟩) 240 cap]).alloc (.cells #[.int .i64 16] 3)
        simpa only [World.size_alloc] using this
      have hgn : Blk W5 (wo.heap.size + 1 + 1 + 1) 3 #[.int .i64 16] := by
        rw [← hW5]
        have := Blk.new (((wo.alloc (.cells (#[.slice none 0 0] ++ row 256 boxP) 54)).alloc (.cells #[.pointer (some ⟨wo.heap.size, 0, none⟩)] 25)).alloc (.cells #[.slice (some ⟨g, off, none⟩) 240 cap] 22)) 3 #[.int .i64 16]
        simpa only [World.size_alloc] using this
      have hsz5 : W5.heap.size = wo.heap.size + 4 := by rw [← hW5]; simp only [World.size_alloc]
      have hgk := HK.out.ext hx5
      have hglt := HK.out.lt
      rw [hW5]
      have hwc : w.heap.size ≤ wo.heap.size := by omega
      have hxw : Ext w W5 := by
        have h1 : Below w.heap.size w w3 := HX.out
        exact (h1.trans (hx.mono (by omega))).trans (Below.mono hx5 hwc)
      clear hW5 hx5 hBx HK hx hgc0
      obtain ⟨gc, hgc⟩ : ∃ gc, wo.heap.size = gc := ⟨_, rfl⟩
      rw [hgc] at hg0c hg13 hgs hgn hsz5 hglt hwc ⊢
      clear hgc
      refine (wpIn_wide (n := 0)).1 (range_law (gf := 69) (lb := #[.pointer (some ⟨gc + 1 + 1, 0, none⟩), .pointer (some ⟨gc + 1 + 1 + 1, 0, none⟩)]) rfl (enters_of Try.func69 (by kernel_rfl) rfl)
        (Kp := fun W W' => ∀ j, j < gc + 4 → j ≠ gc → W'.heap[j]? = W.heap[j]?)
        (chunk_iter (some ⟨g, off, none⟩) g off 240 cap (gc + 1 + 1) (gc + 1 + 1 + 1) (by omega) (by omega) (fun _ => rfl) _ (fun W W' v B hK hB hc => by
          have hB' : B < gc + 4 ∧ B ≠ gc := by omega
          exact (World.cell?_of_block (a := ⟨B, 0, none⟩) (hK B hB'.1 hB'.2)).trans hc) W5 (by rw [hgs.cell]; rfl) (by rw [hgn.cell]; rfl))
        (Below.refl _ _) (fun _ => rfl) (fun h k j h1 h2 => (k j h1 h2).trans (h j h1 h2)) (fun W l o o' hl _ _ j h1 h2 => World.putObj_heap_other (by omega))
        (fun k W => (∃ vk, Blk W gc 54 (#[vk] ++ row 256 boxP) ∧ KeysF W (gc + 4) vk k F) ∧ (∀ j, j < gc + 4 → j ≠ gc → W.heap[j]? = W5.heap[j]?) ∧ Below gc W5 W) ?own ⟨⟨_, hg0c, KeysF.nil _ _ _⟩, fun _ _ _ => rfl, Below.refl _ _⟩ ?round ?done)
      case own =>
        rintro k A A' row ⟨⟨vk, h1, h2⟩, h3, h4⟩ hg' hr
        have hlt : ∀ j, j < gc + 4 → some j ≠ row := fun j hj e => by have := (hr j e.symm).1; omega
        have hAs : W5.heap.size ≤ A.heap.size := by
          have := h4.size
          exact this
        exact ⟨⟨vk, (hg'.block gc (by omega) (hlt _ (by omega))).trans h1, h2.grown hg' (fun r e => (hr r e).2)⟩, fun j h5 h6 => (hg'.block j (by omega) (hlt _ h5)).trans (h3 j h5 h6), h4.grown hg' (by omega) (fun r e => by have := (hr r e).1; omega)⟩
      case round =>
        rintro m l k W hk ⟨⟨vk, h1, h2⟩, h3, h4⟩
        have hk' : k < 8 + 7 := by omega
        have hp : partV g off 240 k = .slice (some ⟨g, off + 16 * k, none⟩) 16 16 := by unfold partV; rw [show min 16 (240 - 16 * k) = 16 by omega]
        have hpart : cur.extract (off + 16 * k) (off + 16 * k + 16) = row 16 (fun j => F (k * 16 + j)) := by
          refine row_ext (by simp; omega) (fun j hj => ?_)
          rw [Array.getElem?_extract, if_pos (by omega), show off + 16 * k + j = off + (k * 16 + j) by omega]
          exact (HW.out (k * 16 + j) (by omega)).2
        have HPT := Lib.hid hpart
        clear hpart
        rw [hp]
        gi_wp2_with fail
        refine ⟨KeepsOthers.refl _, fun _ _ _ => trivial, ⟨⟨vk, h1, h2⟩, h3, h4⟩, fun _ => True, fun _ _ _ _ _ _ _ => trivial, trivial, ?_⟩
        clear h1 h2 h3 h4 W vk
        rintro W ⟨⟨vk, h1, h2⟩, h3, h4⟩ _
        gi_wp2_with fail
        have q13 : W.cell? ⟨gc + 1, 0, none⟩ = some (.pointer (some ⟨gc, 0, none⟩)) := (World.cell?_of_block (a := ⟨gc + 1, 0, none⟩) (h3 (gc + 1) (by omega) (by omega))).trans ((hg13.cell 0).trans rfl)
        have q0 : W.cell? ⟨gc, 0, none⟩ = some vk := by
          rw [h1.cell, Array.getElem?_append_left (by simp)]
          rfl
        have hgkW : Blk W g ty cur := (h3 g (by omega) (by omega)).trans hgk
        have hWs : W5.heap.size ≤ W.heap.size := h4.size
        have H1 := Lib.hid h1
        have H2 := Lib.hid h2
        have H3 := Lib.hid h3
        have H4 := Lib.hid h4
        clear h1 h2 h3 h4
        refine wpIn_region_mid0 l 9 [.det (.pointer (some ⟨gc, 0, none⟩)), .det (.pointer (some ⟨gc, 0, none⟩)), .det (.pointer (some ⟨gc, 0, none⟩)), .det (.pointer (some ⟨gc, 0, none⟩)), .det vk, .det (.slice (some ⟨g, off + 16 * k, none⟩) 16 16), .det (.pointer (some ⟨g, off + 16 * k, none⟩)), .det (.agg (row 16 fun j => F (k * 16 + j))), .any (OneA W (row 16 fun j => F (k * 16 + j)))] _ _ 137 146 (by kernel_rfl) (by kernel_rfl) (fun ⟨_, _, h⟩ => h) rfl rfl rfl rfl rfl (by kernel_rfl) (.pointer (some ⟨gc, 0, none⟩)) rfl (fun W' => W'.cell? ⟨gc + 1, 0, none⟩ = some (.pointer (some ⟨gc, 0, none⟩))) ?_ ?_
        · intro a' w' hlk hreach
          have h13 := hlk 13 (by decide)
          have hev : a'.eval (.tmp 13) = .pointer (some ⟨gc + 1, 0, none⟩) := h13
          exact runs_load25 rfl hev hreach
        · (refine wpE_run rfl rfl (by simp) (fun w1 hx1 _ K hK => by have hc := hx1.cell q13; go_step; exact hK _ (Ext.refl _)) ?_); simp only [put_lit, List.set_cons_succ, List.set_cons_zero]
          (refine wpE_run rfl rfl (by simp) (fun w1 hx1 _ K hK => by have hc := hx1.cell q13; go_step; exact hK _ (Ext.refl _)) ?_); simp only [put_lit, List.set_cons_succ, List.set_cons_zero]
          (first | (refine wpE_move rfl rfl rfl ?_; simp only [put_lit, eval_lit, BigFrame.eval_const, List.set_cons_succ, List.set_cons_zero, List.getD_cons_succ, List.getD_cons_zero]) | (refine wpE_run rfl rfl (by simp) (fun w1 hx1 _ K hK => by go_step; exact hK _ (Ext.refl _)) ?_; simp only [put_lit, List.set_cons_succ, List.set_cons_zero]))
          (first | (refine wpE_move rfl rfl rfl ?_; simp only [put_lit, eval_lit, BigFrame.eval_const, List.set_cons_succ, List.set_cons_zero, List.getD_cons_succ, List.getD_cons_zero]) | (refine wpE_run rfl rfl (by simp) (fun w1 hx1 _ K hK => by go_step; exact hK _ (Ext.refl _)) ?_; simp only [put_lit, List.set_cons_succ, List.set_cons_zero]))
          (refine wpE_run rfl rfl (by simp) (fun w1 hx1 _ K hK => by have hc := hx1.cell q0; go_step; exact hK _ (Ext.refl _)) ?_); simp only [put_lit, List.set_cons_succ, List.set_cons_zero]
          (first | (refine wpE_move rfl rfl rfl ?_; simp only [put_lit, eval_lit, BigFrame.eval_const, List.set_cons_succ, List.set_cons_zero, List.getD_cons_succ, List.getD_cons_zero]) | (refine wpE_run rfl rfl (by simp) (fun w1 hx1 _ K hK => by go_step; exact hK _ (Ext.refl _)) ?_; simp only [put_lit, List.set_cons_succ, List.set_cons_zero]))
          (first | (refine wpE_move rfl rfl rfl ?_; simp only [put_lit, eval_lit, BigFrame.eval_const, List.set_cons_succ, List.set_cons_zero, List.getD_cons_succ, List.getD_cons_zero]) | (refine wpE_run rfl rfl (by simp) (fun w1 hx1 _ K hK => by go_step; exact hK _ (Ext.refl _)) ?_; simp only [put_lit, List.set_cons_succ, List.set_cons_zero]))
          refine wpE_run rfl rfl (by simp) (fun w' hx' _ K hK => wp_loadA 23 _ rfl _ (off + 16 * k) 16 rfl agg23 sz23 _ _ (hgkW.ext hx') (by omega) (row 16 fun j => F (k * 16 + j)) HPT.out (hK _ (Ext.refl _))) ?_
          simp only [put_lit, List.set_cons_succ, List.set_cons_zero]
          refine wpE_any (V := OneA W (row 16 fun j => F (k * 16 + j))) rfl (fun _ _ _ hx h => h.mono hx) rfl (by simp) (fun w1 hx1 _ K hK => wp_one23 51 Try.underlying51 _ rfl _ rfl (hK _ _ (Ext.alloc _ _) ⟨_, rfl, hx1.size, Blk.new _ _ _⟩)) ?_
          intro u145
          simp only [put_lit, List.set_cons_succ, List.set_cons_zero]
          refine wpE_nil ?_
          intro w2 hw2 hF
          simp only [List.drop_succ_cons, List.drop_zero]
          obtain ⟨gn, rfl, hgn', hbn⟩ := hF _ (List.mem_cons_self ..)
          clear hF
          have hws2 := hw2.size
          refine runs_of_wp rfl (by simp) fun K hK => wp_appendK (.tmp 141) (.tmp 145) rfl (gc + 4) vk _ k gn F rfl rfl (H2.out.ext hw2) rfl hbn (by omega) (by omega) ?_
          intro v' w' hv' hg'
          obtain ⟨g', cap', rfl, hg'b⟩ := hv'.form (by omega)
          have hrow : ∀ j, j < gc + 4 → some j ≠ vk.ownBlock := fun j hj e => by have := (KeysF.block H2.out j e.symm).1; omega
          have hbc : Blk w' gc 54 (#[vk] ++ row 256 boxP) := (hg'.block gc (by omega) (hrow gc (by omega))).trans (H1.out.ext hw2)
          have hcc := hbc.cell 0
          have hff := hbc.frozen 0
          rw [Array.getElem?_append_left (by simp)] at hcc
          have hg1 : w'.heap[gc + 1]? = W.heap[gc + 1]? := (hg'.block (gc + 1) (by omega) (hrow (gc + 1) (by omega))).trans (hw2.block (by omega))
          refine hK _ _ ⟨(World.cell?_of_block (a := ⟨gc + 1, 0, none⟩) hg1).trans q13, ?_⟩
          have HB2 := Lib.hid hbc
          have HV' := Lib.hid hv'
          have HG' := Lib.hid hg'
          have HR := Lib.hid hrow
          clear hbc hv' hg' hrow
          simp only [put_lit, List.set_cons_succ, List.set_cons_zero]
          go_wp2_with fail
          have hsame : ∀ j, j < gc + 4 → j ≠ gc → (w'.setCell ⟨gc, 0, none⟩ (.slice (some ⟨g', 0, none⟩) (k + 1) cap')).heap[j]? = W.heap[j]? := fun j h1 h2 =>
            (Below.heap_setCell _ _ _ _ h2).trans ((HG'.out.block j (by omega) (HR.out j h1)).trans (hw2.block (by omega)))
          refine ⟨(keeps_of_ext hw2).trans ((KeepsOthers.of_grownBy HG'.out (fun j o hj ho => ?_)).trans (KeepsOthers.setCell _ _ _)), hsame, ⟨.slice (some ⟨g', 0, none⟩) (k + 1) cap', ?_, ?_⟩, fun j h1 h2 => (hsame j h1 h2).trans (H3.out j h1 h2), ?_⟩
          · obtain ⟨_, o', ho', hc'⟩ := (H2.out.ext hw2).block j hj
            rw [ho] at ho'
            cases ho'
            exact hc'
          · have := HB2.out.set 0 (.slice (some ⟨g', 0, none⟩) (k + 1) cap')
            rw [set_head] at this
            exact this
          · exact HV'.out.kept fun r cs t f hr he => (Below.heap_setCell _ _ _ _ (by show r ≠ gc; omega)).trans he
          · have hs4 : gc ≤ W.heap.size := by omega
            exact ((H4.out.trans (Below.mono hw2 hs4)).grown HG'.out (by omega) (fun j hj => by have := (KeysF.block H2.out j hj).1; omega)).setCell (p := ⟨gc, 0, none⟩) (Nat.le_refl _) _
      case done =>
        rintro D W hD ⟨⟨vk, h1, h2⟩, h3, h4⟩ hDef
        have q13 : W.cell? ⟨gc + 1, 0, none⟩ = some (.pointer (some ⟨gc, 0, none⟩)) := (World.cell?_of_block (a := ⟨gc + 1, 0, none⟩) (h3 (gc + 1) (by omega) (by omega))).trans ((hg13.cell 0).trans rfl)
        have H1 := Lib.hid h1
        have H2 := Lib.hid h2
        have H3 := Lib.hid h3
        have H4 := Lib.hid h4
        clear h1 h2 h3 h4
        have hN : (240 + 15) / 16 = 8 + 7 := by decide
        have H2' : KeysF W (gc + 4) vk (8 + 7) F := H2.out
        go_wp2_with fail
        have hb1 : Below gc W5 (W.putObj D (.deferred none)) := H4.out.trans (belowK_b (w := W5) (by omega) W D _ _ hD hDef rfl rfl)
        have hks : ∀ i j, keysP 8 f i j = F (i * 16 + j) := fun i j => by rw [HF.out]; rfl
        exact marks_retD hDef (by kernel_rfl) ⟨gc, rfl, cph_of_keys (by omega) (H2'.grown (grownBy_putObj' W D _) (fun r e => by cases e; exact ⟨_, hDef, rfl⟩)) ((World.putObj_heap_other (by omega)).trans H1.out) hks (fun i hi => (HW.out i (by omega)).1), hwc, Below.trans hxw (hb1.mono hwc)⟩

end Go.Proofs.Ytnigpobbckampaa
