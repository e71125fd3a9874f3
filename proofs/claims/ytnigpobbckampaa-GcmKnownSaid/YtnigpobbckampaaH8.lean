/- The document's New, walked: keys of 32 bytes. -/
import Derived.Test.YtnigpobbckampaaH1
import Derived.Test.YtnigpobbckampaaH0
import Derived.Deep.DeepCutAuto
namespace Go.Proofs.Ytnigpobbckampaa
open Go.RowKit Go.Shelf
set_option linter.unusedSimpArgs false
set_option linter.unusedVariables false

set_option maxRecDepth 100000 in
set_option maxHeartbeats 1000000 in
theorem refnew8_any (v : Value) (f : Nat → Nat) (w : World) (hv : RdF w v 32 f) :
    Calls Try.prog 20 #[v] w fun e w' => ∃ b, e = .returned (.tuple #[.pointer (some ⟨b, 0, none⟩), .int .i64 0]) ∧ CphR w' b (8 + 7) (keysP 8 f) ∧ w.heap.size ≤ b ∧ Ext w w' := by
  obtain ⟨ao, cap, rfl, hcap⟩ := hv.len
  have HV := Lib.hid hv
  have hlt := hv.lt
  clear hv
  go_enter Try.func20, Try.ntmps20
  go_wp2_with fail
  refine (boxes_any _).mono ?_
  rintro e w1 ⟨rfl, hx1⟩
  go_upto_region 5 with (first | (refine wl_build78 rfl _ rfl boxP rfl ?_) | (refine wl_boxA rfl 78 _ rfl _ rfl ?_))
  have hC0 : Blk (w1.alloc (.cells (#[.slice none 0 0] ++ row 256 boxP) 78)) w1.heap.size 78 (#[.slice none 0 0] ++ row 256 boxP) := Blk.new _ _ _
  have hX0 : Ext w (w1.alloc (.cells (#[.slice none 0 0] ++ row 256 boxP) 78)) := hx1.trans (Ext.alloc _ _)
  have hs2 : (w1.alloc (.cells (#[.slice none 0 0] ++ row 256 boxP) 78)).heap.size = w1.heap.size + 1 := by simp
  have hgw := hx1.size
  clear hx1
  generalize w1.heap.size = gc at hC0 hX0 hs2 hgw ⊢
  generalize w1.alloc (.cells (#[.slice none 0 0] ++ row 256 boxP) 78) = W2 at hC0 hX0 hs2 ⊢
  have HC := Lib.hid hC0
  have HX := Lib.hid hX0
  clear hC0 hX0
  go_wp2_with fail
  go_loopw [6, 7] (fun v6 v7 wr => ∃ i : Nat, i ≤ 8 ∧ v7 = .int .i64 i ∧ WordsF wr (gc + 1) v6 i f ∧ Below (gc + 1) W2 wr) (fun _ v7 _ => 8 - (intOf v7).toNat)
  case atStart => exact ⟨0, by omega, rfl, WordsF.nil _ _ _, Below.refl _ _⟩
  case round =>
    obtain ⟨i, hi, rfl, ho, hb⟩ := hrel
    have HO := Lib.hid ho
    have HB := Lib.hid hb
    clear ho hb
    have hsr := HB.out.size
    by_cases hik : i < 8
    · have hik' : (i : Int) < 8 := by omega
      have hxr : Ext w wr := HX.out.trans (show Ext W2 wr by unfold Ext; rw [hs2]; exact HB.out)
      obtain ⟨g, off, cap', hs, _, hf⟩ := (HV.out.ext hxr).form (by omega)
      obtain ⟨rfl, rfl⟩ : ao = some ⟨g, off, none⟩ ∧ cap = cap' := by cases hs; exact ⟨rfl, rfl⟩
      have r0 := (hf (4 * i) (by omega)).2
      have r1 := (hf (4 * i + 1) (by omega)).2
      have r2 := (hf (4 * i + 2) (by omega)).2
      have r3 := (hf (4 * i + 3) (by omega)).2
      have HR := Lib.hid (show Value.agg #[.int .u8 ((f (4 * i) : Nat) : Int), .int .u8 ((f (4 * i + 1) : Nat) : Int), .int .u8 ((f (4 * i + 2) : Nat) : Int), .int .u8 ((f (4 * i + 3) : Nat) : Int)] = .agg (row 4 fun j => f (i * 4 + j)) from by
        rw [row4]
        simp [Nat.mul_comm])
      clear hf hs hxr
      go_wp2_with fail
      apply wp_region_mid 26 [.det _, .det _, .det _, .det _, .det _, .det _, .det _, .det _, .det _, .det _, .det _, .det _, .det _, .det _, .det _, .det _, .det _, .det _, .det _, .det _, .det _, .det _, .det _, .det _, .det _, .any (OneW wr (row 4 fun j => f (i * 4 + j)))] (by kernel_rfl) rfl (by kernel_rfl)
      · (first | (refine wpE_move rfl rfl rfl ?_; simp only [put_lit, eval_lit, BigFrame.eval_const, List.set_cons_succ, List.set_cons_zero, List.getD_cons_succ, List.getD_cons_zero]) | (refine wpE_run rfl rfl (by simp) (fun w1 hx1 _ K hK => by go_step; exact hK _ (Ext.refl _)) ?_; simp only [put_lit, List.set_cons_succ, List.set_cons_zero]))
        (first | (refine wpE_move rfl rfl rfl ?_; simp only [put_lit, eval_lit, BigFrame.eval_const, List.set_cons_succ, List.set_cons_zero, List.getD_cons_succ, List.getD_cons_zero]) | (refine wpE_run rfl rfl (by simp) (fun w1 hx1 _ K hK => by go_step; exact hK _ (Ext.refl _)) ?_; simp only [put_lit, List.set_cons_succ, List.set_cons_zero]))
        (first | (refine wpE_move rfl rfl rfl ?_; simp only [put_lit, eval_lit, BigFrame.eval_const, List.set_cons_succ, List.set_cons_zero, List.getD_cons_succ, List.getD_cons_zero]) | (refine wpE_run rfl rfl (by simp) (fun w1 hx1 _ K hK => by go_step; exact hK _ (Ext.refl _)) ?_; simp only [put_lit, List.set_cons_succ, List.set_cons_zero]))
        (first | (refine wpE_move rfl rfl rfl ?_; simp only [put_lit, eval_lit, BigFrame.eval_const, List.set_cons_succ, List.set_cons_zero, List.getD_cons_succ, List.getD_cons_zero]) | (refine wpE_run rfl rfl (by simp) (fun w1 hx1 _ K hK => by go_step; exact hK _ (Ext.refl _)) ?_; simp only [put_lit, List.set_cons_succ, List.set_cons_zero]))
        (first | (refine wpE_move rfl rfl rfl ?_; simp only [put_lit, eval_lit, BigFrame.eval_const, List.set_cons_succ, List.set_cons_zero, List.getD_cons_succ, List.getD_cons_zero]) | (refine wpE_run rfl rfl (by simp) (fun w1 hx1 _ K hK => by go_step; exact hK _ (Ext.refl _)) ?_; simp only [put_lit, List.set_cons_succ, List.set_cons_zero]))
        (refine wpE_run rfl rfl (by simp) (fun w1 hx1 _ K hK => by have hc := hx1.cell r0; go_step; exact hK _ (Ext.refl _)) ?_); simp only [put_lit, List.set_cons_succ, List.set_cons_zero]
        (first | (refine wpE_move rfl rfl rfl ?_; simp only [put_lit, eval_lit, BigFrame.eval_const, List.set_cons_succ, List.set_cons_zero, List.getD_cons_succ, List.getD_cons_zero]) | (refine wpE_run rfl rfl (by simp) (fun w1 hx1 _ K hK => by go_step; exact hK _ (Ext.refl _)) ?_; simp only [put_lit, List.set_cons_succ, List.set_cons_zero]))
        (first | (refine wpE_move rfl rfl rfl ?_; simp only [put_lit, eval_lit, BigFrame.eval_const, List.set_cons_succ, List.set_cons_zero, List.getD_cons_succ, List.getD_cons_zero]) | (refine wpE_run rfl rfl (by simp) (fun w1 hx1 _ K hK => by go_step; exact hK _ (Ext.refl _)) ?_; simp only [put_lit, List.set_cons_succ, List.set_cons_zero]))
        (first | (refine wpE_move rfl rfl rfl ?_; simp only [put_lit, eval_lit, BigFrame.eval_const, List.set_cons_succ, List.set_cons_zero, List.getD_cons_succ, List.getD_cons_zero]) | (refine wpE_run rfl rfl (by simp) (fun w1 hx1 _ K hK => by go_step; exact hK _ (Ext.refl _)) ?_; simp only [put_lit, List.set_cons_succ, List.set_cons_zero]))
        (first | (refine wpE_move rfl rfl rfl ?_; simp only [put_lit, eval_lit, BigFrame.eval_const, List.set_cons_succ, List.set_cons_zero, List.getD_cons_succ, List.getD_cons_zero]) | (refine wpE_run rfl rfl (by simp) (fun w1 hx1 _ K hK => by go_step; exact hK _ (Ext.refl _)) ?_; simp only [put_lit, List.set_cons_succ, List.set_cons_zero]))
        (first | (refine wpE_move rfl rfl rfl ?_; simp only [put_lit, eval_lit, BigFrame.eval_const, List.set_cons_succ, List.set_cons_zero, List.getD_cons_succ, List.getD_cons_zero]) | (refine wpE_run rfl rfl (by simp) (fun w1 hx1 _ K hK => by go_step; exact hK _ (Ext.refl _)) ?_; simp only [put_lit, List.set_cons_succ, List.set_cons_zero]))
        (refine wpE_run rfl rfl (by simp) (fun w1 hx1 _ K hK => by have hc := hx1.cell r1; go_step; exact hK _ (Ext.refl _)) ?_); simp only [put_lit, List.set_cons_succ, List.set_cons_zero]
        (first | (refine wpE_move rfl rfl rfl ?_; simp only [put_lit, eval_lit, BigFrame.eval_const, List.set_cons_succ, List.set_cons_zero, List.getD_cons_succ, List.getD_cons_zero]) | (refine wpE_run rfl rfl (by simp) (fun w1 hx1 _ K hK => by go_step; exact hK _ (Ext.refl _)) ?_; simp only [put_lit, List.set_cons_succ, List.set_cons_zero]))
        (first | (refine wpE_move rfl rfl rfl ?_; simp only [put_lit, eval_lit, BigFrame.eval_const, List.set_cons_succ, List.set_cons_zero, List.getD_cons_succ, List.getD_cons_zero]) | (refine wpE_run rfl rfl (by simp) (fun w1 hx1 _ K hK => by go_step; exact hK _ (Ext.refl _)) ?_; simp only [put_lit, List.set_cons_succ, List.set_cons_zero]))
        (first | (refine wpE_move rfl rfl rfl ?_; simp only [put_lit, eval_lit, BigFrame.eval_const, List.set_cons_succ, List.set_cons_zero, List.getD_cons_succ, List.getD_cons_zero]) | (refine wpE_run rfl rfl (by simp) (fun w1 hx1 _ K hK => by go_step; exact hK _ (Ext.refl _)) ?_; simp only [put_lit, List.set_cons_succ, List.set_cons_zero]))
        (first | (refine wpE_move rfl rfl rfl ?_; simp only [put_lit, eval_lit, BigFrame.eval_const, List.set_cons_succ, List.set_cons_zero, List.getD_cons_succ, List.getD_cons_zero]) | (refine wpE_run rfl rfl (by simp) (fun w1 hx1 _ K hK => by go_step; exact hK _ (Ext.refl _)) ?_; simp only [put_lit, List.set_cons_succ, List.set_cons_zero]))
        (first | (refine wpE_move rfl rfl rfl ?_; simp only [put_lit, eval_lit, BigFrame.eval_const, List.set_cons_succ, List.set_cons_zero, List.getD_cons_succ, List.getD_cons_zero]) | (refine wpE_run rfl rfl (by simp) (fun w1 hx1 _ K hK => by go_step; exact hK _ (Ext.refl _)) ?_; simp only [put_lit, List.set_cons_succ, List.set_cons_zero]))
        (refine wpE_run rfl rfl (by simp) (fun w1 hx1 _ K hK => by have hc := hx1.cell r2; go_step; exact hK _ (Ext.refl _)) ?_); simp only [put_lit, List.set_cons_succ, List.set_cons_zero]
        (first | (refine wpE_move rfl rfl rfl ?_; simp only [put_lit, eval_lit, BigFrame.eval_const, List.set_cons_succ, List.set_cons_zero, List.getD_cons_succ, List.getD_cons_zero]) | (refine wpE_run rfl rfl (by simp) (fun w1 hx1 _ K hK => by go_step; exact hK _ (Ext.refl _)) ?_; simp only [put_lit, List.set_cons_succ, List.set_cons_zero]))
        (first | (refine wpE_move rfl rfl rfl ?_; simp only [put_lit, eval_lit, BigFrame.eval_const, List.set_cons_succ, List.set_cons_zero, List.getD_cons_succ, List.getD_cons_zero]) | (refine wpE_run rfl rfl (by simp) (fun w1 hx1 _ K hK => by go_step; exact hK _ (Ext.refl _)) ?_; simp only [put_lit, List.set_cons_succ, List.set_cons_zero]))
        (first | (refine wpE_move rfl rfl rfl ?_; simp only [put_lit, eval_lit, BigFrame.eval_const, List.set_cons_succ, List.set_cons_zero, List.getD_cons_succ, List.getD_cons_zero]) | (refine wpE_run rfl rfl (by simp) (fun w1 hx1 _ K hK => by go_step; exact hK _ (Ext.refl _)) ?_; simp only [put_lit, List.set_cons_succ, List.set_cons_zero]))
        (first | (refine wpE_move rfl rfl rfl ?_; simp only [put_lit, eval_lit, BigFrame.eval_const, List.set_cons_succ, List.set_cons_zero, List.getD_cons_succ, List.getD_cons_zero]) | (refine wpE_run rfl rfl (by simp) (fun w1 hx1 _ K hK => by go_step; exact hK _ (Ext.refl _)) ?_; simp only [put_lit, List.set_cons_succ, List.set_cons_zero]))
        (first | (refine wpE_move rfl rfl rfl ?_; simp only [put_lit, eval_lit, BigFrame.eval_const, List.set_cons_succ, List.set_cons_zero, List.getD_cons_succ, List.getD_cons_zero]) | (refine wpE_run rfl rfl (by simp) (fun w1 hx1 _ K hK => by go_step; exact hK _ (Ext.refl _)) ?_; simp only [put_lit, List.set_cons_succ, List.set_cons_zero]))
        (refine wpE_run rfl rfl (by simp) (fun w1 hx1 _ K hK => by have hc := hx1.cell r3; go_step; exact hK _ (Ext.refl _)) ?_); simp only [put_lit, List.set_cons_succ, List.set_cons_zero]
        (first | (refine wpE_move rfl rfl rfl ?_; simp only [put_lit, eval_lit, BigFrame.eval_const, List.set_cons_succ, List.set_cons_zero, List.getD_cons_succ, List.getD_cons_zero]) | (refine wpE_run rfl rfl (by simp) (fun w1 hx1 _ K hK => by go_step; exact hK _ (Ext.refl _)) ?_; simp only [put_lit, List.set_cons_succ, List.set_cons_zero]))
        refine wpE_any (V := OneW wr (row 4 fun j => f (i * 4 + j))) rfl (fun _ _ _ hx h => h.mono hx) rfl (by simp) (fun w1 hx1 _ K hK => wp_one80 _ rfl _ HR.out (hK _ _ (Ext.alloc _ _) ⟨_, rfl, hx1.size, Blk.new _ _ _⟩)) ?_
        intro u57
        simp only [put_lit, List.set_cons_succ, List.set_cons_zero]
        refine wpE_nil ?_
        intro w2 hw2 hF
        simp only [List.drop_succ_cons, List.drop_zero]
        obtain ⟨gn, rfl, hgn', hbn⟩ := hF _ (List.mem_cons_self ..)
        have hws2 := hw2.size
        clear hF r0 r1 r2 r3
        refine wl_appendW rfl (.tmp 32) (.tmp 57) rfl (gc + 1) _ _ i gn f rfl rfl (HO.out.ext hw2) rfl hbn (by omega) (by omega) ?_
        intro v' w' hv' hg'
        have HV' := Lib.hid hv'
        have HG' := Lib.hid hg'
        have HW2 := Lib.hid hw2
        clear hv' hg' hw2 hbn
        go_wp2_with fail
        go_roundw
        case rel =>
          exact ⟨i + 1, by omega, by go_num, HV'.out, (HB.out.trans (Below.mono HW2.out (by omega))).grown HG'.out (by omega) (fun j hj => (WordsF.block HO.out j hj).1)⟩
        case measure => simp [intOf]; omega
    · obtain rfl : i = 8 := by omega
      clear hi hik
      simp only [show ((8 : Nat) : Int) = 8 from rfl]
      go_wp2_with fail
      go_loopw [6, 8] (fun v6 v8 wq => ∃ t : Nat, t ≤ 52 ∧ v8 = .int .u8 (((xp 8 f t).2 : Nat) : Int) ∧ WordsF wq (gc + 1) v6 (8 + t) (xp 8 f t).1 ∧ Below (gc + 1) W2 wq) (fun v6 _ _ => 60 - lenOf v6)
      case atStart => exact ⟨0, by omega, rfl, HO.out, HB.out⟩
      case round =>
        clear HO HB hsr
        obtain ⟨t, ht, rfl, ho, hb⟩ := hrel
        have hsr := hb.size
        have hps := xp_lt 8 (by omega) f (fun m hm => hlt m (by omega)) t
        obtain ⟨F, hF⟩ : ∃ F, (xp 8 f t).1 = F := ⟨_, rfl⟩
        obtain ⟨p, hp⟩ : ∃ p, (xp 8 f t).2 = p := ⟨_, rfl⟩
        obtain ⟨m, hm⟩ : ∃ m, m = 8 + t := ⟨_, rfl⟩
        rw [hF, hp, ← hm] at hps
        rw [hF, ← hm] at ho
        rw [hp]
        have HE1 := Lib.hid hF
        have HE2 := Lib.hid hp
        have HO := Lib.hid ho
        have HB := Lib.hid hb
        have HL := Lib.hid hps.1
        have hpl : p < 256 := hps.2
        obtain ⟨g, cap6, cur, rfl, hgb, hblk, hle, hszc, hcur⟩ := ho.form (by omega)
        have HK := Lib.hid hblk
        have HU := Lib.hid hcur
        have hm4 : 8 ≤ m := by omega
        have hmT : m ≤ 60 := by omega
        have HM := Lib.hid hm
        have HT := Lib.hid ht
        clear hF hp ho hb hps hblk hcur hm ht
        by_cases htc : m < 60
        · have ht' : (m : Int) < 60 := by omega
          have hCr := HC.out.below HB.out (by omega)
          have HCr := Lib.hid hCr
          clear hCr
          go_wp2_with (refine wl_loadA rfl 52 _ rfl gc 1 256 rfl agg52 sz52 _ _ HCr.out (by simp [row_size]) (row 256 boxP) (head_part _ _) ?_)
          refine (word8_any _ m p (gc + 1) F _ (by omega) (by omega) hpl HL.out HO.out).mono ?_
          rintro e w3 ⟨rfl, hx3⟩
          have hrowF : row 4 (fun j => xword 8 F p m j ^^^ F (4 * (m - 8) + j)) = row 4 (fun j => xstep 8 F p m (m * 4 + j)) := row_congr fun j hj => by
            unfold xstep
            rw [if_neg (by omega), show m * 4 + j - 4 * m = j by omega]
          rw [hrowF]
          have HO3 := Lib.hid ((HO.out.ext hx3).congr (G := xstep 8 F p m) (fun i hi => by unfold xstep; rw [if_pos (by omega)]))
          have hs3 := hx3.size
          have HB3 := Lib.hid (HB.out.trans (Below.mono hx3 (by omega)))
          clear hrowF hx3 HO HK HU HCr
          go_upto_region 14 with (refine wl_one80 rfl (.tmp 78) rfl (fun j => xstep 8 F p m (m * 4 + j)) rfl ?_
                                  have hn : Blk (w3.alloc (.cells (row 4 fun j => xstep 8 F p m (m * 4 + j)) 80)) w3.heap.size 80 (row 4 fun j => xstep 8 F p m (m * 4 + j)) := Blk.new _ _ _
                                  have ho4 : WordsF (w3.alloc (.cells (row 4 fun j => xstep 8 F p m (m * 4 + j)) 80)) (gc + 1) (.slice (some ⟨g, 0, none⟩) m cap6) m (xstep 8 F p m) := HO3.out.ext (Ext.alloc _ _)
                                  have hb4 : Below (gc + 1) W2 (w3.alloc (.cells (row 4 fun j => xstep 8 F p m (m * 4 + j)) 80)) := HB3.out.alloc (by omega) _
                                  generalize w3.heap.size = gn at hn ⊢
                                  generalize w3.alloc (.cells (row 4 fun j => xstep 8 F p m (m * 4 + j)) 80) = w4 at hn ho4 hb4 ⊢
                                  have HO4 := Lib.hid ho4
                                  have HB4 := Lib.hid hb4
                                  have hs4 := hb4.size
                                  refine wl_appendW rfl (.tmp 70) (.tmp 79) rfl (gc + 1) _ _ m gn (xstep 8 F p m) rfl rfl ho4 rfl hn (by omega) (by omega) ?_
                                  clear hn ho4 hb4
                                  intro v' w' hv' hg'
                                  have HV' := Lib.hid hv'
                                  have HG' := Lib.hid hg'
                                  clear hv' hg')
          have HG := Lib.hid (HB4.out.grown HG'.out (by omega) (fun j hj => (WordsF.block HO4.out j hj).1))
          have hv' := HV'.out
          obtain ⟨g', cap', cur', rfl, _⟩ := hv'.form (by omega)
          have HV := Lib.hid hv'
          clear hv' HV' HG'
          by_cases hmk : m % 8 = 0
          · have hb : ((m : Int) % 8 == 0) = true := by simp; omega
            go_wp2_with fail
            refine (refmul_ext p 2 hpl (by omega) _).mono ?_
            rintro e w5 ⟨rfl, hx5⟩
            go_wp2_with fail
            go_roundw
            case rel =>
              refine ⟨t + 1, by have := HM.out; omega, ?_, ?_, HG.out.trans (Below.mono hx5 (by have := HG.out.size; omega))⟩
              · simp only [xp, xpow, HE2.out, mulP_two p hpl, ← HM.out, if_pos hmk]
              · have := HV.out.ext hx5
                simp only [xp, HE1.out, HE2.out, ← HM.out]
                rw [show 8 + (t + 1) = m + 1 by have := HM.out; omega]
                exact this
            case measure => simp [lenOf]; omega
          · have hb : ((m : Int) % 8 == 0) = false := by simp; omega
            go_wp2_with fail
            go_roundw
            case rel =>
              refine ⟨t + 1, by have := HM.out; omega, ?_, ?_, HG.out⟩
              · simp only [xp, xpow, HE2.out, ← HM.out, if_neg hmk]
              · simp only [xp, HE1.out, HE2.out, ← HM.out]
                rw [show 8 + (t + 1) = m + 1 by have := HM.out; omega]
                exact HV.out
            case measure => simp [lenOf]; omega
        · obtain rfl : t = 52 := by have := HM.out; have := HT.out; omega
          obtain rfl : m = 60 := by omega
          have hCr := HC.out.below HB.out (by omega)
          have hgl := HK.out.lt
          obtain ⟨S3, hS3⟩ : ∃ S3, S3 = wr.heap.size := ⟨_, rfl⟩
          have hB0 : Below gc W2 wr := HB.out.mono (by omega)
          have hgS : g < S3 := by omega
          have hcS : gc + 1 ≤ S3 := by omega
          have hSr : S3 ≤ wr.heap.size := by omega
          have HC3 := Lib.hid hCr
          have HB3 := Lib.hid hB0
          have HK3 := Lib.hid HK.out
          clear hS3 hCr hB0 HO HB HK hgl
          go_wp2_with fail
          go_loopw [10] (fun v10 wq => ∃ r : Nat, r ≤ 8 + 7 ∧ v10 = .int .i64 r ∧ (∃ vk, Blk wq gc 78 (#[vk] ++ row 256 boxP) ∧ KeysF wq S3 vk r F) ∧ Blk wq g 80 cur ∧ Below gc W2 wq ∧ S3 ≤ wq.heap.size) (fun v10 _ => 8 + 7 - (intOf v10).toNat)
          case atStart => exact ⟨0, by omega, rfl, ⟨_, HC3.out, KeysF.nil _ _ _⟩, HK3.out, HB3.out, hSr⟩
          case round =>
            clear HC3 HK3 HB3 hSr hsr
            obtain ⟨r, hr, rfl, ⟨vk, hcb, hkf⟩, hgb3, hbel, hSr⟩ := hrel
            have HC3 := Lib.hid hcb
            have HK3 := Lib.hid hkf
            have HG3 := Lib.hid hgb3
            have HB3 := Lib.hid hbel
            clear hcb hkf hgb3 hbel
            by_cases hrk : r < 8 + 7
            · have hrk' : (r : Int) < 8 + 7 := by omega
              obtain ⟨wo, rfl⟩ : ∃ wo : World, wo = wr := ⟨_, rfl⟩
              go_wp2_with (refine wl_allocA rfl 23 rfl _ zero23 ?_)
              have hz0 : Blk (wo.alloc (.cells (row 16 fun _ => 0) 23)) wo.heap.size 23 (row 16 fun _ => 0) := Blk.new _ _ _
              have hx0 : Ext wo (wo.alloc (.cells (row 16 fun _ => 0) 23)) := Ext.alloc _ _
              generalize wo.alloc (.cells (row 16 fun _ => 0) 23) = wz at hz0 hx0 ⊢
              obtain ⟨gr, hgr⟩ : ∃ gr, gr = wo.heap.size := ⟨_, rfl⟩
              have HGR := Lib.hid hgr
              have hgrS : S3 ≤ gr := by omega
              rw [← hgr] at hz0 ⊢
              clear hgr
              go_loopw [12] (fun v12 wz => ∃ j : Nat, j ≤ 16 ∧ v12 = .int .i64 j ∧ Blk wz gr 23 (row 16 (mixF j (fun j => F (r * 16 + j)) fun _ => 0)) ∧ Ext wo wz) (fun v12 _ => 16 - (intOf v12).toNat)
              case atStart => exact ⟨0, by omega, rfl, by rw [mixF_zero]; exact hz0, hx0⟩
              case round =>
                clear hz0 hx0
                obtain ⟨j, hj, rfl, hz, hx⟩ := hrel
                have HZ := Lib.hid hz
                have HXo := Lib.hid hx
                clear hz hx
                by_cases hj16 : j < 16
                · have hj' : (j : Int) < 16 := by omega
                  have c1 : wr.cell? ⟨g, (4 * r + j / 4) * 4 + j % 4, none⟩ = some (.int .u8 ((F (r * 16 + j) : Nat) : Int)) := by
                    rw [(HG3.out.ext HXo.out).cell, show (4 * r + j / 4) * 4 + j % 4 = r * 16 + j by omega]
                    exact HU.out _ (by omega)
                  have c2 := HZ.out.byte j hj16
                  have f2 := HZ.out.frozen j
                  go_wp2_with fail
                  go_roundw
                  case rel =>
                    refine ⟨j + 1, by omega, by go_num, ?_, HXo.out.setCell (by have := HGR.out; simp; omega) _⟩
                    rw [← mixF_upd]
                    exact HZ.out.setB j _
                  case measure => simp [intOf]; omega
                · obtain rfl : j = 16 := by omega
                  have hz := HZ.out
                  rw [show row 16 (mixF 16 (fun j => F (r * 16 + j)) fun _ => 0) = row 16 (fun j => F (r * 16 + j)) from row_congr fun j hj => by simp only [mixF, if_pos hj]] at hz
                  have HR := Lib.hid hz
                  have HC4 := Lib.hid (HC3.out.ext HXo.out)
                  have HK4 := Lib.hid (HK3.out.ext HXo.out)
                  have HG4 := Lib.hid (HG3.out.ext HXo.out)
                  have HB4 := Lib.hid (HB3.out.trans (Below.mono HXo.out (by omega)))
                  have hSz := HXo.out.size
                  clear hz HZ hj hj16
                  have q0 : wr.cell? ⟨gc, 0, none⟩ = some vk := by
                    rw [HC4.out.cell, Array.getElem?_append_left (by simp)]
                    rfl
                  go_upto_region 24 with fail
                  refine wp_region_mid0 7 [.det (.pointer (some ⟨gc, 0, none⟩)), .det (.pointer (some ⟨gc, 0, none⟩)), .det (.pointer (some ⟨gc, 0, none⟩)), .det (.pointer (some ⟨gc, 0, none⟩)), .det vk, .det (.agg (row 16 fun j => F (r * 16 + j))), .any (OneA wr (row 16 fun j => F (r * 16 + j)))] _ _ 107 114 (by kernel_rfl) rfl rfl rfl rfl rfl (by kernel_rfl) (.pointer (some ⟨gc, 0, none⟩)) rfl (fun _ => True) ?_ ?_
                  · intro a' w' hlk _
                    have h5 := hlk 5 (by decide)
                    exact runs_move rfl h5
                  · (first | (refine wpE_move rfl rfl rfl ?_; simp only [put_lit, eval_lit, BigFrame.eval_const, List.set_cons_succ, List.set_cons_zero, List.getD_cons_succ, List.getD_cons_zero]) | (refine wpE_run rfl rfl (by simp) (fun w1 hx1 _ K hK => by go_step; exact hK _ (Ext.refl _)) ?_; simp only [put_lit, List.set_cons_succ, List.set_cons_zero]))
                    (first | (refine wpE_move rfl rfl rfl ?_; simp only [put_lit, eval_lit, BigFrame.eval_const, List.set_cons_succ, List.set_cons_zero, List.getD_cons_succ, List.getD_cons_zero]) | (refine wpE_run rfl rfl (by simp) (fun w1 hx1 _ K hK => by go_step; exact hK _ (Ext.refl _)) ?_; simp only [put_lit, List.set_cons_succ, List.set_cons_zero]))
                    (first | (refine wpE_move rfl rfl rfl ?_; simp only [put_lit, eval_lit, BigFrame.eval_const, List.set_cons_succ, List.set_cons_zero, List.getD_cons_succ, List.getD_cons_zero]) | (refine wpE_run rfl rfl (by simp) (fun w1 hx1 _ K hK => by go_step; exact hK _ (Ext.refl _)) ?_; simp only [put_lit, List.set_cons_succ, List.set_cons_zero]))
                    (first | (refine wpE_move rfl rfl rfl ?_; simp only [put_lit, eval_lit, BigFrame.eval_const, List.set_cons_succ, List.set_cons_zero, List.getD_cons_succ, List.getD_cons_zero]) | (refine wpE_run rfl rfl (by simp) (fun w1 hx1 _ K hK => by go_step; exact hK _ (Ext.refl _)) ?_; simp only [put_lit, List.set_cons_succ, List.set_cons_zero]))
                    (refine wpE_run rfl rfl (by simp) (fun w1 hx1 _ K hK => by have hc := hx1.cell q0; go_step; exact hK _ (Ext.refl _)) ?_); simp only [put_lit, List.set_cons_succ, List.set_cons_zero]
                    refine wpE_run rfl rfl (by simp) (fun w' hx' _ K hK => wp_loadA 23 _ rfl _ 0 16 rfl agg23 sz23 _ _ (HR.out.ext hx') (by simp [row_size]) (row 16 fun j => F (r * 16 + j)) (row_whole _ _) (hK _ (Ext.refl _))) ?_
                    simp only [put_lit, List.set_cons_succ, List.set_cons_zero]
                    refine wpE_any (V := OneA wr (row 16 fun j => F (r * 16 + j))) rfl (fun _ _ _ hx h => h.mono hx) rfl (by simp) (fun w1 hx1 _ K hK => wp_one23 51 Try.underlying51 _ rfl _ rfl (hK _ _ (Ext.alloc _ _) ⟨_, rfl, hx1.size, Blk.new _ _ _⟩)) ?_
                    intro u113
                    simp only [put_lit, List.set_cons_succ, List.set_cons_zero]
                    refine wpE_nil ?_
                    intro w2 hw2 hF
                    simp only [List.drop_succ_cons, List.drop_zero]
                    obtain ⟨gn, rfl, hgn', hbn⟩ := hF _ (List.mem_cons_self ..)
                    clear hF q0
                    have hws2 := hw2.size
                    refine runs_of_wp rfl (by simp) fun K hK => wp_appendK (.tmp 111) (.tmp 113) rfl S3 vk _ r gn F rfl rfl (HK4.out.ext hw2) rfl hbn (by omega) (by omega) ?_
                    intro v' w' hv' hg'
                    obtain ⟨g', cap', rfl, hg'b⟩ := hv'.form (by omega)
                    have hrow : ∀ j, j < S3 → some j ≠ vk.ownBlock := fun j hj e => by have := (KeysF.block HK4.out j e.symm).1; omega
                    have hbc : Blk w' gc 78 (#[vk] ++ row 256 boxP) := (hg'.block gc (by have := HC4.out.lt; omega) (hrow gc (by omega))).trans (HC4.out.ext hw2)
                    have hbg : Blk w' g 80 cur := (hg'.block g (by omega) (hrow g (by omega))).trans (HG4.out.ext hw2)
                    have hbw : Below gc W2 w' := (HB4.out.trans (Below.mono hw2 (by omega))).grown hg' (by omega) (fun j hj => by have := (KeysF.block HK4.out j hj).1; omega)
                    have hsw := hg'.size
                    have hcc := hbc.cell 0
                    have hff := hbc.frozen 0
                    rw [Array.getElem?_append_left (by simp)] at hcc
                    refine hK _ _ ⟨trivial, ?_⟩
                    have HB2 := Lib.hid hbc
                    have HV' := Lib.hid hv'
                    have HGg := Lib.hid hbg
                    have HBw := Lib.hid hbw
                    clear hbc hv' hg' hbg hbw hrow hbn hw2
                    simp only [put_lit, List.set_cons_succ, List.set_cons_zero]
                    go_wp2_with fail
                    go_roundw
                    case rel =>
                      refine ⟨r + 1, by omega, by go_num, ⟨.slice (some ⟨g', 0, none⟩) (r + 1) cap', ?_, ?_⟩, HGg.out.other _ (by simp; omega), HBw.out.setCell (by simp) _, by simp; omega⟩
                      · have := HB2.out.set 0 (.slice (some ⟨g', 0, none⟩) (r + 1) cap')
                        rw [set_head] at this
                        exact this
                      · exact HV'.out.kept fun r cs t f hr he => (Below.heap_setCell _ _ _ _ (by show r ≠ gc; omega)).trans he
                    case measure => simp [intOf]; omega
            · obtain rfl : r = 8 + 7 := by omega
              go_wp2_with fail
              have hks : ∀ i j, keysP 8 f i j = F (i * 16 + j) := fun i j => by rw [← HE1.out]; rfl
              refine bodyPost_ret (v := .tuple #[.pointer (some ⟨gc, 0, none⟩), .int .i64 0]) (by kernel_rfl) rfl ?_
              exact ⟨gc, rfl, cphR_of_keys (by omega) HK3.out HC3.out hks (fun i hi => HL.out i (by omega)), hgw, Below.trans HX.out (Below.mono HB3.out hgw)⟩

end Go.Proofs.Ytnigpobbckampaa
