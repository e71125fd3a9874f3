/- The document's tag, Seal and Open: walked. -/
import Derived.Test.YtnigpobbckampaaJ6
import Derived.Test.YtnigpobbckampaaY9
import Derived.Test.YtnigpobbckampaaR1
namespace Go.Proofs.Ytnigpobbckampaa
open Go.RowKit
set_option linter.unusedSimpArgs false
set_option linter.unusedVariables false

/-- All that is summed: the head and the text, filled up, and their numbers of bits. -/
def tagA1 (nh : Nat) (fh fs' : Nat → Nat) : Nat → Nat := fun i => if i < 16 * ((nh + 15) / 16) then fh i else fs' (i - 16 * ((nh + 15) / 16))
def tagA2 (ns nh : Nat) (fs fh : Nat → Nat) : Nat → Nat := fun i => if i < 16 * ((nh + 15) / 16) + 16 * ((ns + 15) / 16) then tagA1 nh (fixF nh fh) (fixF ns fs) i else eightF (8 * nh) (i - (16 * ((nh + 15) / 16) + 16 * ((ns + 15) / 16)))
def tagA (ns nh : Nat) (fs fh : Nat → Nat) : Nat → Nat := fun i => if i < 16 * ((nh + 15) / 16) + 16 * ((ns + 15) / 16) + 8 then tagA2 ns nh fs fh i else eightF (8 * ns) (i - (16 * ((nh + 15) / 16) + 16 * ((ns + 15) / 16) + 8))
theorem be_eight (n : Nat) (hn : n ≤ 1000000) : be (eightF n) 8 = n := by
  simp only [be, eightF]
  omega
theorem tag_sum (H : Nat) (ns nh : Nat) (fs fh : Nat → Nat) (hns : ns ≤ 100000) (hnh : nh ≤ 100000) :
    sm H (fullP (16 * ((nh + 15) / 16 + (ns + 15) / 16 + 1)) (tagA ns nh fs fh)) ((nh + 15) / 16 + (ns + 15) / 16 + 1) = tms (sm H (blks nh ns fh fs) ((nh + 15) / 16 + (ns + 15) / 16) ^^^ (8 * nh * 18446744073709551616 + 8 * ns)) H := by
  simp only [sm]
  have h1 : sm H (fullP (16 * ((nh + 15) / 16 + (ns + 15) / 16 + 1)) (tagA ns nh fs fh)) ((nh + 15) / 16 + (ns + 15) / 16) = sm H (blks nh ns fh fs) ((nh + 15) / 16 + (ns + 15) / 16) := by
    refine sm_congr H _ fun i hi j hj => ?_
    unfold blks fullP
    rw [if_pos (by omega)]
    unfold tagA
    rw [if_pos (by omega)]
    unfold tagA2
    rw [if_pos (by omega)]
    unfold tagA1
    by_cases h : i < (nh + 15) / 16
    · rw [if_pos (by omega), if_pos h]
      rfl
    · rw [if_neg (by omega), if_neg h]
      unfold fixF
      rw [show 16 * i + j - 16 * ((nh + 15) / 16) = 16 * (i - (nh + 15) / 16) + j by omega]
  have h2 : be (fullP (16 * ((nh + 15) / 16 + (ns + 15) / 16 + 1)) (tagA ns nh fs fh) ((nh + 15) / 16 + (ns + 15) / 16)) 16 = 8 * nh * 18446744073709551616 + 8 * ns := by
    have h := be_split (fullP (16 * ((nh + 15) / 16 + (ns + 15) / 16 + 1)) (tagA ns nh fs fh) ((nh + 15) / 16 + (ns + 15) / 16)) 8 8
    rw [show 8 + 8 = 16 from rfl] at h
    rw [h]
    have h3 : be (fullP (16 * ((nh + 15) / 16 + (ns + 15) / 16 + 1)) (tagA ns nh fs fh) ((nh + 15) / 16 + (ns + 15) / 16)) 8 = 8 * nh := by
      rw [← be_eight (8 * nh) (by omega)]
      refine be_congr 8 fun j hj => ?_
      unfold fullP
      rw [if_pos (by omega)]
      unfold tagA
      rw [if_pos (by omega)]
      unfold tagA2
      rw [if_neg (by omega)]
      congr 1
      omega
    have h4 : be (fun j => fullP (16 * ((nh + 15) / 16 + (ns + 15) / 16 + 1)) (tagA ns nh fs fh) ((nh + 15) / 16 + (ns + 15) / 16) (8 + j)) 8 = 8 * ns := by
      rw [← be_eight (8 * ns) (by omega)]
      refine be_congr 8 fun j hj => ?_
      unfold fullP
      rw [if_pos (by omega)]
      unfold tagA
      rw [if_neg (by omega)]
      congr 1
      omega
    rw [h3, h4]
  rw [h1, h2]

set_option maxRecDepth 100000 in
set_option maxHeartbeats 1000000 in
theorem reftag65_any (vs vh : Value) (ns nh b K : Nat) (fs fh nonce : Nat → Nat) (ks : Nat → Nat → Nat) (w : World) (hns : ns ≤ 100000) (hnh : nh ≤ 100000) (hvs : RdF w vs ns fs) (hvh : RdF w vh nh fh) (hNl : ∀ j, j < 12 → nonce j < 256)
    (hC : CphR w b K ks) (hK : 2 ≤ K) (hK2 : K ≤ 1000) (hks : ∀ i, i < K → ∀ j, j < 16 → ks i j < 256) :
    Calls Try.prog 65 #[.pointer (some ⟨b, 0, none⟩), .agg (row 12 nonce), vs, vh] w fun e w' => ∃ v', e = .returned v' ∧ OwnF w' w.heap.size v' 16 (byP (tagN K ks nonce ns nh fs fh)) ∧ Ext w w' := by
  obtain ⟨so, sc, rfl, hsc⟩ := hvs.len
  obtain ⟨ho, hc, rfl, hhc⟩ := hvh.len
  have HVS := Lib.hid hvs
  have HVH := Lib.hid hvh
  have HCW := Lib.hid hC
  have HNL := Lib.hid hNl
  have HZL := Lib.hid (blockP_lt K ks (fun _ => 0) (fun _ _ => by omega) (by omega) hks)
  have HCL := Lib.hid (blockP_lt K ks (ctrB nonce 1) (fun j _ => ctrB_lt hNl 1 j) (by omega) hks)
  obtain ⟨hb, hhb⟩ : ∃ hb, hb = (nh + 15) / 16 := ⟨_, rfl⟩
  obtain ⟨sb, hsb⟩ : ∃ sb, sb = (ns + 15) / 16 := ⟨_, rfl⟩
  have HT := Lib.hid (show ∀ k, k < 16 → byP (sm (be (blockP K ks fun _ => 0) 16) (fullP (16 * (hb + sb + 1)) (tagA ns nh fs fh)) (hb + sb + 1)) k ^^^ blockP K ks (ctrB nonce 1) k = byP (tagN K ks nonce ns nh fs fh) k from fun k hk => by
    rw [hhb, hsb, tag_sum _ ns nh fs fh hns hnh]
    unfold tagN
    rw [byP_xor, byP_be HCL.out k hk])
  have e1 : (8 * (nh : Int)) = ((8 * nh : Nat) : Int) := by omega
  have e2 : (8 * (ns : Int)) = ((8 * ns : Nat) : Int) := by omega
  have E1 := Lib.hid e1
  have E2 := Lib.hid e2
  clear hvs hvh hC hNl hks e1 e2
  go_enter Try.func65, Try.ntmps65
  go_upto_region 2 with (first | (refine wl_boxA rfl 55 _ rfl _ rfl ?_) | (refine wl_allocA rfl 23 rfl _ zero23 ?_))
  have hN : Blk ((w.alloc (.cells (row 12 nonce) 55)).alloc (.cells (row 16 fun _ => 0) 23)) w.heap.size 55 (row 12 nonce) := (Blk.new w _ _).alloc _
  have hZ : Blk ((w.alloc (.cells (row 12 nonce) 55)).alloc (.cells (row 16 fun _ => 0) 23)) (w.heap.size + 1) 23 (row 16 fun _ => 0) := by
    have := Blk.new (w.alloc (.cells (row 12 nonce) 55)) 23 (row 16 fun _ => 0)
    simpa only [World.size_alloc] using this
  have hx : Ext w ((w.alloc (.cells (row 12 nonce) 55)).alloc (.cells (row 16 fun _ => 0) 23)) := (Ext.alloc _ _).trans (Ext.alloc _ _)
  try simp only [put_lit, put_nil7, List.set_cons_succ, List.set_cons_zero, World.size_alloc]
  generalize (w.alloc (.cells (row 12 nonce) 55)).alloc (.cells (row 16 fun _ => 0) 23) = w1 at hN hZ hx ⊢
  have HN1 := Lib.hid hN
  have HZ1 := Lib.hid hZ
  have HX1 := Lib.hid hx
  clear hN hZ hx
  go_wp2_with fail
  refine (full76_any _ nh fh _ hnh (HVH.out.ext HX1.out)).mono ?_
  rintro e w2 ⟨v2, rfl, ho2, hx2⟩
  rw [← hhb] at ho2
  have HO2 := Lib.hid ho2
  have HX2 := Lib.hid hx2
  clear ho2 hx2
  go_wp2_with fail
  refine (full76_any _ ns fs _ hns (HVS.out.ext (HX1.out.trans HX2.out))).mono ?_
  rintro e w3 ⟨v3, rfl, ho3, hx3⟩
  rw [← hsb] at ho3
  have HO3 := Lib.hid ho3.rd
  have HO2' := Lib.hid (HO2.out.ext hx3)
  have HX3 := Lib.hid (HX2.out.trans hx3)
  have hs3 := HX3.out.size
  clear ho3 hx3 HO2 HX2
  go_wp2_with (refine wl_appendF rfl (.tmp 16) (.tmp 18) rfl w1.heap.size _ _ (16 * hb) (16 * sb) (fixF nh fh) (fixF ns fs) (tagA1 nh (fixF nh fh) (fixF ns fs)) rfl rfl HO2'.out HO3.out hs3 (by omega) (fun i hi => by unfold tagA1; rw [← hhb, if_pos hi]) (fun j hj => by unfold tagA1; rw [← hhb, if_neg (by omega), Nat.add_sub_cancel_left]) ?_; intro v4 w4 hv4 hb4)
  have HO4 := Lib.hid hv4
  have HX4 := Lib.hid (show Ext w1 w4 from Below.trans HX3.out hb4)
  clear hv4 hb4 HO2' HO3 HX3 hs3
  rw [E1.out]
  refine (eight77_any (8 * nh) _ (by omega)).mono ?_
  rintro e w5 ⟨v5, rfl, ho5, hx5⟩
  have HO5 := Lib.hid ho5.rd
  have HO4' := Lib.hid (HO4.out.ext hx5)
  have HX5 := Lib.hid (HX4.out.trans hx5)
  have hs5 := HX5.out.size
  clear ho5 hx5 HO4 HX4
  go_wp2_with (refine wl_appendF rfl (.tmp 20) (.tmp 24) rfl w1.heap.size _ _ (16 * hb + 16 * sb) 8 (tagA1 nh (fixF nh fh) (fixF ns fs)) (eightF (8 * nh)) (tagA2 ns nh fs fh) rfl rfl HO4'.out HO5.out hs5 (by omega) (fun i hi => by unfold tagA2; rw [← hhb, ← hsb, if_pos hi]) (fun j hj => by unfold tagA2; rw [← hhb, ← hsb, if_neg (by omega), Nat.add_sub_cancel_left]) ?_; intro v6 w6 hv6 hb6)
  have HO6 := Lib.hid hv6
  have HX6 := Lib.hid (show Ext w1 w6 from Below.trans HX5.out hb6)
  clear hv6 hb6 HO4' HO5 HX5 hs5
  rw [E2.out]
  refine (eight77_any (8 * ns) _ (by omega)).mono ?_
  rintro e w7 ⟨v7, rfl, ho7, hx7⟩
  have HO7 := Lib.hid ho7.rd
  have HO6' := Lib.hid (HO6.out.ext hx7)
  have HX7 := Lib.hid (HX6.out.trans hx7)
  have hs7 := HX7.out.size
  clear ho7 hx7 HO6 HX6
  go_upto_region 4 with (refine wl_appendF rfl (.tmp 25) (.tmp 29) rfl w1.heap.size _ _ (16 * hb + 16 * sb + 8) 8 (tagA2 ns nh fs fh) (eightF (8 * ns)) (tagA ns nh fs fh) rfl rfl HO6'.out HO7.out hs7 (by omega) (fun i hi => by unfold tagA; rw [← hhb, ← hsb, if_pos hi]) (fun j hj => by unfold tagA; rw [← hhb, ← hsb, if_neg (by omega), Nat.add_sub_cancel_left]) ?_; intro v8 w8 hv8 hb8)
  have HA := Lib.hid (show RdF w8 v8 (16 * (hb + sb + 1)) (tagA ns nh fs fh) from by
    rw [show 16 * (hb + sb + 1) = 16 * hb + 16 * sb + 8 + 8 by omega]
    exact hv8.rd)
  have hx8 : Ext w1 w8 := Below.trans HX7.out hb8
  have HX8 := Lib.hid (HX1.out.trans hx8)
  have HN := Lib.hid (HN1.out.ext hx8)
  have HZ := Lib.hid (HZ1.out.ext hx8)
  have HC := Lib.hid (HCW.out.ext HX8.out)
  clear hv8 hb8 HO6' HO7 HX7 hs7 hx8 HN1 HZ1 HX1 HCW HVS HVH E1 E2
  try simp only [put_lit, put_nil7, List.set_cons_succ, List.set_cons_zero]
  apply wp_region_midN 10 [.det _, .det _, .det _, .det _, .det _, .det _, .det _, .det _, .any (Fresh w8 23 (row 16 fun _ => 0)), .any (Fresh w8 23 (row 16 fun _ => 0))] [8, 9] (fun k hk => by
    simp only [List.mem_cons, List.not_mem_nil, or_false] at hk
    rcases hk with rfl | rfl <;> exact ⟨_, rfl, rfl, newOp_alloc rfl zero23⟩) (by kernel_rfl) rfl (by kernel_rfl)
  · skip
    (first | (refine wpE_move rfl rfl rfl ?_; simp only [put_lit, eval_lit, BigFrame.eval_const, List.set_cons_succ, List.set_cons_zero, List.getD_cons_succ, List.getD_cons_zero]) | (refine wpE_run rfl rfl (by simp) (fun w1 hx1 _ K hK => by go_step; exact hK _ (Ext.refl _)) ?_; simp only [put_lit, List.set_cons_succ, List.set_cons_zero]))
    refine wpE_run rfl rfl (by simp) (fun w' hx' _ K9 hK9 => wp_loadA 23 _ rfl _ 0 16 rfl agg23 sz23 _ _ (HZ.out.ext hx') (by simp [row_size]) (row 16 fun _ => 0) (row_whole _ _) (hK9 _ (Ext.refl _))) ?_
    simp only [put_lit, List.set_cons_succ, List.set_cons_zero]
    refine wpE_run rfl rfl (by simp) (fun w1 hx1 _ K9 hK9 => by go_wp2_with (go_at_call 22; refine (refblock_any b K ks hK hK2 (fun _ => 0) (fun _ _ => by omega) _ (HC.out.ext hx1)).mono ?_; rintro e w2 ⟨rfl, hx2⟩; exact hK9 _ hx2)) ?_
    simp only [put_lit, List.set_cons_succ, List.set_cons_zero]
    (first | (refine wpE_move rfl rfl rfl ?_; simp only [put_lit, eval_lit, BigFrame.eval_const, List.set_cons_succ, List.set_cons_zero, List.getD_cons_succ, List.getD_cons_zero]) | (refine wpE_run rfl rfl (by simp) (fun w1 hx1 _ K hK => by go_step; exact hK _ (Ext.refl _)) ?_; simp only [put_lit, List.set_cons_succ, List.set_cons_zero]))
    refine wpE_run rfl rfl (by simp) (fun w1 hx1 _ K9 hK9 => by go_wp2_with (go_at_call 78; refine (sum78_any _ HZL.out _ (hb + sb + 1) (tagA ns nh fs fh) _ (by omega) (HA.out.ext hx1)).mono ?_; rintro e w2 ⟨rfl, hx2⟩; exact hK9 _ hx2)) ?_
    simp only [put_lit, List.set_cons_succ, List.set_cons_zero]
    (first | (refine wpE_move rfl rfl rfl ?_; simp only [put_lit, eval_lit, BigFrame.eval_const, List.set_cons_succ, List.set_cons_zero, List.getD_cons_succ, List.getD_cons_zero]) | (refine wpE_run rfl rfl (by simp) (fun w1 hx1 _ K hK => by go_step; exact hK _ (Ext.refl _)) ?_; simp only [put_lit, List.set_cons_succ, List.set_cons_zero]))
    refine wpE_run rfl rfl (by simp) (fun w' hx' _ K9 hK9 => wp_loadA 55 _ rfl _ 0 12 rfl agg55 sz55 _ _ (HN.out.ext hx') (by simp [row_size]) (row 12 nonce) (row_whole _ _) (hK9 _ (Ext.refl _))) ?_
    simp only [put_lit, List.set_cons_succ, List.set_cons_zero]
    refine wpE_run rfl rfl (by simp) (fun w1 hx1 _ K9 hK9 => by go_wp2_with (go_at_call 75; refine (count75_any 1 b K nonce ks _ (by omega) HNL.out (HC.out.ext hx1) hK hK2).mono ?_; rintro e w2 ⟨rfl, hx2⟩; exact hK9 _ hx2)) ?_
    simp only [put_lit, List.set_cons_succ, List.set_cons_zero]
    refine wpE_alloc rfl zero23 rfl (by simp) rfl (fun u11 => ?_)
    simp only [put_lit, List.set_cons_succ, List.set_cons_zero]
    refine wpE_alloc rfl zero23 rfl (by simp) rfl (fun u12 => ?_)
    simp only [put_lit, List.set_cons_succ, List.set_cons_zero]
    refine wpE_nil ?_
    intro w9 hw9 hF hD
    simp only [List.drop_succ_cons, List.drop_zero]
    obtain ⟨g12, rfl, hg12, hb12⟩ := hF _ (List.mem_cons_self ..)
    obtain ⟨g11, rfl, hg11, hb11⟩ := hF _ (List.mem_cons_of_mem _ (List.mem_cons_self ..))
    have d1 : g11 ≠ g12 := fun e => hD 8 (by decide) 9 (by decide) (by decide) 11 12 (by kernel_rfl) (by kernel_rfl) (congrArg some e)
    clear hF hD
    obtain ⟨S, hS⟩ : ∃ S, S = sm (be (blockP K ks fun _ => 0) 16) (fullP (16 * (hb + sb + 1)) (tagA ns nh fs fh)) (hb + sb + 1) := ⟨_, rfl⟩
    rw [← hS]
    have ht := HT.out
    rw [← hS] at ht
    have HT2 := Lib.hid ht
    clear ht HT hS
    refine wl_storeA rfl 23 _ _ rfl g11 0 16 rfl (row 16 (byP S)) rfl sz23 (row_size _ _) _ _ hb11 (by simp [row_size]) (row_one _ _) (row 16 (byP S)) (lay_all _ _ (by simp [row_size])) ?_
    refine wl_storeA rfl 23 _ _ rfl g12 0 16 rfl (row 16 (blockP K ks (ctrB nonce 1))) rfl sz23 (row_size _ _) _ _ (hb12.setRow_other _ (Ne.symm d1)) (by simp [row_size]) (row_one _ _) (row 16 (blockP K ks (ctrB nonce 1))) (lay_all _ _ (by simp [row_size])) ?_
    have h11 := (hb11.setRow (row 16 (byP S))).setRow_other (row 16 (blockP K ks (ctrB nonce 1))) d1
    have h12 := (hb12.setRow_other (row 16 (byP S)) (Ne.symm d1)).setRow (row 16 (blockP K ks (ctrB nonce 1)))
    have hx9 : Ext w8 ((w9.setRow g11 (row 16 (byP S))).setRow g12 (row 16 (blockP K ks (ctrB nonce 1)))) := below_setRow (below_setRow hw9 hg11 _) hg12 _
    generalize (w9.setRow g11 (row 16 (byP S))).setRow g12 (row 16 (blockP K ks (ctrB nonce 1))) = w10 at h11 h12 hx9 ⊢
    have G1 := Lib.hid h11
    have G2 := Lib.hid h12
    have HX := Lib.hid (HX8.out.trans hx9)
    clear h11 h12 hx9 hb11 hb12 hw9 HX8 HN HZ HC HA hg11 hg12
    try simp only [put_lit, put_no, List.set_cons_succ, List.set_cons_zero]
    go_wp2_with fail
    go_loopw [13, 14] (fun v13 v14 wr => ∃ k : Nat, k ≤ 16 ∧ v14 = .int .i64 k ∧ OwnF wr w10.heap.size v13 k (byP (tagN K ks nonce ns nh fs fh)) ∧ Ext w10 wr) (fun _ v14 _ => 16 - (intOf v14).toNat)
    case atStart => exact ⟨0, by omega, rfl, .inl ⟨rfl, rfl⟩, Ext.refl _⟩
    case round =>
      obtain ⟨k, hk, rfl, ho, hx⟩ := hrel
      have HO := Lib.hid ho
      have HXR := Lib.hid hx
      clear ho hx
      by_cases hlt : k < 16
      · have hlt' : (k : Int) < 16 := by omega
        have c1 := (G1.out.ext HXR.out).byte k hlt
        have c2 := (G2.out.ext HXR.out).byte k hlt
        have l1 := byP_lt S k
        have l2 := HCL.out k hlt
        have HTK := Lib.hid (HT2.out k hlt)
        go_upto_region 9 with fail
        apply wp_region_mid 9 [.det _, .det _, .det _, .det _, .det _, .det _, .det _, .det _, .any (One wr (.int .u8 ((byP (tagN K ks nonce ns nh fs fh) k : Nat) : Int)))] (by kernel_rfl) rfl (by kernel_rfl)
        · (first | (refine wpE_move rfl rfl rfl ?_; simp only [put_lit, eval_lit, BigFrame.eval_const, List.set_cons_succ, List.set_cons_zero, List.getD_cons_succ, List.getD_cons_zero]) | (refine wpE_run rfl rfl (by simp) (fun w1 hx1 _ K hK => by go_step; exact hK _ (Ext.refl _)) ?_; simp only [put_lit, List.set_cons_succ, List.set_cons_zero]))
          (first | (refine wpE_move rfl rfl rfl ?_; simp only [put_lit, eval_lit, BigFrame.eval_const, List.set_cons_succ, List.set_cons_zero, List.getD_cons_succ, List.getD_cons_zero]) | (refine wpE_run rfl rfl (by simp) (fun w1 hx1 _ K hK => by go_step; exact hK _ (Ext.refl _)) ?_; simp only [put_lit, List.set_cons_succ, List.set_cons_zero]))
          (first | (refine wpE_move rfl rfl rfl ?_; simp only [put_lit, eval_lit, BigFrame.eval_const, List.set_cons_succ, List.set_cons_zero, List.getD_cons_succ, List.getD_cons_zero]) | (refine wpE_run rfl rfl (by simp) (fun w1 hx1 _ K hK => by go_step; exact hK _ (Ext.refl _)) ?_; simp only [put_lit, List.set_cons_succ, List.set_cons_zero]))
          (refine wpE_run rfl rfl (by simp) (fun w1 hx1 _ K hK => by have hc := hx1.cell c1; go_step; exact hK _ (Ext.refl _)) ?_); simp only [put_lit, List.set_cons_succ, List.set_cons_zero]
          (first | (refine wpE_move rfl rfl rfl ?_; simp only [put_lit, eval_lit, BigFrame.eval_const, List.set_cons_succ, List.set_cons_zero, List.getD_cons_succ, List.getD_cons_zero]) | (refine wpE_run rfl rfl (by simp) (fun w1 hx1 _ K hK => by go_step; exact hK _ (Ext.refl _)) ?_; simp only [put_lit, List.set_cons_succ, List.set_cons_zero]))
          (first | (refine wpE_move rfl rfl rfl ?_; simp only [put_lit, eval_lit, BigFrame.eval_const, List.set_cons_succ, List.set_cons_zero, List.getD_cons_succ, List.getD_cons_zero]) | (refine wpE_run rfl rfl (by simp) (fun w1 hx1 _ K hK => by go_step; exact hK _ (Ext.refl _)) ?_; simp only [put_lit, List.set_cons_succ, List.set_cons_zero]))
          (refine wpE_run rfl rfl (by simp) (fun w1 hx1 _ K hK => by have hc := hx1.cell c2; go_step; exact hK _ (Ext.refl _)) ?_); simp only [put_lit, List.set_cons_succ, List.set_cons_zero]
          (first | (refine wpE_move rfl rfl rfl ?_; simp only [put_lit, eval_lit, BigFrame.eval_const, List.set_cons_succ, List.set_cons_zero, List.getD_cons_succ, List.getD_cons_zero]) | (refine wpE_run rfl rfl (by simp) (fun w1 hx1 _ K hK => by go_step; exact hK _ (Ext.refl _)) ?_; simp only [put_lit, List.set_cons_succ, List.set_cons_zero]))
          rw [u8_xor_nat _ _ l1 l2, HTK.out]
          refine wpE_any (V := One wr (.int .u8 ((byP (tagN K ks nonce ns nh fs fh) k : Nat) : Int))) rfl (fun _ _ _ hx h => h.mono hx) rfl (by simp) (fun w1 hx1 _ K9 hK9 => by go_step; exact hK9 _ _ (Ext.alloc _ _) ⟨_, rfl, hx1.size, Blk.new _ _ _⟩) ?_
          intro u51
          simp only [put_lit, List.set_cons_succ, List.set_cons_zero]
          refine wpE_nil ?_
          intro w2 hw2 hF
          simp only [List.drop_succ_cons, List.drop_zero]
          have ho1 := hF _ (List.mem_cons_self ..)
          have HR := Lib.hid (ho1.rd (byP_lt _ _))
          have hs2 := (HXR.out.trans hw2).size
          have HO2 := Lib.hid (HO.out.ext hw2)
          have HX2 := Lib.hid (HXR.out.trans hw2)
          clear hF ho1 hw2 c1 c2
          refine wl_appendF rfl (.tmp 43) (.tmp 51) rfl w10.heap.size _ _ k 1 (byP (tagN K ks nonce ns nh fs fh)) (fun _ => byP (tagN K ks nonce ns nh fs fh) k) (byP (tagN K ks nonce ns nh fs fh)) rfl rfl HO2.out HR.out hs2 (by omega) (fun _ _ => rfl) (fun i hi => by obtain rfl : i = 0 := (by omega); rfl) ?_
          intro v' w' hv' hb'
          have HV' := Lib.hid hv'
          have HB' := Lib.hid (show Ext w10 w' from Below.trans HX2.out hb')
          clear hv' hb'
          simp only [put_lit, List.set_cons_succ, List.set_cons_zero]
          go_wp2_with fail
          go_roundw
          case rel => exact ⟨k + 1, by omega, by go_num, HV'.out, HB'.out⟩
          case measure => simp [intOf]; omega
      · obtain rfl : k = 16 := by omega
        have hlt' : ¬ ((16 : Nat) : Int) < 16 := by omega
        obtain ⟨ao, ac, rfl, _⟩ := HO.out.rd.len
        have HR := Lib.hid (HO.out.mono HX.out.size)
        go_wp2_with fail
        refine bodyPost_ret (v := .slice ao 16 ac) (by kernel_rfl) rfl ?_
        exact ⟨_, rfl, HR.out, HX.out.trans HXR.out⟩

set_option maxRecDepth 100000 in
set_option maxHeartbeats 1000000 in
theorem refseal40_any (vp vh : Value) (n nh b K : Nat) (f fh nonce : Nat → Nat) (ks : Nat → Nat → Nat) (w : World) (hn : n ≤ 65536) (hnh : nh ≤ 65536) (hvp : RdF w vp n f) (hvh : RdF w vh nh fh) (hNl : ∀ j, j < 12 → nonce j < 256)
    (hC : CphR w b K ks) (hK : 2 ≤ K) (hK2 : K ≤ 1000) (hks : ∀ i, i < K → ∀ j, j < 16 → ks i j < 256) :
    Calls Try.prog 40 #[.pointer (some ⟨b, 0, none⟩), .agg (row 12 nonce), vp, vh] w fun e w' => ∃ v', e = .returned (.tuple #[v', .int .i64 0]) ∧ OwnF w' w.heap.size v' (n + 16) (sealP K ks nonce n nh f fh) ∧ Ext w w' := by
  obtain ⟨po, pc, rfl, hpc⟩ := hvp.len
  obtain ⟨ho, hc, rfl, hhc⟩ := hvh.len
  have HP := Lib.hid hvp
  have HH := Lib.hid hvh
  have HC := Lib.hid hC
  have HKS := Lib.hid hks
  clear hvp hvh hC hks
  have h1' : ¬ (65536 : Int) < (n : Int) := by omega
  have h2' : ¬ (65536 : Int) < (nh : Int) := by omega
  go_enter Try.func40, Try.ntmps40
  go_upto_region 1 with (refine wl_boxA rfl 55 _ rfl _ rfl ?_)
  have hb0 : Blk (w.alloc (.cells (row 12 nonce) 55)) w.heap.size 55 (row 12 nonce) := Blk.new _ _ _
  have hx0 : Ext w (w.alloc (.cells (row 12 nonce) 55)) := Ext.alloc _ _
  try simp only [put_lit, put_nil7, List.set_cons_succ, List.set_cons_zero]
  generalize w.alloc (.cells (row 12 nonce) 55) = w0 at hb0 hx0 ⊢
  have HB0 := Lib.hid hb0
  have HX0 := Lib.hid hx0
  clear hb0 hx0
  go_wp2_with (refine wl_loadA rfl 55 _ rfl _ 0 12 rfl agg55 sz55 _ _ HB0.out (by simp [row_size]) (row 12 nonce) (row_whole _ _) ?_)
  refine (hidden64_any _ n b K f nonce ks _ (by omega) (HP.out.ext HX0.out) hNl (HC.out.ext HX0.out) hK hK2 HKS.out).mono ?_
  rintro e w3 ⟨v3, rfl, ho3, hx3⟩
  have HO3 := Lib.hid (ho3.mono HX0.out.size)
  have HX3 := Lib.hid (HX0.out.trans hx3)
  have HB3 := Lib.hid (HB0.out.ext hx3)
  clear ho3 hx3 HB0
  go_wp2_with (refine wl_loadA rfl 55 _ rfl _ 0 12 rfl agg55 sz55 _ _ HB3.out (by simp [row_size]) (row 12 nonce) (row_whole _ _) ?_)
  refine (reftag65_any v3 _ n nh b K (hideP K ks nonce f) fh nonce ks _ (by omega) (by omega) HO3.out.rd (HH.out.ext HX3.out) hNl (HC.out.ext HX3.out) hK hK2 HKS.out).mono ?_
  rintro e w4 ⟨v4, rfl, ho4, hx4⟩
  have HR4 := Lib.hid ho4.rd
  have HO4 := Lib.hid (HO3.out.ext hx4)
  have HX4 := Lib.hid (HX3.out.trans hx4)
  have hs4 := HX4.out.size
  clear ho4 hx4
  go_wp2_with (refine wl_appendF rfl (.tmp 25) (.tmp 30) rfl w.heap.size _ _ n 16 (hideP K ks nonce f) (byP (tagN K ks nonce n nh (hideP K ks nonce f) fh)) (sealP K ks nonce n nh f fh) rfl rfl HO4.out HR4.out hs4 (by omega) (fun i hi => by unfold sealP; rw [if_pos hi]) (fun j hj => by unfold sealP; rw [if_neg (by omega), Nat.add_sub_cancel_left]) ?_; intro v' w' hv' hb')
  have HV' := Lib.hid hv'
  have HB' := Lib.hid (Below.trans HX4.out hb')
  clear hv' hb'
  refine bodyPost_ret (v := .tuple #[v', .int .i64 0]) (by kernel_rfl) rfl ?_
  exact ⟨v', rfl, HV'.out, HB'.out⟩
end Go.Proofs.Ytnigpobbckampaa
