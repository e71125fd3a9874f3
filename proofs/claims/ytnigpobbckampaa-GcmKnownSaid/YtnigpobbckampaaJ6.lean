/- The document's sum and hidden: walked. -/
import Derived.Test.YtnigpobbckampaaJ5
import Derived.Test.YtnigpobbckampaaY9
namespace Go.Proofs.Ytnigpobbckampaa
open Go.RowKit
set_option linter.unusedSimpArgs false
set_option linter.unusedVariables false

set_option maxRecDepth 100000 in
set_option maxHeartbeats 1000000 in
theorem sum78_any (h : Nat → Nat) (hh : ∀ j, j < 16 → h j < 256) (v : Value) (m : Nat) (f : Nat → Nat) (w : World) (hm : m ≤ 20000) (hv : RdF w v (16 * m) f) :
    Calls Try.prog 78 #[.agg (row 16 h), v] w fun e w' => e = .returned (.agg (row 16 (byP (sm (be h 16) (fullP (16 * m) f) m)))) ∧ Ext w w' := by
  obtain ⟨ao, cap, rfl, hcap⟩ := hv.len
  have HL := Lib.hid (fun k j => fullP_lt (n := 16 * m) (f := f) hv.lt k j)
  have HV := Lib.hid hv
  have HH := Lib.hid hh
  have hH : be h 16 < 2 ^ 128 := be_lt 16 hh
  have HHL := Lib.hid hH
  clear hv hh hH
  go_enter Try.func78, Try.ntmps78
  go_upto_region 2 with (first | (refine wl_boxA rfl 23 _ rfl _ rfl ?_) | (refine wl_allocA rfl 23 rfl _ zero23 ?_))
  have hN : Blk (((w.alloc (.cells (row 16 h) 23)).alloc (.cells (row 16 fun _ => 0) 23)).alloc (.cells (row 16 fun _ => 0) 23)) w.heap.size 23 (row 16 h) := ((Blk.new w _ _).alloc _).alloc _
  have hA : Blk (((w.alloc (.cells (row 16 h) 23)).alloc (.cells (row 16 fun _ => 0) 23)).alloc (.cells (row 16 fun _ => 0) 23)) (w.heap.size + 1) 23 (row 16 fun _ => 0) := by
    have := (Blk.new (w.alloc (.cells (row 16 h) 23)) 23 (row 16 fun _ => 0)).alloc (.cells (row 16 fun _ => 0) 23)
    simpa only [World.size_alloc] using this
  have hB : Blk (((w.alloc (.cells (row 16 h) 23)).alloc (.cells (row 16 fun _ => 0) 23)).alloc (.cells (row 16 fun _ => 0) 23)) (w.heap.size + 2) 23 (row 16 (byP (sm (be h 16) (fullP (16 * m) f) 0))) := by
    have := Blk.new ((w.alloc (.cells (row 16 h) 23)).alloc (.cells (row 16 fun _ => 0) 23)) 23 (row 16 fun _ => 0)
    rw [show row 16 (byP (sm (be h 16) (fullP (16 * m) f) 0)) = row 16 (fun _ => 0) from row_congr fun j hj => byP_zero j]
    simpa only [World.size_alloc] using this
  have hx : Ext w (((w.alloc (.cells (row 16 h) 23)).alloc (.cells (row 16 fun _ => 0) 23)).alloc (.cells (row 16 fun _ => 0) 23)) := ((Ext.alloc _ _).trans (Ext.alloc _ _)).trans (Ext.alloc _ _)
  try simp only [put_lit, put_nil7, List.set_cons_succ, List.set_cons_zero, World.size_alloc]
  generalize ((w.alloc (.cells (row 16 h) 23)).alloc (.cells (row 16 fun _ => 0) 23)).alloc (.cells (row 16 fun _ => 0) 23) = w1 at hN hA hB hx ⊢
  go_wp2_with fail
  go_loopw [6] (fun v6 wr => ∃ k : Nat, k ≤ m ∧ v6 = .int .i64 ((16 * k : Nat) : Int) ∧ Blk wr w.heap.size 23 (row 16 h) ∧ Blk wr (w.heap.size + 1) 23 (row 16 fun _ => 0) ∧ Blk wr (w.heap.size + 2) 23 (row 16 (byP (sm (be h 16) (fullP (16 * m) f) k))) ∧ Ext w wr) (fun v6 _ => 16 * m - (intOf v6).toNat)
  case atStart => exact ⟨0, by omega, rfl, hN, hA, hB, hx⟩
  case round =>
    clear hN hA hB hx
    obtain ⟨k, hk, rfl, hn2, ha, hb, hx⟩ := hrel
    have HN := Lib.hid hn2
    have HA := Lib.hid ha
    have HB := Lib.hid hb
    have HX := Lib.hid hx
    clear hn2 ha hb hx
    obtain ⟨S, hS⟩ : ∃ S, S = sm (be h 16) (fullP (16 * m) f) k := ⟨_, rfl⟩
    have hSl : S < 2 ^ 128 := by rw [hS]; exact sm_lt _ HHL.out _ HL.out k
    have HSL := Lib.hid hSl
    have HS := Lib.hid hS
    have hb' := HB.out
    rw [← hS] at hb'
    have HB' := Lib.hid hb'
    clear HB hb' hSl hS
    have HB := HB'
    clear HB'
    by_cases hlt : k < m
    · have hk' : (16 * (k : Int)) < 16 * (m : Int) := by omega
      go_wp2_with fail
      go_loopw [7] (fun v7 wq => ∃ j : Nat, j ≤ 16 ∧ v7 = .int .i64 j ∧ Blk wq w.heap.size 23 (row 16 h) ∧ Blk wq (w.heap.size + 1) 23 (row 16 fun _ => 0) ∧ Blk wq (w.heap.size + 2) 23 (row 16 (mixF j (fun j => byP S j ^^^ fullP (16 * m) f k j) (byP S))) ∧ Ext w wq) (fun v7 _ => 16 - (intOf v7).toNat)
      case atStart => exact ⟨0, by omega, rfl, HN.out, HA.out, by rw [mixF_zero]; exact HB.out, HX.out⟩
      case round =>
        clear HN HA HB HX
        obtain ⟨j, hj, rfl, hn2, ha, hb, hx⟩ := hrel
        have HN := Lib.hid hn2
        have HA := Lib.hid ha
        have HB := Lib.hid hb
        have HX := Lib.hid hx
        clear hn2 ha hb hx
        by_cases hj16 : j < 16
        · have hj' : (j : Int) < 16 := by omega
          obtain ⟨g, off, cap', e1, _, hf⟩ := (HV.out.ext HX.out).form (by omega)
          obtain ⟨rfl, rfl⟩ : ao = some ⟨g, off, none⟩ ∧ cap = cap' := by cases e1; exact ⟨rfl, rfl⟩
          have hxl := byP_lt S j
          have hbv := HB.out.byte j hj16
          rw [mixF_at] at hbv
          have hfl := HL.out k j
          have hfv := (hf (16 * k + j) (by omega)).2
          rw [show f (16 * k + j) = fullP (16 * m) f k j from by unfold fullP; rw [if_pos (by omega)]] at hfv
          have hik : (16 * (k : Int) + (j : Int)) < 16 * (m : Int) := by omega
          clear hf e1
          go_upto_region 8 with fail
          apply wp_region_mid 12 [.det _, .det _, .det _, .det _, .det _, .det _, .det _, .det _, .det _, .det _, .det _, .det _] (by kernel_rfl) rfl (by kernel_rfl)
          · (first | (refine wpE_move rfl rfl rfl ?_; simp only [put_lit, eval_lit, BigFrame.eval_const, List.set_cons_succ, List.set_cons_zero, List.getD_cons_succ, List.getD_cons_zero]) | (refine wpE_run rfl rfl (by simp) (fun w1 hx1 _ K hK => by go_step; exact hK _ (Ext.refl _)) ?_; simp only [put_lit, List.set_cons_succ, List.set_cons_zero]))
            (first | (refine wpE_move rfl rfl rfl ?_; simp only [put_lit, eval_lit, BigFrame.eval_const, List.set_cons_succ, List.set_cons_zero, List.getD_cons_succ, List.getD_cons_zero]) | (refine wpE_run rfl rfl (by simp) (fun w1 hx1 _ K hK => by go_step; exact hK _ (Ext.refl _)) ?_; simp only [put_lit, List.set_cons_succ, List.set_cons_zero]))
            (first | (refine wpE_move rfl rfl rfl ?_; simp only [put_lit, eval_lit, BigFrame.eval_const, List.set_cons_succ, List.set_cons_zero, List.getD_cons_succ, List.getD_cons_zero]) | (refine wpE_run rfl rfl (by simp) (fun w1 hx1 _ K hK => by go_step; exact hK _ (Ext.refl _)) ?_; simp only [put_lit, List.set_cons_succ, List.set_cons_zero]))
            (refine wpE_run rfl rfl (by simp) (fun w1 hx1 _ K hK => by have hc := hx1.cell hbv; go_step; exact hK _ (Ext.refl _)) ?_); simp only [put_lit, List.set_cons_succ, List.set_cons_zero]
            (first | (refine wpE_move rfl rfl rfl ?_; simp only [put_lit, eval_lit, BigFrame.eval_const, List.set_cons_succ, List.set_cons_zero, List.getD_cons_succ, List.getD_cons_zero]) | (refine wpE_run rfl rfl (by simp) (fun w1 hx1 _ K hK => by go_step; exact hK _ (Ext.refl _)) ?_; simp only [put_lit, List.set_cons_succ, List.set_cons_zero]))
            (first | (refine wpE_move rfl rfl rfl ?_; simp only [put_lit, eval_lit, BigFrame.eval_const, List.set_cons_succ, List.set_cons_zero, List.getD_cons_succ, List.getD_cons_zero]) | (refine wpE_run rfl rfl (by simp) (fun w1 hx1 _ K hK => by go_step; exact hK _ (Ext.refl _)) ?_; simp only [put_lit, List.set_cons_succ, List.set_cons_zero]))
            (first | (refine wpE_move rfl rfl rfl ?_; simp only [put_lit, eval_lit, BigFrame.eval_const, List.set_cons_succ, List.set_cons_zero, List.getD_cons_succ, List.getD_cons_zero]) | (refine wpE_run rfl rfl (by simp) (fun w1 hx1 _ K hK => by go_step; exact hK _ (Ext.refl _)) ?_; simp only [put_lit, List.set_cons_succ, List.set_cons_zero]))
            (first | (refine wpE_move rfl rfl rfl ?_; simp only [put_lit, eval_lit, BigFrame.eval_const, List.set_cons_succ, List.set_cons_zero, List.getD_cons_succ, List.getD_cons_zero]) | (refine wpE_run rfl rfl (by simp) (fun w1 hx1 _ K hK => by go_step; exact hK _ (Ext.refl _)) ?_; simp only [put_lit, List.set_cons_succ, List.set_cons_zero]))
            (first | (refine wpE_move rfl rfl rfl ?_; simp only [put_lit, eval_lit, BigFrame.eval_const, List.set_cons_succ, List.set_cons_zero, List.getD_cons_succ, List.getD_cons_zero]) | (refine wpE_run rfl rfl (by simp) (fun w1 hx1 _ K hK => by go_step; exact hK _ (Ext.refl _)) ?_; simp only [put_lit, List.set_cons_succ, List.set_cons_zero]))
            (refine wpE_run rfl rfl (by simp) (fun w1 hx1 _ K hK => by have hc := hx1.cell hfv; go_step; exact hK _ (Ext.refl _)) ?_); simp only [put_lit, List.set_cons_succ, List.set_cons_zero]
            (first | (refine wpE_move rfl rfl rfl ?_; simp only [put_lit, eval_lit, BigFrame.eval_const, List.set_cons_succ, List.set_cons_zero, List.getD_cons_succ, List.getD_cons_zero]) | (refine wpE_run rfl rfl (by simp) (fun w1 hx1 _ K hK => by go_step; exact hK _ (Ext.refl _)) ?_; simp only [put_lit, List.set_cons_succ, List.set_cons_zero]))
            rw [u8_xor_nat _ _ hxl hfl]
            (first | (refine wpE_move rfl rfl rfl ?_; simp only [put_lit, eval_lit, BigFrame.eval_const, List.set_cons_succ, List.set_cons_zero, List.getD_cons_succ, List.getD_cons_zero]) | (refine wpE_run rfl rfl (by simp) (fun w1 hx1 _ K hK => by go_step; exact hK _ (Ext.refl _)) ?_; simp only [put_lit, List.set_cons_succ, List.set_cons_zero]))
            (refine wpE_nil ?_; intro w2 hw2 hF; simp only [List.drop_succ_cons, List.drop_zero])
            have hcc := hw2.cell hbv
            have hff := (HB.out.ext hw2).frozen j
            have HW2 := Lib.hid hw2
            clear hF hw2 hbv hfv
            go_wp2_with fail
            go_roundw
            case rel =>
              refine ⟨j + 1, by omega, by go_num, (HN.out.ext HW2.out).other _ (by simp <;> omega), (HA.out.ext HW2.out).other _ (by simp <;> omega), ?_, (HX.out.trans HW2.out).setCell (by simp <;> omega) _⟩
              rw [← mixF_upd]
              exact (HB.out.ext HW2.out).setB j _
            case measure => simp [intOf]; omega
        · obtain rfl : j = 16 := by omega
          have hj' : ¬ ((16 : Nat) : Int) < 16 := by omega
          have hb3 := HB.out
          rw [show row 16 (mixF 16 (fun j => byP S j ^^^ fullP (16 * m) f k j) (byP S)) = row 16 (fun j => byP S j ^^^ fullP (16 * m) f k j) from row_congr fun j hj => by simp only [mixF]; rw [if_pos hj]] at hb3
          have HB3 := Lib.hid hb3
          have hFl : ∀ j, j < 16 → byP S j ^^^ fullP (16 * m) f k j < 256 := fun j _ => xor_lt (byP_lt S j) (HL.out k j)
          have he : tmsB (fun j => byP S j ^^^ fullP (16 * m) f k j) h = byP (sm (be h 16) (fullP (16 * m) f) (k + 1)) := by
            unfold tmsB
            rw [be_xor (fun j _ => byP_lt S j) (fun j _ => HL.out k j), be_byP HSL.out, HS.out]
            rfl
          have HE := Lib.hid he
          clear HB hb3 he
          go_wp2_with (first | (refine wl_loadA rfl 23 _ rfl _ 0 16 rfl agg23 sz23 _ _ HB3.out (by simp [row_size]) (row 16 (fun j => byP S j ^^^ fullP (16 * m) f k j)) (row_whole _ _) ?_) | (refine wl_loadA rfl 23 _ rfl _ 0 16 rfl agg23 sz23 _ _ HN.out (by simp [row_size]) (row 16 h) (row_whole _ _) ?_))
          refine (reftimes33_any _ h hFl HH.out _).mono ?_
          rintro e w4 ⟨rfl, hx4⟩
          rw [HE.out]
          have HB4 := Lib.hid (HB3.out.ext hx4)
          have HN4 := Lib.hid (HN.out.ext hx4)
          have HA4 := Lib.hid (HA.out.ext hx4)
          have HX4 := Lib.hid (HX.out.trans hx4)
          clear hx4 HB3 HN HA HX
          go_wp2_with (refine wl_storeA rfl 23 _ _ rfl _ 0 16 rfl (row 16 (byP (sm (be h 16) (fullP (16 * m) f) (k + 1)))) rfl sz23 (row_size _ _) _ _ HB4.out (by simp [row_size]) (row_one _ _) (row 16 (byP (sm (be h 16) (fullP (16 * m) f) (k + 1)))) (lay_all _ _ (by simp [row_size])) ?_)
          go_roundw
          case rel => exact ⟨k + 1, by omega, by go_num, HN4.out.setRow_other _ (by omega), HA4.out.setRow_other _ (by omega), HB4.out.setRow _, below_setRow (g := w.heap.size + 2) HX4.out (by omega) _⟩
          case measure => simp [intOf]; omega
    · obtain rfl : k = m := by omega
      have hk' : ¬ (16 * (k : Int)) < 16 * (k : Int) := by omega
      go_wp2_with (first | (refine wl_loadA rfl 23 _ rfl _ 0 16 rfl agg23 sz23 _ _ HB.out (by simp [row_size]) (row 16 (byP S)) (row_whole _ _) ?_) | (refine wl_storeA rfl 23 _ _ rfl _ 0 16 rfl (row 16 (byP S)) rfl sz23 (row_size _ _) _ _ HA.out (by simp [row_size]) (row_one _ _) (row 16 (byP S)) (lay_all _ _ (by simp [row_size])) ?_))
      refine bodyPost_ret (results_blk rfl _ _ (w.heap.size + 1) 16 23 (row 16 (byP S)) rfl (HA.out.setRow _) agg23 sz23 (row_size _ _).symm) rfl ?_
      exact ⟨by rw [HS.out], below_setRow (g := w.heap.size + 1) HX.out (by omega) _⟩

/-- The key block that lies when i bytes are done. -/
def kbF (K : Nat) (ks : Nat → Nat → Nat) (nonce : Nat → Nat) (i : Nat) : Nat → Nat := if i = 0 then fun _ => 0 else blockP K ks (ctrB nonce (2 + (i - 1) / 16))
theorem kbF_succ (K : Nat) (ks : Nat → Nat → Nat) (nonce : Nat → Nat) (i : Nat) : row 16 (kbF K ks nonce (i + 1)) = row 16 (blockP K ks (ctrB nonce (2 + i / 16))) := by
  unfold kbF
  rw [if_neg (by omega), Nat.add_sub_cancel]

set_option maxRecDepth 100000 in
set_option maxHeartbeats 1000000 in
theorem hidden64_any (v : Value) (n b K : Nat) (f nonce : Nat → Nat) (ks : Nat → Nat → Nat) (w : World) (hn : n ≤ 100000) (hv : RdF w v n f) (hNl : ∀ j, j < 12 → nonce j < 256) (hC : CphR w b K ks) (hK : 2 ≤ K) (hK2 : K ≤ 1000) (hks : ∀ i, i < K → ∀ j, j < 16 → ks i j < 256) :
    Calls Try.prog 64 #[.pointer (some ⟨b, 0, none⟩), .agg (row 12 nonce), v] w fun e w' => ∃ v', e = .returned v' ∧ OwnF w' w.heap.size v' n (hideP K ks nonce f) ∧ Ext w w' := by
  have HV := Lib.hid hv
  have HC := Lib.hid hC
  have HNL := Lib.hid hNl
  have HKS := Lib.hid (fun q => blockP_lt K ks (ctrB nonce q) (fun j _ => ctrB_lt hNl q j) (by omega) hks)
  clear hv hC hNl hks
  go_enter Try.func64, Try.ntmps64
  go_upto_region 1 with (refine wl_boxA rfl 55 _ rfl _ rfl ?_)
  have hb0 : Blk (w.alloc (.cells (row 12 nonce) 55)) w.heap.size 55 (row 12 nonce) := Blk.new _ _ _
  have hx0 : Ext w (w.alloc (.cells (row 12 nonce) 55)) := Ext.alloc _ _
  try simp only [put_lit, put_nil7, List.set_cons_succ, List.set_cons_zero]
  generalize w.alloc (.cells (row 12 nonce) 55) = w1 at hb0 hx0 ⊢
  have HB := Lib.hid hb0
  have HX0 := Lib.hid hx0
  clear hb0 hx0
  go_wp2_with fail
  refine (copyT_any v n f _ (by omega) (HV.out.ext HX0.out)).mono ?_
  rintro e w2 ⟨v2, rfl, hk2, hx2⟩
  obtain ⟨ko, kc, rfl, hkc⟩ := hk2.len
  have HO := Lib.hid hk2
  have HX2 := Lib.hid hx2
  clear hk2 hx2
  go_wp2_with (refine wl_allocA rfl 23 rfl _ zero23 ?_)
  obtain ⟨gk, hgk⟩ : ∃ g, g = w2.heap.size := ⟨_, rfl⟩
  have hz : Blk (w2.alloc (.cells (row 16 fun _ => 0) 23)) gk 23 (row 16 fun _ => 0) := by rw [hgk]; exact Blk.new _ _ _
  have hx3 : Ext w1 (w2.alloc (.cells (row 16 fun _ => 0) 23)) := HX2.out.trans (Ext.alloc _ _)
  have ho3 := HO.out.ext (Ext.alloc w2 (.cells (row 16 fun _ => 0) 23))
  have hgw : w1.heap.size ≤ gk := by rw [hgk]; exact HX2.out.size
  rw [← hgk]
  generalize w2.alloc (.cells (row 16 fun _ => 0) 23) = w3 at hz hx3 ho3 ⊢
  clear hgk HO HX2
  go_loopw [9] (fun v9 wr => ∃ i : Nat, i ≤ n ∧ v9 = .int .i64 i ∧ OwnT wr w1.heap.size (.slice ko n kc) n (mixF i (hideP K ks nonce f) f) ∧ Blk wr gk 23 (row 16 (kbF K ks nonce i)) ∧ Ext w1 wr) (fun v9 _ => n - (intOf v9).toNat)
  case atStart => exact ⟨0, by omega, rfl, by rw [mixF_zero]; exact ho3, by unfold kbF; rw [if_pos rfl]; exact hz, hx3⟩
  case round =>
    clear hz hx3 ho3
    obtain ⟨i, hi, rfl, ho, hg, hx⟩ := hrel
    have HO := Lib.hid ho
    have HG := Lib.hid hg
    have HX := Lib.hid hx
    clear ho hg hx
    by_cases him : i < n
    · have him' : (i : Int) < (n : Int) := by omega
      obtain ⟨g, kc', cur, he, hg, hK1, hc1, hc2, hf⟩ := HO.out.form (by omega)
      obtain ⟨rfl, rfl⟩ : ko = some ⟨g, 0, none⟩ ∧ kc = kc' := by cases he; exact ⟨rfl, rfl⟩
      have hne : gk ≠ g := fun e => by rw [e] at HG; exact absurd (hK1.type HG.out) (by decide)
      obtain ⟨hfl, hcur⟩ := hf i him
      rw [mixF_at] at hfl hcur
      have c1 : wr.cell? ⟨g, i, none⟩ = some (.int .u8 ((f i : Nat) : Int)) := (hK1.cell i).trans hcur
      have HC1 := Lib.hid c1
      have hbl : blockP K ks (ctrB nonce (2 + i / 16)) (i % 16) < 256 := HKS.out _ _ (by omega)
      have HKB := Lib.hid (kbF_succ K ks nonce i)
      have HK := Lib.hid hK1
      clear he hf hcur hK1 c1
      by_cases h16 : i % 16 = 0
      · have h16' : (i : Int) % 16 = 0 := by omega
        have hii := Lib.hid (show (2 + (i : Int) / 16) = ((2 + i / 16 : Nat) : Int) from by omega)
        have HB1 := Lib.hid (HB.out.ext HX.out)
        go_wp2_with (refine wl_loadA rfl 55 _ rfl _ 0 12 rfl agg55 sz55 _ _ HB1.out (by simp [row_size]) (row 12 nonce) (row_whole _ _) ?_)
        try rw [hii.out]
        refine (count75_any (2 + i / 16) b K nonce ks _ (by omega) HNL.out (HC.out.ext (HX0.out.trans HX.out)) hK hK2).mono ?_
        rintro e w4 ⟨rfl, hx4⟩
        have HG4 := Lib.hid (HG.out.ext hx4)
        have HX4 := Lib.hid hx4
        clear hx4
        go_upto_region 8 with (refine wl_storeA rfl 23 _ _ rfl _ 0 16 rfl (row 16 (blockP K ks (ctrB nonce (2 + i / 16)))) rfl sz23 (row_size _ _) _ _ HG4.out (by simp [row_size]) (row_one _ _) (row 16 (blockP K ks (ctrB nonce (2 + i / 16)))) (lay_all _ _ (by simp [row_size])) ?_)
        have hg5 : Blk (w4.setRow gk (row 16 (blockP K ks (ctrB nonce (2 + i / 16))))) gk 23 (row 16 (blockP K ks (ctrB nonce (2 + i / 16)))) := HG4.out.setRow _
        have hk5 : Blk (w4.setRow gk (row 16 (blockP K ks (ctrB nonce (2 + i / 16))))) g 5 cur := (HK.out.ext HX4.out).setRow_other _ (Ne.symm hne)
        have ho5 : OwnT (w4.setRow gk (row 16 (blockP K ks (ctrB nonce (2 + i / 16))))) w1.heap.size (.slice (some ⟨g, 0, none⟩) n kc) n (mixF i (hideP K ks nonce f) f) := by
          rcases (HO.out.ext HX4.out) with ⟨h, _⟩ | ⟨g', cap', cur', hv', hb', hB', hc', hs', hf'⟩
          · cases h
          · cases hv'
            exact .inr ⟨g, kc, cur', rfl, hb', hB'.setRow_other _ (Ne.symm hne), hc', hs', hf'⟩
        have hx5 : Ext w1 (w4.setRow gk (row 16 (blockP K ks (ctrB nonce (2 + i / 16))))) := below_setRow (g := gk) (HX.out.trans HX4.out) hgw _
        have c5 := (hk5.cell i).trans ((HK.out.cell i).symm.trans HC1.out)
        try simp only [put_lit, put_nil7, List.set_cons_succ, List.set_cons_zero]
        generalize w4.setRow gk (row 16 (blockP K ks (ctrB nonce (2 + i / 16)))) = w5 at hg5 hk5 ho5 hx5 c5 ⊢
        clear HO HG HX HK HC1 HG4 HX4 HB1 h16'
        have HO := Lib.hid ho5
        have HG := Lib.hid hg5
        have HX := Lib.hid hx5
        have HK := Lib.hid hk5
        have c1 := c5
        have c2 := hg5.byte (i % 16) (by omega)
        clear hg5 hk5 ho5 hx5 c5 h16
        go_upto_region 8 with fail
        apply wp_region_mid 12 [.det _, .det _, .det _, .det _, .det _, .det _, .det _, .det _, .det _, .det _, .det _, .det _] (by kernel_rfl) rfl (by kernel_rfl)
        · (first | (refine wpE_move rfl rfl rfl ?_; simp only [put_lit, eval_lit, BigFrame.eval_const, List.set_cons_succ, List.set_cons_zero, List.getD_cons_succ, List.getD_cons_zero]) | (refine wpE_run rfl rfl (by simp) (fun w1 hx1 _ K hK => by go_step; exact hK _ (Ext.refl _)) ?_; simp only [put_lit, List.set_cons_succ, List.set_cons_zero]))
          (first | (refine wpE_move rfl rfl rfl ?_; simp only [put_lit, eval_lit, BigFrame.eval_const, List.set_cons_succ, List.set_cons_zero, List.getD_cons_succ, List.getD_cons_zero]) | (refine wpE_run rfl rfl (by simp) (fun w1 hx1 _ K hK => by go_step; exact hK _ (Ext.refl _)) ?_; simp only [put_lit, List.set_cons_succ, List.set_cons_zero]))
          (first | (refine wpE_move rfl rfl rfl ?_; simp only [put_lit, eval_lit, BigFrame.eval_const, List.set_cons_succ, List.set_cons_zero, List.getD_cons_succ, List.getD_cons_zero]) | (refine wpE_run rfl rfl (by simp) (fun w1 hx1 _ K hK => by go_step; exact hK _ (Ext.refl _)) ?_; simp only [put_lit, List.set_cons_succ, List.set_cons_zero]))
          (first | (refine wpE_move rfl rfl rfl ?_; simp only [put_lit, eval_lit, BigFrame.eval_const, List.set_cons_succ, List.set_cons_zero, List.getD_cons_succ, List.getD_cons_zero]) | (refine wpE_run rfl rfl (by simp) (fun w1 hx1 _ K hK => by go_step; exact hK _ (Ext.refl _)) ?_; simp only [put_lit, List.set_cons_succ, List.set_cons_zero]))
          (first | (refine wpE_move rfl rfl rfl ?_; simp only [put_lit, eval_lit, BigFrame.eval_const, List.set_cons_succ, List.set_cons_zero, List.getD_cons_succ, List.getD_cons_zero]) | (refine wpE_run rfl rfl (by simp) (fun w1 hx1 _ K hK => by go_step; exact hK _ (Ext.refl _)) ?_; simp only [put_lit, List.set_cons_succ, List.set_cons_zero]))
          (refine wpE_run rfl rfl (by simp) (fun w1 hx1 _ K hK => by have hc := hx1.cell c1; go_step; exact hK _ (Ext.refl _)) ?_); simp only [put_lit, List.set_cons_succ, List.set_cons_zero]
          (first | (refine wpE_move rfl rfl rfl ?_; simp only [put_lit, eval_lit, BigFrame.eval_const, List.set_cons_succ, List.set_cons_zero, List.getD_cons_succ, List.getD_cons_zero]) | (refine wpE_run rfl rfl (by simp) (fun w1 hx1 _ K hK => by go_step; exact hK _ (Ext.refl _)) ?_; simp only [put_lit, List.set_cons_succ, List.set_cons_zero]))
          (first | (refine wpE_move rfl rfl rfl ?_; simp only [put_lit, eval_lit, BigFrame.eval_const, List.set_cons_succ, List.set_cons_zero, List.getD_cons_succ, List.getD_cons_zero]) | (refine wpE_run rfl rfl (by simp) (fun w1 hx1 _ K hK => by go_step; exact hK _ (Ext.refl _)) ?_; simp only [put_lit, List.set_cons_succ, List.set_cons_zero]))
          (first | (refine wpE_move rfl rfl rfl ?_; simp only [put_lit, eval_lit, BigFrame.eval_const, List.set_cons_succ, List.set_cons_zero, List.getD_cons_succ, List.getD_cons_zero]) | (refine wpE_run rfl rfl (by simp) (fun w1 hx1 _ K hK => by go_step; exact hK _ (Ext.refl _)) ?_; simp only [put_lit, List.set_cons_succ, List.set_cons_zero]))
          (refine wpE_run rfl rfl (by simp) (fun w1 hx1 _ K hK => by have hc := hx1.cell c2; go_step; exact hK _ (Ext.refl _)) ?_); simp only [put_lit, List.set_cons_succ, List.set_cons_zero]
          (first | (refine wpE_move rfl rfl rfl ?_; simp only [put_lit, eval_lit, BigFrame.eval_const, List.set_cons_succ, List.set_cons_zero, List.getD_cons_succ, List.getD_cons_zero]) | (refine wpE_run rfl rfl (by simp) (fun w1 hx1 _ K hK => by go_step; exact hK _ (Ext.refl _)) ?_; simp only [put_lit, List.set_cons_succ, List.set_cons_zero]))
          rw [u8_xor_nat _ _ hfl hbl]
          (first | (refine wpE_move rfl rfl rfl ?_; simp only [put_lit, eval_lit, BigFrame.eval_const, List.set_cons_succ, List.set_cons_zero, List.getD_cons_succ, List.getD_cons_zero]) | (refine wpE_run rfl rfl (by simp) (fun w1 hx1 _ K hK => by go_step; exact hK _ (Ext.refl _)) ?_; simp only [put_lit, List.set_cons_succ, List.set_cons_zero]))
          (refine wpE_nil ?_; intro w2 hw2 hF; simp only [List.drop_succ_cons, List.drop_zero])
          have hcc := hw2.cell c1
          have hff := (HK.out.ext hw2).frozen i
          have HW2 := Lib.hid hw2
          clear hF hw2 c1 c2
          go_wp2_with fail
          go_roundw
          case rel =>
            refine ⟨i + 1, by omega, by go_num, ?_, ?_, (HX.out.trans HW2.out).setCell hg _⟩
            · rw [← mixF_upd]
              exact (HO.out.ext HW2.out).stored i _ (xor_lt hfl hbl) him
            · rw [HKB.out]
              exact (HG.out.ext HW2.out).other _ hne
          case measure => simp [intOf]; omega
      · have h16' : ¬ (i : Int) % 16 = 0 := by omega
        have hgb := HG.out
        rw [show row 16 (kbF K ks nonce i) = row 16 (blockP K ks (ctrB nonce (2 + i / 16))) from by unfold kbF; rw [if_neg (by omega), show (i - 1) / 16 = i / 16 by omega]] at hgb
        clear HG
        have HG := Lib.hid hgb
        have c1 := HC1.out
        have c2 := hgb.byte (i % 16) (by omega)
        clear hgb HC1
        go_upto_region 8 with fail
        apply wp_region_mid 12 [.det _, .det _, .det _, .det _, .det _, .det _, .det _, .det _, .det _, .det _, .det _, .det _] (by kernel_rfl) rfl (by kernel_rfl)
        · (first | (refine wpE_move rfl rfl rfl ?_; simp only [put_lit, eval_lit, BigFrame.eval_const, List.set_cons_succ, List.set_cons_zero, List.getD_cons_succ, List.getD_cons_zero]) | (refine wpE_run rfl rfl (by simp) (fun w1 hx1 _ K hK => by go_step; exact hK _ (Ext.refl _)) ?_; simp only [put_lit, List.set_cons_succ, List.set_cons_zero]))
          (first | (refine wpE_move rfl rfl rfl ?_; simp only [put_lit, eval_lit, BigFrame.eval_const, List.set_cons_succ, List.set_cons_zero, List.getD_cons_succ, List.getD_cons_zero]) | (refine wpE_run rfl rfl (by simp) (fun w1 hx1 _ K hK => by go_step; exact hK _ (Ext.refl _)) ?_; simp only [put_lit, List.set_cons_succ, List.set_cons_zero]))
          (first | (refine wpE_move rfl rfl rfl ?_; simp only [put_lit, eval_lit, BigFrame.eval_const, List.set_cons_succ, List.set_cons_zero, List.getD_cons_succ, List.getD_cons_zero]) | (refine wpE_run rfl rfl (by simp) (fun w1 hx1 _ K hK => by go_step; exact hK _ (Ext.refl _)) ?_; simp only [put_lit, List.set_cons_succ, List.set_cons_zero]))
          (first | (refine wpE_move rfl rfl rfl ?_; simp only [put_lit, eval_lit, BigFrame.eval_const, List.set_cons_succ, List.set_cons_zero, List.getD_cons_succ, List.getD_cons_zero]) | (refine wpE_run rfl rfl (by simp) (fun w1 hx1 _ K hK => by go_step; exact hK _ (Ext.refl _)) ?_; simp only [put_lit, List.set_cons_succ, List.set_cons_zero]))
          (first | (refine wpE_move rfl rfl rfl ?_; simp only [put_lit, eval_lit, BigFrame.eval_const, List.set_cons_succ, List.set_cons_zero, List.getD_cons_succ, List.getD_cons_zero]) | (refine wpE_run rfl rfl (by simp) (fun w1 hx1 _ K hK => by go_step; exact hK _ (Ext.refl _)) ?_; simp only [put_lit, List.set_cons_succ, List.set_cons_zero]))
          (refine wpE_run rfl rfl (by simp) (fun w1 hx1 _ K hK => by have hc := hx1.cell c1; go_step; exact hK _ (Ext.refl _)) ?_); simp only [put_lit, List.set_cons_succ, List.set_cons_zero]
          (first | (refine wpE_move rfl rfl rfl ?_; simp only [put_lit, eval_lit, BigFrame.eval_const, List.set_cons_succ, List.set_cons_zero, List.getD_cons_succ, List.getD_cons_zero]) | (refine wpE_run rfl rfl (by simp) (fun w1 hx1 _ K hK => by go_step; exact hK _ (Ext.refl _)) ?_; simp only [put_lit, List.set_cons_succ, List.set_cons_zero]))
          (first | (refine wpE_move rfl rfl rfl ?_; simp only [put_lit, eval_lit, BigFrame.eval_const, List.set_cons_succ, List.set_cons_zero, List.getD_cons_succ, List.getD_cons_zero]) | (refine wpE_run rfl rfl (by simp) (fun w1 hx1 _ K hK => by go_step; exact hK _ (Ext.refl _)) ?_; simp only [put_lit, List.set_cons_succ, List.set_cons_zero]))
          (first | (refine wpE_move rfl rfl rfl ?_; simp only [put_lit, eval_lit, BigFrame.eval_const, List.set_cons_succ, List.set_cons_zero, List.getD_cons_succ, List.getD_cons_zero]) | (refine wpE_run rfl rfl (by simp) (fun w1 hx1 _ K hK => by go_step; exact hK _ (Ext.refl _)) ?_; simp only [put_lit, List.set_cons_succ, List.set_cons_zero]))
          (refine wpE_run rfl rfl (by simp) (fun w1 hx1 _ K hK => by have hc := hx1.cell c2; go_step; exact hK _ (Ext.refl _)) ?_); simp only [put_lit, List.set_cons_succ, List.set_cons_zero]
          (first | (refine wpE_move rfl rfl rfl ?_; simp only [put_lit, eval_lit, BigFrame.eval_const, List.set_cons_succ, List.set_cons_zero, List.getD_cons_succ, List.getD_cons_zero]) | (refine wpE_run rfl rfl (by simp) (fun w1 hx1 _ K hK => by go_step; exact hK _ (Ext.refl _)) ?_; simp only [put_lit, List.set_cons_succ, List.set_cons_zero]))
          rw [u8_xor_nat _ _ hfl hbl]
          (first | (refine wpE_move rfl rfl rfl ?_; simp only [put_lit, eval_lit, BigFrame.eval_const, List.set_cons_succ, List.set_cons_zero, List.getD_cons_succ, List.getD_cons_zero]) | (refine wpE_run rfl rfl (by simp) (fun w1 hx1 _ K hK => by go_step; exact hK _ (Ext.refl _)) ?_; simp only [put_lit, List.set_cons_succ, List.set_cons_zero]))
          (refine wpE_nil ?_; intro w2 hw2 hF; simp only [List.drop_succ_cons, List.drop_zero])
          have hcc := hw2.cell c1
          have hff := (HK.out.ext hw2).frozen i
          have HW2 := Lib.hid hw2
          clear hF hw2 c1 c2
          go_wp2_with fail
          go_roundw
          case rel =>
            refine ⟨i + 1, by omega, by go_num, ?_, ?_, (HX.out.trans HW2.out).setCell hg _⟩
            · rw [← mixF_upd]
              exact (HO.out.ext HW2.out).stored i _ (xor_lt hfl hbl) him
            · rw [HKB.out]
              exact (HG.out.ext HW2.out).other _ hne
          case measure => simp [intOf]; omega
    · obtain rfl : i = n := by omega
      have him' : ¬ (i : Int) < (i : Int) := by omega
      have HR := Lib.hid ((HO.out.own.mono HX0.out.size).congr (h := hideP K ks nonce f) (fun j hj => by simp only [mixF]; rw [if_pos hj]))
      go_wp2_with fail
      refine bodyPost_ret (v := .slice ko (i : Nat) kc) (by kernel_rfl) rfl ?_
      exact ⟨_, rfl, HR.out, HX0.out.trans HX.out⟩
end Go.Proofs.Ytnigpobbckampaa
