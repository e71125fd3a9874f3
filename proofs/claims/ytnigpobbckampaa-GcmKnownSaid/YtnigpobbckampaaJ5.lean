/- The document's helpers of layer 5: count, full, eight, sum, hidden: walked. -/
import Derived.Test.YtnigpobbckampaaP9
import Derived.Test.YtnigpobbckampaaY8
import Derived.Test.YtnigpobbckampaaY14
import Derived.Test.YtnigpobbckampaaG4
namespace Go.Proofs.Ytnigpobbckampaa
open Go.RowKit
set_option linter.unusedSimpArgs false
set_option linter.unusedVariables false

def lenV : Value → Nat
  | .slice _ n _ => n
  | _ => 0

set_option maxRecDepth 100000 in
set_option maxHeartbeats 1000000 in
theorem full76_any (v : Value) (n : Nat) (f : Nat → Nat) (w : World) (hn : n ≤ 100000) (hv : RdF w v n f) :
    Calls Try.prog 76 #[v] w fun e w' => ∃ v', e = .returned v' ∧ OwnF w' w.heap.size v' (16 * ((n + 15) / 16)) (fixF n f) ∧ Ext w w' := by
  have HV := Lib.hid hv
  clear hv
  go_enter Try.func76, Try.ntmps76
  go_wp2_with fail
  refine (copy_any v n f _ (by omega) HV.out).mono ?_
  rintro e w1 ⟨v1, rfl, ho1, hx1⟩
  have HO1 := Lib.hid (ho1.congr (h := fixF n f) (fun i hi => by unfold fixF; rw [if_pos hi]))
  have HX1 := Lib.hid hx1
  clear ho1 hx1
  go_wp2_with fail
  go_loopw [3] (fun v3 wr => ∃ k : Nat, n ≤ k ∧ k ≤ 16 * ((n + 15) / 16) ∧ OwnF wr w.heap.size v3 k (fixF n f) ∧ Ext w wr) (fun v3 _ => 16 * ((n + 15) / 16) - lenV v3)
  case atStart => exact ⟨n, Nat.le_refl _, by omega, HO1.out, HX1.out⟩
  case round =>
    clear HO1 HX1
    obtain ⟨k, hk1, hk2, ho, hx⟩ := hrel
    obtain ⟨ao, cap, rfl, hcap⟩ := ho.rd.len
    have HO := Lib.hid ho
    have HX := Lib.hid hx
    have hxs := hx.size
    clear ho hx
    by_cases hk : k % 16 = 0
    · have hk' : (k : Int) % 16 = 0 := by omega
      obtain rfl : k = 16 * ((n + 15) / 16) := by omega
      go_wp2_with fail
      refine bodyPost_ret (v := .slice ao (16 * ((n + 15) / 16) : Nat) cap) (by kernel_rfl) rfl ?_
      exact ⟨_, rfl, HO.out, HX.out⟩
    · have hk' : 0 < (k : Int) % 16 := by omega
      have hz : fixF n f k = 0 := by unfold fixF; rw [if_neg (by omega)]
      have HB : Hid (RdF (wr.alloc (.cells #[.int .u8 0] 5)) (.slice (some ⟨wr.heap.size, 0, none⟩) 1 1) 1 (fun _ => 0)) := (own_one wr 0 (by omega)).rd
      go_wp2_with (refine wl_appendF rfl (.tmp 10) (.tmp 11) rfl w.heap.size _ (.slice (some ⟨wr.heap.size, 0, none⟩) 1 1) k 1 (fixF n f) (fun _ => 0) (fixF n f) rfl rfl (HO.out.ext (Ext.alloc wr _)) HB.out (by simp; omega) (by omega) (fun _ _ => rfl) (fun j hj => by rw [show j = 0 by omega, Nat.add_zero, hz]) ?_; intro v' w' hv' hb')
      obtain ⟨ao', cap', rfl, hcap'⟩ := hv'.rd.len
      go_roundw
      case rel => exact ⟨k + 1, by omega, by omega, hv', Below.trans (HX.out.trans (Ext.alloc wr _)) hb'⟩
      case measure => simp [lenV]; omega

def eightF (n : Nat) : Nat → Nat := fun j => n / 2 ^ (8 * (7 - j)) % 256
set_option maxRecDepth 100000 in
set_option maxHeartbeats 1000000 in
theorem eight77_any (n : Nat) (w : World) (hn : n ≤ 1000000) :
    Calls Try.prog 77 #[.int .i64 n] w fun e w' => ∃ v', e = .returned v' ∧ OwnF w' w.heap.size v' 8 (eightF n) ∧ Ext w w' := by
  go_enter Try.func77, Try.ntmps77
  go_wp2_with fail
  go_loopw [3, 4] (fun v3 v4 wr => ∃ u : Nat, u ≤ 8 ∧ v4 = .int .i64 ((u : Int) - 1) ∧ OwnF wr w.heap.size v3 (8 - u) (eightF n) ∧ Ext w wr) (fun _ v4 _ => (intOf v4 + 1).toNat)
  case atStart => exact ⟨8, by omega, rfl, .inl ⟨rfl, rfl⟩, Ext.refl _⟩
  case round =>
    obtain ⟨u, hu, rfl, ho, hx⟩ := hrel
    obtain ⟨ao, cap, rfl, hcap⟩ := ho.rd.len
    have HO := Lib.hid ho
    have HX := Lib.hid hx
    have hxs := hx.size
    clear ho hx
    rcases Nat.eq_zero_or_pos u with rfl | hu0
    · have hu' : ¬ (0 : Int) ≤ ((0 : Nat) : Int) - 1 := by omega
      go_wp2_with fail
      refine bodyPost_ret (v := .slice ao 8 cap) (by kernel_rfl) rfl ?_
      exact ⟨_, rfl, HO.out, HX.out⟩
    · obtain ⟨i, rfl⟩ : ∃ i, u = i + 1 := ⟨u - 1, by omega⟩
      rw [show (((i + 1 : Nat) : Int) - 1) = (i : Int) by omega]
      have hi' : (0 : Int) ≤ (i : Int) := by omega
      have hval : eightF n (8 - (i + 1)) = n / 2 ^ (8 * i) % 256 := by unfold eightF; rw [show 7 - (8 - (i + 1)) = i by omega]
      have hlt : n / 2 ^ (8 * i) % 256 < 256 := Nat.mod_lt _ (by omega)
      have HB : Hid (RdF (wr.alloc (.cells #[.int .u8 ((n : Int) / 2 ^ (8 * i) % 256)] 5)) (.slice (some ⟨wr.heap.size, 0, none⟩) 1 1) 1 (fun _ => n / 2 ^ (8 * i) % 256)) := by
        have := (own_one wr (n / 2 ^ (8 * i) % 256) hlt).rd
        rw [show (((n / 2 ^ (8 * i) % 256 : Nat)) : Int) = (n : Int) / 2 ^ (8 * i) % 256 by simp] at this
        exact this
      have HE := Lib.hid hval
      clear hval hlt
      go_wp2_with (refine wl_appendF rfl (.tmp 9) (.tmp 15) rfl w.heap.size _ (.slice (some ⟨wr.heap.size, 0, none⟩) 1 1) (8 - (i + 1)) 1 (eightF n) (fun _ => n / 2 ^ (8 * i) % 256) (eightF n) rfl rfl (HO.out.ext (Ext.alloc wr _)) HB.out (by simp; omega) (by omega) (fun _ _ => rfl) (fun j hj => by rw [show j = 0 by omega, Nat.add_zero, HE.out]) ?_; intro v' w' hv' hb')
      go_roundw
      case rel => exact ⟨i, by omega, rfl, by rw [show 8 - i = 8 - (i + 1) + 1 by omega]; exact hv', Below.trans (HX.out.trans (Ext.alloc wr _)) hb'⟩
      case measure => simp [intOf]

set_option maxRecDepth 100000 in
set_option maxHeartbeats 1000000 in
theorem count75_any (n b K : Nat) (nonce : Nat → Nat) (ks : Nat → Nat → Nat) (w : World) (hn : n ≤ 1000000) (hNl : ∀ j, j < 12 → nonce j < 256) (hC : CphR w b K ks) (hK : 2 ≤ K) (hK2 : K ≤ 1000) :
    Calls Try.prog 75 #[.pointer (some ⟨b, 0, none⟩), .agg (row 12 nonce), .int .i64 n] w fun e w' => e = .returned (.agg (row 16 (blockP K ks (ctrB nonce n)))) ∧ Ext w w' := by
  go_enter Try.func75, Try.ntmps75
  go_upto_region 2 with (first | (refine wl_boxA rfl 55 _ rfl _ rfl ?_) | (refine wl_allocA rfl 23 rfl _ zero23 ?_))
  have hN : Blk (((w.alloc (.cells (row 12 nonce) 55)).alloc (.cells (row 16 fun _ => 0) 23)).alloc (.cells (row 16 fun _ => 0) 23)) w.heap.size 55 (row 12 nonce) := ((Blk.new w _ _).alloc _).alloc _
  have hA : Blk (((w.alloc (.cells (row 12 nonce) 55)).alloc (.cells (row 16 fun _ => 0) 23)).alloc (.cells (row 16 fun _ => 0) 23)) (w.heap.size + 1) 23 (row 16 fun _ => 0) := by
    have := (Blk.new (w.alloc (.cells (row 12 nonce) 55)) 23 (row 16 fun _ => 0)).alloc (.cells (row 16 fun _ => 0) 23)
    simpa only [World.size_alloc] using this
  have hB : Blk (((w.alloc (.cells (row 12 nonce) 55)).alloc (.cells (row 16 fun _ => 0) 23)).alloc (.cells (row 16 fun _ => 0) 23)) (w.heap.size + 2) 23 (row 16 (ctrK (fun _ => 0) 0 0)) := by
    have := Blk.new ((w.alloc (.cells (row 12 nonce) 55)).alloc (.cells (row 16 fun _ => 0) 23)) 23 (row 16 fun _ => 0)
    rw [show row 16 (ctrK (fun _ => 0) 0 0) = row 16 (fun _ => 0) from row_congr fun j hj => by simp [ctrK]]
    simpa only [World.size_alloc] using this
  have hx : Ext w (((w.alloc (.cells (row 12 nonce) 55)).alloc (.cells (row 16 fun _ => 0) 23)).alloc (.cells (row 16 fun _ => 0) 23)) := ((Ext.alloc _ _).trans (Ext.alloc _ _)).trans (Ext.alloc _ _)
  try simp only [put_lit, put_nil7, List.set_cons_succ, List.set_cons_zero, World.size_alloc]
  generalize ((w.alloc (.cells (row 12 nonce) 55)).alloc (.cells (row 16 fun _ => 0) 23)).alloc (.cells (row 16 fun _ => 0) 23) = w1 at hN hA hB hx ⊢
  have HC := Lib.hid hC
  have HNL := Lib.hid hNl
  clear hC hNl
  go_wp2_with fail
  go_loopw [8] (fun v8 wr => ∃ k : Nat, k ≤ 12 ∧ v8 = .int .i64 k ∧ Blk wr w.heap.size 55 (row 12 nonce) ∧ Blk wr (w.heap.size + 1) 23 (row 16 fun _ => 0) ∧ Blk wr (w.heap.size + 2) 23 (row 16 (mixF k nonce fun _ => 0)) ∧ Ext w wr) (fun v8 _ => 12 - (intOf v8).toNat)
  case atStart => exact ⟨0, by omega, rfl, hN, hA, by rw [mixF_zero]; rw [show row 16 (fun _ => 0) = row 16 (ctrK (fun _ => 0) 0 0) from row_congr fun j hj => by simp [ctrK]]; exact hB, hx⟩
  case round =>
    clear hN hA hB hx
    obtain ⟨k, hk, rfl, hn2, ha, hb, hx⟩ := hrel
    have HN := Lib.hid hn2
    have HA := Lib.hid ha
    have HB := Lib.hid hb
    have HX := Lib.hid hx
    clear hn2 ha hb hx
    by_cases hlt : k < 12
    · have hk' : (k : Int) < 12 := by omega
      have c0 := HN.out.byte k hlt
      have c1 := HB.out.byte k (by omega)
      have f1 := HB.out.frozen k
      go_wp2_with fail
      go_roundw
      case rel =>
        refine ⟨k + 1, by omega, by go_num, HN.out.other _ (by simp <;> omega), HA.out.other _ (by simp <;> omega), ?_, HX.out.setCell (by simp <;> omega) _⟩
        rw [← mixF_upd]
        exact HB.out.setB k _
      case measure => simp [intOf]; omega
    · obtain rfl : k = 12 := by omega
      have hk' : ¬ ((12 : Nat) : Int) < 12 := by omega
      have hb3 : Blk wr (w.heap.size + 2) 23 (row 16 (ctrK nonce n 0)) := by
        rw [show row 16 (ctrK nonce n 0) = row 16 (mixF 12 nonce fun _ => 0) from row_congr fun j hj => by
          simp only [ctrK, mixF]
          by_cases h : j < 12
          · rw [if_pos h, if_pos h]
          · rw [if_neg h, if_neg h, if_neg (by omega)]]
        exact HB.out
      have HB3 := Lib.hid hb3
      clear HB hb3
      go_wp2_with fail
      go_loopw [9] (fun v9 wq => ∃ k : Nat, k ≤ 4 ∧ v9 = .int .i64 k ∧ Blk wq (w.heap.size + 1) 23 (row 16 fun _ => 0) ∧ Blk wq (w.heap.size + 2) 23 (row 16 (ctrK nonce n k)) ∧ Ext w wq) (fun v9 _ => 4 - (intOf v9).toNat)
      case atStart => exact ⟨0, by omega, rfl, HA.out, HB3.out, HX.out⟩
      case round =>
        clear HA HB3 HX HN
        obtain ⟨k, hk, rfl, ha, hb, hx⟩ := hrel
        have HA := Lib.hid ha
        have HB := Lib.hid hb
        have HX := Lib.hid hx
        clear ha hb hx
        by_cases hk4 : k < 4
        · have hk' : (k : Int) < 4 := by omega
          have c1 := HB.out.byte (12 + k) (by omega)
          have f1 := HB.out.frozen (12 + k)
          go_wp2_with fail
          rw [show ((n : Int) / 2 ^ (24 - 8 * k) % 256) = ((n / 2 ^ (24 - 8 * k) % 256 : Nat) : Int) by simp]
          go_roundw
          case rel =>
            refine ⟨k + 1, by omega, by go_num, HA.out.other _ (by simp <;> omega), ?_, HX.out.setCell (by simp <;> omega) _⟩
            rw [← ctrK_upd]
            exact HB.out.setB (12 + k) _
          case measure => simp [intOf]; omega
        · obtain rfl : k = 4 := by omega
          have hk' : ¬ ((4 : Nat) : Int) < 4 := by omega
          go_wp2_with (refine wl_loadA rfl 23 (.tmp 7) rfl _ 0 16 rfl agg23 sz23 _ _ HB.out (by simp [row_size]) (row 16 (ctrB nonce n)) (row_whole _ _) ?_)
          refine (refblock_any b K ks hK hK2 (ctrB nonce n) (fun j _ => ctrB_lt HNL.out n j) _ (HC.out.ext HX.out)).mono ?_
          rintro e w4 ⟨rfl, hx4⟩
          have hA4 := Lib.hid (HA.out.ext hx4)
          have hX4 := Lib.hid (HX.out.trans hx4)
          clear hx4
          go_wp2_with (refine wl_storeA rfl 23 _ _ rfl _ 0 16 rfl (row 16 (blockP K ks (ctrB nonce n))) rfl sz23 (row_size _ _) _ _ hA4.out (by simp [row_size]) (row_one _ _) (row 16 (blockP K ks (ctrB nonce n))) (lay_all _ _ (by simp [row_size])) ?_)
          refine bodyPost_ret (results_blk rfl _ _ (w.heap.size + 1) 16 23 (row 16 (blockP K ks (ctrB nonce n))) rfl (hA4.out.setRow _) agg23 sz23 (row_size _ _).symm) rfl ?_
          exact ⟨rfl, below_setRow (g := w.heap.size + 1) hX4.out (by omega) _⟩
end Go.Proofs.Ytnigpobbckampaa
