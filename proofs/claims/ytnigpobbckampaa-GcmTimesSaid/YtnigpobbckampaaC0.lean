/- Contracts of slices.Clone, R.CopyBytes. -/
import Derived.Test.YtnigpobbckampaaS
import Derived.Test.YtnigpobbckampaaR
namespace Go.Proofs.Ytnigpobbckampaa
set_option linter.unusedSimpArgs false
set_option linter.unusedVariables false
open Go.RowKit

set_option maxHeartbeats 400000 in
theorem clone_any (v : Value) (n : Nat) (f : Nat → Nat) (w : World) (hn : n ≤ 1000000) (hv : RdF w v n f) :
    Calls Try.prog 48 #[v] w fun e w' => ∃ v', e = .returned v' ∧ OwnF w' w.heap.size v' n f ∧ Ext w w' := by
  obtain ⟨ao, cap, rfl, hc, hnil, hf⟩ := hv
  have hv : RdF w (.slice ao n cap) n f := ⟨ao, cap, rfl, hc, hnil, hf⟩
  have HV := Lib.hid hv
  cases ao with
  | none =>
    obtain rfl : cap = 0 := hnil rfl
    obtain rfl : n = 0 := by omega
    clear hv hf hnil hn hc HV
    have hnl := fun (wx : World) => Lib.run_eql_slice_nil (P := Try.prog) wx 22 5 none 0 0 0 0 Try.underlying22
    go_enter Try.func48, Try.ntmps48
    go_wp2
    go_ret
    exact ⟨_, rfl, .inl ⟨rfl, rfl⟩, Ext.refl _⟩
  | some a =>
    have HN := Lib.hid hn
    clear hv hf hnil hn
    have hnl := fun (wx : World) => Lib.run_eql_slice_nil (P := Try.prog) wx 22 5 (some a) n cap 0 0 Try.underlying22
    go_enter Try.func48, Try.ntmps48
    go_wp2_with (refine wl_appendF rfl (.tmp 5) (.tmp 6) rfl w.heap.size (.slice (some ⟨w.heap.size, 0, none⟩) 0 0) (.slice (some a) n cap) 0 n f f f rfl rfl (.inr ⟨w.heap.size, 0, 0, 5, #[], rfl, Nat.le_refl _, Blk.new w 5 #[], Nat.le_refl _, Nat.le_refl _, fun i hi => absurd hi (Nat.not_lt_zero _)⟩) (HV.out.ext (Ext.alloc w _)) (by simp) (by have := HN.out; omega) (fun _ _ => rfl) (fun j _ => by rw [Nat.zero_add]) ?_; intro v' w' hv' hb')
    go_ret
    rw [Nat.zero_add] at hv'
    exact ⟨v', rfl, hv', ((Below.refl _ w).alloc (Nat.le_refl _) _).trans hb'⟩

set_option maxHeartbeats 400000 in
theorem copy_any (v : Value) (n : Nat) (f : Nat → Nat) (w : World) (hn : n ≤ 1000000) (hv : RdF w v n f) :
    Calls Try.prog 18 #[v] w fun e w' => ∃ v', e = .returned v' ∧ OwnF w' w.heap.size v' n f ∧ Ext w w' := by
  have HV := Lib.hid hv
  have HN := Lib.hid hn
  clear hv hn
  go_enter Try.func18, Try.ntmps18
  go_wp2_with (refine wl_appendF rfl (.tmp 4) (.tmp 5) rfl w.heap.size (.slice none 0 0) v 0 n f f f rfl rfl (.inl ⟨rfl, rfl⟩) HV.out (Nat.le_refl _) (by have := HN.out; omega) (fun _ _ => rfl) (fun j _ => by rw [Nat.zero_add]) ?_; intro v' w' hv' hb')
  go_ret
  rw [Nat.zero_add] at hv'
  exact ⟨v', rfl, hv', hb'⟩

theorem own_one (w : World) (x : Nat) (hx : x < 256) : OwnF (w.alloc (.cells #[.int .u8 ((x : Nat) : Int)] 5)) w.heap.size (.slice (some ⟨w.heap.size, 0, none⟩) 1 1) 1 (fun _ => x) :=
  .inr ⟨w.heap.size, 0, 1, 5, _, rfl, Nat.le_refl _, Blk.new w 5 _, Nat.le_refl _, by simp, fun i hi => by
    obtain rfl : i = 0 := by omega
    exact ⟨hx, by simp⟩⟩

set_option maxRecDepth 100000 in
set_option maxHeartbeats 1000000 in
theorem counting_any (n c : Nat) (w : World) (hn : n ≤ 100) (hc : c ≤ 100) :
    Calls Try.prog 36 #[.int .i64 n, .int .i64 c] w fun e w' => ∃ v', e = .returned v' ∧ OwnF w' w.heap.size v' n (fun i => i * c % 256) ∧ Ext w w' := by
  go_enter Try.func36, Try.ntmps36
  go_wp2
  go_loopw [5, 6] (fun v i wr => ∃ k : Nat, k ≤ n ∧ i = .int .i64 k ∧ OwnF wr w.heap.size v k (fun i => i * c % 256) ∧ Ext w wr) (fun _ i _ => n - (intOf i).toNat)
  case atStart => exact ⟨0, Nat.zero_le _, rfl, .inl ⟨rfl, rfl⟩, Ext.refl _⟩
  case round =>
    obtain ⟨k, hk, rfl, ho, hx⟩ := hrel
    have HO := Lib.hid ho
    have hxs := hx.size
    clear ho
    have hm : k * c ≤ 100 * 100 := Nat.mul_le_mul (by omega) hc
    have hm2 : (k : Int) * (c : Int) ≤ 10000 := by have : ((k * c : Nat) : Int) ≤ 10000 := by omega
                                                   simpa using this
    have hm3 : 0 ≤ (k : Int) * (c : Int) := by have : 0 ≤ ((k * c : Nat) : Int) := by omega
                                               simpa using this
    by_cases hlt : k < n
    · have hlt' : (k : Int) < (n : Int) := by omega
      have HB : Hid (RdF (wr.alloc (.cells #[.int .u8 ((k : Int) * (c : Int) % 256)] 5)) (.slice (some ⟨wr.heap.size, 0, none⟩) 1 1) 1 (fun _ => k * c % 256)) := by
        have := (own_one wr (k * c % 256) (Nat.mod_lt _ (by omega))).rd
        rw [show (((k * c % 256 : Nat)) : Int) = (k : Int) * (c : Int) % 256 by simp] at this
        exact this
      go_wp2_with (refine wl_appendF rfl (.tmp 12) (.tmp 17) rfl w.heap.size _ (.slice (some ⟨wr.heap.size, 0, none⟩) 1 1) k 1 (fun i => i * c % 256) (fun _ => k * c % 256) (fun i => i * c % 256) rfl rfl (HO.out.ext (Ext.alloc wr _)) HB.out (by simp; omega) (by omega) (fun _ _ => rfl) (fun j hj => by rw [show j = 0 by omega, Nat.add_zero]) ?_; intro v' w' hv' hb')
      go_roundw
      case rel => exact ⟨k + 1, by omega, by go_num, hv', Below.trans (hx.trans (Ext.alloc wr _)) hb'⟩
      case measure => simp [intOf]; omega
    · obtain rfl : k = n := by omega
      have hlt' : ¬ (k : Int) < (k : Int) := by omega
      clear hm hm2 hm3
      go_wp2_with fail
      go_ret
      exact ⟨_, rfl, HO.out, hx⟩

/-- A text as a block: cut, or filled up with 0. -/
def fixF (n : Nat) (f : Nat → Nat) : Nat → Nat := fun i => if i < n then f i else 0

set_option maxRecDepth 100000 in
set_option maxHeartbeats 1000000 in
theorem fixed_any (v : Value) (n : Nat) (f : Nat → Nat) (w : World) (hn : n ≤ 1000000) (hv : RdF w v n f) :
    Calls Try.prog 37 #[v] w fun e w' => e = .returned (.agg (row 16 (fixF n f))) ∧ Ext w w' := by
  obtain ⟨ao, cap, rfl, hcap⟩ := hv.len
  have HV := Lib.hid hv
  clear hv
  go_enter Try.func37, Try.ntmps37
  go_wp2_with (refine wl_allocA rfl 23 rfl _ zero23 ?_)
  have hB0 : Blk ((w.alloc (.cells (row 16 fun _ => 0) 23)).alloc (.cells (row 16 fun _ => 0) 23)) w.heap.size 23 (row 16 fun _ => 0) := (Blk.new w _ _).alloc _
  have hB1 : Blk ((w.alloc (.cells (row 16 fun _ => 0) 23)).alloc (.cells (row 16 fun _ => 0) 23)) (w.heap.size + 1) 23 (row 16 fun _ => 0) := by
    have := Blk.new (w.alloc (.cells (row 16 fun _ => 0) 23)) 23 (row 16 fun _ => 0)
    simpa using this
  go_loopw [4] (fun i wr => ∃ k : Nat, k ≤ 16 ∧ k ≤ n ∧ i = .int .i64 k ∧ Blk wr w.heap.size 23 (row 16 fun _ => 0) ∧ Blk wr (w.heap.size + 1) 23 (row 16 (mixF k f fun _ => 0)) ∧ Ext w wr) (fun i _ => 16 - (intOf i).toNat)
  case atStart => exact ⟨0, by omega, Nat.zero_le _, rfl, hB0, by rw [mixF_zero]; exact hB1, (Ext.alloc _ _).trans (Ext.alloc _ _)⟩
  case round =>
    clear hB0 hB1
    obtain ⟨k, hk, hkn, rfl, hb0, hb1, hx⟩ := hrel
    have H0 := Lib.hid hb0
    have H1 := Lib.hid hb1
    have hxs := hx.size
    by_cases hlt : k < 16
    · have hlt' : (k : Int) < 16 := by omega
      by_cases hln : k < n
      · have hln' : (k : Int) < (n : Int) := by omega
        obtain ⟨g, off, cap', hs, _, hf⟩ := (HV.out.ext hx).form (by omega)
        obtain ⟨rfl, rfl⟩ : ao = some ⟨g, off, none⟩ ∧ cap = cap' := by cases hs; exact ⟨rfl, rfl⟩
        have hc := (hf k hln).2
        have hfk := (hf k hln).1
        have ht := hb1.byte k hlt
        have hfr := hb1.frozen k
        clear hf hs hb0 hb1
        go_wp2_with fail
        go_roundw
        case rel =>
          refine ⟨k + 1, by omega, by omega, by go_num, H0.out.other _ (by simp), ?_, Below.setCell hx (by simp) _⟩
          rw [← mixF_upd]
          exact H1.out.setB k _
        case measure => simp [intOf]; omega
      · obtain rfl : n = k := by omega
        have hln' : (n : Int) ≤ (n : Int) := by omega
        clear hb0 hb1
        go_wp2_with (first | (refine wl_loadA rfl 23 _ rfl _ 0 16 rfl agg23 sz23 _ _ H1.out (by simp [row_size]) (row 16 (fixF n f)) ?e1 ?_) | (refine wl_storeA rfl 23 _ _ rfl _ 0 16 rfl (row 16 (fixF n f)) rfl sz23 (row_size _ _) _ _ H0.out (by simp [row_size]) (row_one _ _) (row 16 (fixF n f)) (lay_all _ _ (by simp [row_size])) ?_))
        case e1 => rw [row_whole]; exact row_congr fun j _ => by simp [mixF, fixF]
        refine bodyPost_ret (results_blk rfl _ _ w.heap.size 16 23 (row 16 (fixF n f)) rfl (H0.out.setRow _) agg23 sz23 (row_size _ _).symm) rfl ?_
        exact ⟨rfl, below_setRow (g := w.heap.size) hx (by omega) _⟩
    · obtain rfl : k = 16 := by omega
      have hlt' : ¬ ((16 : Nat) : Int) < 16 := by omega
      clear hb0 hb1
      go_wp2_with (first | (refine wl_loadA rfl 23 _ rfl _ 0 16 rfl agg23 sz23 _ _ H1.out (by simp [row_size]) (row 16 (fixF n f)) ?e1 ?_) | (refine wl_storeA rfl 23 _ _ rfl _ 0 16 rfl (row 16 (fixF n f)) rfl sz23 (row_size _ _) _ _ H0.out (by simp [row_size]) (row_one _ _) (row 16 (fixF n f)) (lay_all _ _ (by simp [row_size])) ?_))
      case e1 => rw [row_whole]; exact row_congr fun j hj => by simp [mixF, fixF, hj, show j < n by omega]
      refine bodyPost_ret (results_blk rfl _ _ w.heap.size 16 23 (row 16 (fixF n f)) rfl (H0.out.setRow _) agg23 sz23 (row_size _ _).symm) rfl ?_
      exact ⟨rfl, below_setRow (g := w.heap.size) hx (by omega) _⟩

end Go.Proofs.Ytnigpobbckampaa
