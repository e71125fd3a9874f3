/- The sealed count blocks of a nonce, walked. -/
import Derived.Test.YtnigpobbckampaaY5
import Derived.Test.YtnigpobbckampaaA3
import Derived.Test.YtnigpobbckampaaE0
namespace Go.Proofs.Ytnigpobbckampaa
open Go.RowKit
set_option linter.unusedSimpArgs false
set_option linter.unusedVariables false

/-- A count block, of which k bytes of the number are written. -/
def ctrK (nonce : Nat → Nat) (n k : Nat) : Nat → Nat := fun j => if j < 12 then nonce j else if j < 12 + k then n / 2 ^ (24 - 8 * (j - 12)) % 256 else 0
def ctrB (nonce : Nat → Nat) (n : Nat) : Nat → Nat := ctrK nonce n 4
theorem ctrB_lt {nonce : Nat → Nat} (h : ∀ j, j < 12 → nonce j < 256) (n : Nat) (j : Nat) : ctrB nonce n j < 256 := by
  unfold ctrB ctrK
  split
  · exact h j (by assumption)
  · split
    · exact Nat.mod_lt _ (by omega)
    · omega
theorem ctrK_upd (nonce : Nat → Nat) (n k : Nat) : upd (ctrK nonce n k) (12 + k) (n / 2 ^ (24 - 8 * k) % 256) = ctrK nonce n (k + 1) := by
  funext j
  simp only [upd, ctrK]
  by_cases h : j = 12 + k
  · subst h
    rw [if_pos rfl, if_neg (by omega), if_pos (by omega), Nat.add_sub_cancel_left]
  · rw [if_neg h]
    by_cases h2 : j < 12
    · rw [if_pos h2, if_pos h2]
    · rw [if_neg h2, if_neg h2]
      by_cases h3 : j < 12 + k
      · rw [if_pos h3, if_pos (by omega)]
      · rw [if_neg h3, if_neg (by omega)]

set_option maxHeartbeats 400000 in
theorem counted61_any (b : Nat) (nonce : Nat → Nat) (w : World) :
    Calls Try.prog 61 #[.pointer (some ⟨b, 0, none⟩), .agg (row 12 nonce)] w fun e w' => e = .returned (.func (.func 73) #[] #[.pointer (some ⟨w.heap.size + 1, 0, none⟩), .pointer (some ⟨w.heap.size, 0, none⟩)]) ∧
      w' = (w.alloc (.cells #[.pointer (some ⟨b, 0, none⟩)] 25)).alloc (.cells (row 12 nonce) 55) := by
  go_enter Try.func61, Try.ntmps61
  go_wp2_with (refine wl_boxA rfl 55 _ rfl _ rfl ?_)
  go_ret
  exact ⟨rfl, rfl⟩

set_option maxRecDepth 100000 in
set_option maxHeartbeats 1000000 in
theorem counted73_any (n gn gc b K : Nat) (nonce : Nat → Nat) (ks : Nat → Nat → Nat) (w : World) (hn : n ≤ 1000000) (hN : Blk w gn 55 (row 12 nonce)) (hNl : ∀ j, j < 12 → nonce j < 256)
    (hgc : w.cell? ⟨gc, 0, none⟩ = some (.pointer (some ⟨b, 0, none⟩))) (hC : Cph w b K ks) (hK : 2 ≤ K) (hK2 : K ≤ 1000) :
    Calls Try.prog 73 #[.int .i64 n, .pointer (some ⟨gn, 0, none⟩), .pointer (some ⟨gc, 0, none⟩)] w fun e w' => e = .returned (.agg (row 16 (blockP K ks (ctrB nonce n)))) ∧ Ext w w' := by
  go_enter Try.func73, Try.ntmps73
  go_upto_region 2 with (refine wl_allocA rfl 23 rfl _ zero23 ?_)
  have hA : Blk ((w.alloc (.cells (row 16 fun _ => 0) 23)).alloc (.cells (row 16 fun _ => 0) 23)) w.heap.size 23 (row 16 fun _ => 0) := (Blk.new _ _ _).alloc _
  have hB : Blk ((w.alloc (.cells (row 16 fun _ => 0) 23)).alloc (.cells (row 16 fun _ => 0) 23)) (w.heap.size + 1) 23 (row 16 fun _ => 0) := by
    have := Blk.new (w.alloc (.cells (row 16 fun _ => 0) 23)) 23 (row 16 fun _ => 0)
    simpa only [World.size_alloc] using this
  have hx : Ext w ((w.alloc (.cells (row 16 fun _ => 0) 23)).alloc (.cells (row 16 fun _ => 0) 23)) := (Ext.alloc _ _).trans (Ext.alloc _ _)
  simp only [put_lit, List.set_cons_succ, List.set_cons_zero, World.size_alloc]
  generalize (w.alloc (.cells (row 16 fun _ => 0) 23)).alloc (.cells (row 16 fun _ => 0) 23) = w1 at hA hB hx ⊢
  have HA := Lib.hid hA
  have HB := Lib.hid hB
  have HX := Lib.hid hx
  have HN := Lib.hid hN
  have HC := Lib.hid hC
  have hgw := hN.lt
  have hrd : RdF w1 (.slice (some ⟨gn, 0, none⟩) 12 12) 12 nonce := ⟨_, _, rfl, Nat.le_refl _, fun h => (by cases h), fun i hi => ⟨hNl i hi, _, rfl, by rw [Addr.add_lit, Nat.zero_add]; exact (hN.ext hx).byte i hi⟩⟩
  have HR := Lib.hid hrd
  have HGC := Lib.hid hgc
  clear hA hB hx hN hC hrd hgc
  apply wp_region_mid 2 [.det _, .det _] (by kernel_rfl) rfl (by kernel_rfl)
  · (first | (refine wpE_move rfl rfl rfl ?_; simp only [put_lit, eval_lit, BigFrame.eval_const, List.set_cons_succ, List.set_cons_zero, List.getD_cons_succ, List.getD_cons_zero]) | (refine wpE_run rfl rfl (by simp) (fun w1 hx1 _ K hK => by go_step; exact hK _ (Ext.refl _)) ?_; simp only [put_lit, List.set_cons_succ, List.set_cons_zero]))
    (first | (refine wpE_move rfl rfl rfl ?_; simp only [put_lit, eval_lit, BigFrame.eval_const, List.set_cons_succ, List.set_cons_zero, List.getD_cons_succ, List.getD_cons_zero]) | (refine wpE_run rfl rfl (by simp) (fun w1 hx1 _ K hK => by go_step; exact hK _ (Ext.refl _)) ?_; simp only [put_lit, List.set_cons_succ, List.set_cons_zero]))
    (refine wpE_nil ?_; intro w2 hw2 hF; simp only [List.drop_succ_cons, List.drop_zero])
    refine wl_copyF rfl (.tmp 7) (.tmp 8) rfl (w.heap.size + 1) 16 16 _ 12 nonce (fun _ => 0) 23 rfl rfl (HR.out.ext hw2) (by omega) (by omega) (HB.out.ext hw2) ?_
    have hb3 : Blk (w2.setRow (w.heap.size + 1) (row 16 (mixF 12 nonce fun _ => 0))) (w.heap.size + 1) 23 (row 16 (ctrK nonce n 0)) := by
      rw [show row 16 (ctrK nonce n 0) = row 16 (mixF 12 nonce fun _ => 0) from row_congr fun j hj => by
        simp only [ctrK, mixF]
        by_cases h : j < 12
        · rw [if_pos h, if_pos h]
        · rw [if_neg h, if_neg h, if_neg (by omega)]]
      exact (HB.out.ext hw2).setRow _
    have ha3 := (HA.out.ext hw2).setRow_other (k := w.heap.size + 1) (row 16 (mixF 12 nonce fun _ => 0)) (by omega)
    have hx3 := below_setRow (g := w.heap.size + 1) (HX.out.trans hw2) (by omega) (row 16 (mixF 12 nonce fun _ => 0))
    simp only [put_lit, List.set_cons_succ, List.set_cons_zero]
    generalize w2.setRow (w.heap.size + 1) (row 16 (mixF 12 nonce fun _ => 0)) = w3 at hb3 ha3 hx3 ⊢
    clear hF hw2 HA HB HX HR
    go_wp2_with fail
    go_loopw [10] (fun v10 wr => ∃ k : Nat, k ≤ 4 ∧ v10 = .int .i64 k ∧ Blk wr w.heap.size 23 (row 16 fun _ => 0) ∧ Blk wr (w.heap.size + 1) 23 (row 16 (ctrK nonce n k)) ∧ Ext w wr) (fun v10 _ => 4 - (intOf v10).toNat)
    case atStart => exact ⟨0, by omega, rfl, ha3, hb3, hx3⟩
    case round =>
      clear ha3 hb3 hx3
      obtain ⟨k, hk, rfl, ha, hb, hx⟩ := hrel
      have HA := Lib.hid ha
      have HB := Lib.hid hb
      have HX := Lib.hid hx
      by_cases hk4 : k < 4
      · have hk' : (k : Int) < 4 := by omega
        have c1 := hb.byte (12 + k) (by omega)
        have f1 := hb.frozen (12 + k)
        clear ha hb hx
        go_wp2_with fail
        rw [show ((n : Int) / 2 ^ (24 - 8 * k) % 256) = ((n / 2 ^ (24 - 8 * k) % 256 : Nat) : Int) by simp]
        refine ⟨⟨k + 1, by omega, by go_num, HA.out.other _ (by simp), ?_, HX.out.setCell (by simp) _⟩, by simp [intOf]; omega⟩
        rw [← ctrK_upd]
        exact HB.out.setB (12 + k) _
      · obtain rfl : k = 4 := by omega
        have hcc := HX.out.cell HGC.out
        clear ha hb hx
        go_wp2_with (refine wl_loadA rfl 23 (.tmp 5) rfl _ 0 16 rfl agg23 sz23 _ _ HB.out (by simp [row_size]) (row 16 (ctrB nonce n)) (row_whole _ _) ?_)
        refine (block_any b K ks hK hK2 (ctrB nonce n) (fun j _ => ctrB_lt hNl n j) _ (HC.out.ext HX.out)).mono ?_
        rintro e w4 ⟨rfl, hx4⟩
        have hA4 := Lib.hid (HA.out.ext hx4)
        have hX4 := Lib.hid (HX.out.trans hx4)
        clear hx4 hcc
        go_wp2_with (refine wl_storeA rfl 23 _ _ rfl _ 0 16 rfl (row 16 (blockP K ks (ctrB nonce n))) rfl sz23 (row_size _ _) _ _ hA4.out (by simp [row_size]) (row_one _ _) (row 16 (blockP K ks (ctrB nonce n))) (lay_all _ _ (by simp [row_size])) ?_)
        refine bodyPost_ret (results_blk rfl _ _ w.heap.size 16 23 (row 16 (blockP K ks (ctrB nonce n))) rfl (hA4.out.setRow _) agg23 sz23 (row_size _ _).symm) rfl ?_
        exact ⟨rfl, below_setRow (g := w.heap.size) hX4.out (Nat.le_refl _) _⟩
end Go.Proofs.Ytnigpobbckampaa
