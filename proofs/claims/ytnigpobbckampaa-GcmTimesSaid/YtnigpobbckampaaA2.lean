/- Contracts of aes.Inv, aes.Box, Rounds, add. -/
import Derived.Test.YtnigpobbckampaaA1
import Derived.StillTailTactics
namespace Go.Proofs.Ytnigpobbckampaa
set_option linter.unusedSimpArgs false
set_option linter.unusedVariables false
open Go.RowKit

set_option maxRecDepth 100000 in
set_option maxHeartbeats 400000 in
theorem inv_any (a : Nat) (ha : a < 256) (w : World) :
    Calls Try.prog 28 #[.int .u8 a] w fun e w' => e = .returned (.int .u8 ((invP a : Nat) : Int)) ∧ Ext w w' := by
  have hx : ((row 512 tabP).extract 0 256)[a]? = some (.int .u8 ((invP a : Nat) : Int)) := by
    rw [Array.getElem?_extract, if_pos (by simp [row_size]; omega), row_get _ _ _ (by omega)]
    simp [tabP, ha]
  have HX := Lib.hid hx
  clear hx
  go_enter Try.func28, Try.ntmps28
  go_wp2_with (first | (go_at_call 47; refine (build_any _).mono ?_; rintro e w' ⟨rfl, hx⟩) | (refine wl_fieldR rfl 71 _ _ rfl _ rfl _ (fld71_0 _ _) ?_) | (refine wl_indexA rfl 52 _ _ rfl 5 256 Try.underlying52 nagg5 sz5 _ rfl .u8 a rfl ha _ HX.out ?_))
  go_ret
  exact ⟨rfl, by assumption⟩

set_option maxRecDepth 100000 in
set_option maxHeartbeats 400000 in
theorem box_any (a : Nat) (ha : a < 256) (w : World) :
    Calls Try.prog 30 #[.int .u8 a] w fun e w' => e = .returned (.int .u8 ((boxP a : Nat) : Int)) ∧ Ext w w' := by
  have hx : ((row 512 tabP).extract 256 512)[a]? = some (.int .u8 ((boxP a : Nat) : Int)) := by
    rw [Array.getElem?_extract, if_pos (by simp [row_size]; omega), row_get _ _ _ (by omega)]
    simp only [tabP]
    rw [if_neg (by omega), Nat.add_sub_cancel_left]
  have HX := Lib.hid hx
  clear hx
  go_enter Try.func30, Try.ntmps30
  go_wp2_with (first | (go_at_call 47; refine (build_any _).mono ?_; rintro e w' ⟨rfl, hx⟩) | (refine wl_fieldR rfl 71 _ _ rfl _ rfl _ (fld71_1 _ _) ?_) | (refine wl_indexA rfl 52 _ _ rfl 5 256 Try.underlying52 nagg5 sz5 _ rfl .u8 a rfl ha _ HX.out ?_))
  go_ret
  exact ⟨rfl, by assumption⟩

set_option maxHeartbeats 400000 in
set_option maxRecDepth 100000 in
theorem add_any (f g : Nat → Nat) (hf : ∀ j, j < 16 → f j < 256) (hg : ∀ j, j < 16 → g j < 256) (w : World) :
    Calls Try.prog 53 #[.agg (row 16 f), .agg (row 16 g)] w fun e w' => e = .returned (.agg (row 16 fun j => f j ^^^ g j)) ∧ Ext w w' := by
  go_enter Try.func53, Try.ntmps53
  go_wp2_with (first | (refine wl_allocA rfl 23 rfl _ zero23 ?_) | (refine wl_boxA rfl 23 _ rfl _ rfl ?_))
  have hB0 : Blk (((w.alloc (.cells (row 16 f) 23)).alloc (.cells (row 16 g) 23)).alloc (.cells (row 16 fun _ => 0) 23)) w.heap.size 23 (row 16 f) := ((Blk.new w _ _).alloc _).alloc _
  have hB1 : Blk (((w.alloc (.cells (row 16 f) 23)).alloc (.cells (row 16 g) 23)).alloc (.cells (row 16 fun _ => 0) 23)) (w.heap.size + 1) 23 (row 16 g) := by
    have := (Blk.new (w.alloc (.cells (row 16 f) 23)) 23 (row 16 g)).alloc (.cells (row 16 fun _ => 0) 23)
    simpa using this
  have hB2 : Blk (((w.alloc (.cells (row 16 f) 23)).alloc (.cells (row 16 g) 23)).alloc (.cells (row 16 fun _ => 0) 23)) (w.heap.size + 2) 23 (row 16 fun _ => 0) := by
    have := (Blk.new ((w.alloc (.cells (row 16 f) 23)).alloc (.cells (row 16 g) 23)) 23 (row 16 fun _ => 0))
    simpa using this
  go_loopw [6] (fun v6 wr => ∃ k : Nat, k ≤ 16 ∧ v6 = .int .i64 k ∧ Blk wr w.heap.size 23 (row 16 (mixF k (fun j => f j ^^^ g j) f)) ∧ Blk wr (w.heap.size + 1) 23 (row 16 g) ∧ Blk wr (w.heap.size + 2) 23 (row 16 fun _ => 0) ∧ Below w.heap.size w wr)
    (fun v6 _ => 16 - (intOf v6).toNat)
  case atStart =>
    refine ⟨0, by omega, rfl, ?_, hB1, hB2, (((Below.refl _ w).alloc (Nat.le_refl _) _).alloc (by simp) _).alloc (by simp; omega) _⟩
    rw [mixF_zero]
    exact hB0
  case round =>
    clear hB0 hB1 hB2
    obtain ⟨k, hk, rfl, hb0, hb1, hb2, hbel⟩ := hrel
    by_cases hlt : k < 16
    · have hc0 : wr.cell? ⟨w.heap.size, k, none⟩ = some (.int .u8 ((f k : Nat) : Int)) := by rw [hb0.byte k hlt, mixF_at]
      have hc1 := hb1.byte k hlt
      have hfr := hb0.frozen k
      have H0 := Lib.hid hb0
      have H1 := Lib.hid hb1
      have H2 := Lib.hid hb2
      clear hb0 hb1 hb2
      go_wp2_with fail
      go_still_tail 7, (by kernel_rfl)
      change wpList _ _ _ _ _ wr.drew
      go_wp2_with fail
      go_roundw
      case rel =>
        rw [u8_xor_nat _ _ (hf k hlt) (hg k hlt)]
        refine ⟨k + 1, by omega, by go_num, ?_, H1.out.other _ (by simp), H2.out.other _ (by simp), (hbel.setCell (by simp) _).drew⟩
        rw [← mixF_upd]
        exact H0.out.setB k _
      case measure => simp [intOf]; omega
    · obtain rfl : k = 16 := by omega
      have H0 := Lib.hid hb0
      have H1 := Lib.hid hb1
      have H2 := Lib.hid hb2
      clear hb0 hb1 hb2 hlt hk
      go_wp2_with (first | (refine wl_loadA rfl 23 _ rfl _ 0 16 rfl agg23 sz23 _ _ H0.out (by simp [row_size]) (row 16 fun j => f j ^^^ g j) ?e3 ?_) | (refine wl_storeA rfl 23 _ _ rfl _ 0 16 rfl (row 16 fun j => f j ^^^ g j) rfl sz23 (row_size _ _) _ _ H2.out (by simp [row_size]) (row_one _ _) (row 16 fun j => f j ^^^ g j) (lay_all _ _ (by simp [row_size])) ?_))
      case e3 => rw [row_whole, row_mix]
      refine bodyPost_ret (results_blk rfl _ _ (w.heap.size + 2) 16 23 (row 16 fun j => f j ^^^ g j) rfl (H2.out.setRow _) agg23 sz23 (row_size _ _).symm) rfl ?_
      exact ⟨rfl, below_setRow (g := w.heap.size + 2) hbel (by omega) _⟩

/-- A cipher's cells: its keys, its boxes. -/
def ccells (kb : Nat) (n cap : Nat) : Array Value := #[.slice (some ⟨kb, 0, none⟩) n cap] ++ row 256 boxP
theorem ccells_size (kb n cap : Nat) : (ccells kb n cap).size = 257 := by simp [ccells, row_size]
theorem ccells_0 (kb n cap : Nat) : (ccells kb n cap)[0]? = some (.slice (some ⟨kb, 0, none⟩) n cap) := by
  unfold ccells
  rw [Array.getElem?_append_left (by simp)]
  rfl
theorem ccells_succ (kb n cap j : Nat) (h : j < 256) : (ccells kb n cap)[j + 1]? = some (.int .u8 ((boxP j : Nat) : Int)) := by
  unfold ccells
  rw [Array.getElem?_append_right (by simp)]
  exact row_get 256 boxP j h

/-- p is a cipher of n round keys ks. -/
def Cph (w : World) (b : Nat) (n : Nat) (ks : Nat → Nat → Nat) : Prop :=
  ∃ kb cap cs, Blk w b 54 (ccells kb n cap) ∧ Blk w kb 23 cs ∧ n * 16 ≤ cs.size ∧ ∀ i, i < n → ∀ j, j < 16 → cs[i * 16 + j]? = some (.int .u8 ((ks i j : Nat) : Int)) ∧ ks i j < 256

theorem Cph.ext {w w' : World} {b n : Nat} {ks : Nat → Nat → Nat} (h : Cph w b n ks) (hx : Ext w w') : Cph w' b n ks := by
  obtain ⟨kb, cap, cs, h1, h2, h3⟩ := h
  exact ⟨kb, cap, cs, h1.ext hx, h2.ext hx, h3⟩

set_option maxRecDepth 100000 in
theorem rounds_any (b n : Nat) (ks : Nat → Nat → Nat) (hn : 1 ≤ n) (hn2 : n ≤ 1000) (w : World) (hC : Cph w b n ks) :
    Calls Try.prog 23 #[.pointer (some ⟨b, 0, none⟩)] w fun e w' => e = .returned (.int .i64 ((n - 1 : Nat) : Int)) ∧ w = w' := by
  obtain ⟨kb, cap, cs, h1, h2, h3⟩ := hC
  have hc : w.cell? ⟨b, 0, none⟩ = some (.slice (some ⟨kb, 0, none⟩) n cap) := (h1.cell 0).trans (ccells_0 _ _ _)
  have hz : ((n : Int) == 0) = false := by simp; omega
  clear h1 h2 h3
  go_enter Try.func23, Try.ntmps23
  go_wp2
  go_ret
  refine ⟨?_, rfl⟩
  show Ending.returned (.int .i64 ((n : Int) - 1)) = _
  congr 2
  omega

end Go.Proofs.Ytnigpobbckampaa
