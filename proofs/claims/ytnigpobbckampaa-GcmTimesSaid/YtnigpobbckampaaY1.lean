/- poly: add, next, word, of, times, block, and gcm.Times, walked. -/
import Derived.Test.YtnigpobbckampaaY0
import Derived.Test.YtnigpobbckampaaR
import Derived.Test.YtnigpobbckampaaA0
import Derived.Test.YtnigpobbckampaaS
import Derived.Deep.DeepCutAuto
import Derived.Laws.Bits64
import Derived.Laws.Bits64b
namespace Go.Proofs.Ytnigpobbckampaa
open Go.RowKit
set_option linter.unusedSimpArgs false
set_option linter.unusedVariables false

def pcells (X : Nat) : Array Value := #[.int .u64 ((X / 18446744073709551616 : Nat) : Int), .int .u64 ((X % 18446744073709551616 : Nat) : Int)]
def pv (X : Nat) : Value := .agg (pcells X)
theorem pcells_one (X : Nat) : ∀ v ∈ (pcells X).toList, v.oneCell' = true := by
  intro v hv
  simp [pcells] at hv
  rcases hv with rfl | rfl <;> rfl
theorem pcells_size (X : Nat) : (pcells X).size = 2 := rfl
theorem pcells_all (X : Nat) : (pcells X).extract 0 (0 + 2) = pcells X := rfl
theorem zero85 (w : World) : (zeroValue 85).run Try.prog w = .ok (.agg (pcells 0)) w := by kernel_rfl
theorem agg85 (w : World) : (isAgg 85).run Try.prog w = .ok true w := by kernel_rfl
theorem sz85 (w : World) : (sizeOf 85).run Try.prog w = .ok 2 w := by kernel_rfl
theorem nagg83 (w : World) : (isAgg 83).run Try.prog w = .ok false w := by kernel_rfl
theorem sz83 (w : World) : (sizeOf 83).run Try.prog w = .ok 1 w := by kernel_rfl
theorem Blk.hi {w : World} {g X : Nat} {t : TypeId} (h : Blk w g t (pcells X)) : w.cell? ⟨g, 0, none⟩ = some (.int .u64 ((X / 18446744073709551616 : Nat) : Int)) := h.cell 0
theorem Blk.lo {w : World} {g X : Nat} {t : TypeId} (h : Blk w g t (pcells X)) : w.cell? ⟨g, 1, none⟩ = some (.int .u64 ((X % 18446744073709551616 : Nat) : Int)) := h.cell 1

theorem xor_hi (X Y : Nat) : (X ^^^ Y) / 18446744073709551616 = X / 18446744073709551616 ^^^ Y / 18446744073709551616 := by
  rw [show (18446744073709551616 : Nat) = 2 ^ 64 from rfl]
  apply Nat.eq_of_testBit_eq
  intro i
  simp only [Nat.testBit_div_two_pow, Nat.testBit_xor]
theorem xor_lo (X Y : Nat) : (X ^^^ Y) % 18446744073709551616 = X % 18446744073709551616 ^^^ Y % 18446744073709551616 := by
  rw [show (18446744073709551616 : Nat) = 2 ^ 64 from rfl]
  apply Nat.eq_of_testBit_eq
  intro i
  simp only [Nat.testBit_mod_two_pow, Nat.testBit_xor]
  cases decide (i < 64) <;> simp
theorem hi_lt {X : Nat} (h : X < 2 ^ 128) : X / 18446744073709551616 < 18446744073709551616 := by omega
theorem lo_lt (X : Nat) : X % 18446744073709551616 < 18446744073709551616 := Nat.mod_lt _ (by omega)

theorem add_val (X Y : Nat) (hX : X < 2 ^ 128) (hY : Y < 2 ^ 128) :
    Value.agg #[.int .u64 (bits .xor .u64 ((X / 18446744073709551616 : Nat) : Int) ((Y / 18446744073709551616 : Nat) : Int)), .int .u64 (bits .xor .u64 ((X % 18446744073709551616 : Nat) : Int) ((Y % 18446744073709551616 : Nat) : Int))] = .agg (pcells (X ^^^ Y)) := by
  rw [bits_xor_u64_nat _ _ (hi_lt hX) (hi_lt hY), bits_xor_u64_nat _ _ (lo_lt X) (lo_lt Y), ← xor_hi, ← xor_lo]
  rfl

set_option maxRecDepth 100000 in
set_option maxHeartbeats 1000000 in
theorem add71_any (X Y : Nat) (hX : X < 2 ^ 128) (hY : Y < 2 ^ 128) (w : World) :
    Calls Try.prog 71 #[pv X, pv Y] w fun e w' => e = .returned (pv (X ^^^ Y)) ∧ Ext w w' := by
  unfold pv
  have HA := Lib.hid (add_val X Y hX hY)
  go_enter Try.func71, Try.ntmps71
  go_upto_region 1 with (first | (refine wl_allocA rfl 85 rfl _ zero85 ?_) | (refine wl_boxA rfl 85 _ rfl _ rfl ?_))
  have hB0 : Blk (((w.alloc (.cells (pcells X) 85)).alloc (.cells (pcells Y) 85)).alloc (.cells (pcells 0) 85)) w.heap.size 85 (pcells X) := ((Blk.new w _ _).alloc _).alloc _
  have hB1 : Blk (((w.alloc (.cells (pcells X) 85)).alloc (.cells (pcells Y) 85)).alloc (.cells (pcells 0) 85)) (w.heap.size + 1) 85 (pcells Y) := by
    have := (Blk.new (w.alloc (.cells (pcells X) 85)) 85 (pcells Y)).alloc (.cells (pcells 0) 85)
    simpa only [World.size_alloc] using this
  have hB2 : Blk (((w.alloc (.cells (pcells X) 85)).alloc (.cells (pcells Y) 85)).alloc (.cells (pcells 0) 85)) (w.heap.size + 2) 85 (pcells 0) := by
    have := (Blk.new ((w.alloc (.cells (pcells X) 85)).alloc (.cells (pcells Y) 85)) 85 (pcells 0))
    simpa only [World.size_alloc] using this
  have hx : Ext w (((w.alloc (.cells (pcells X) 85)).alloc (.cells (pcells Y) 85)).alloc (.cells (pcells 0) 85)) := ((Ext.alloc _ _).trans (Ext.alloc _ _)).trans (Ext.alloc _ _)
  simp only [put_lit, List.set_cons_succ, List.set_cons_zero, World.size_alloc]
  generalize ((w.alloc (.cells (pcells X) 85)).alloc (.cells (pcells Y) 85)).alloc (.cells (pcells 0) 85) = w1 at hB0 hB1 hB2 hx ⊢
  have c0 := hB0.hi
  have c1 := hB0.lo
  have d0 := hB1.hi
  have d1 := hB1.lo
  have HB2 := Lib.hid hB2
  have HX := Lib.hid hx
  clear hB0 hB1 hB2 hx
  go_wp2_with (refine wl_storeA rfl 85 (.tmp 4) (.tmp 15) rfl _ 0 2 rfl (pcells (X ^^^ Y)) HA.out sz85 (pcells_size _) _ _ HB2.out (by simp [pcells_size]) (pcells_one _) (pcells (X ^^^ Y)) (lay_all _ _ rfl) ?_)
  refine bodyPost_ret (results_blk rfl _ _ (w.heap.size + 2) 2 85 (pcells (X ^^^ Y)) rfl (HB2.out.setRow _) agg85 sz85 (pcells_size _).symm) rfl ?_
  exact ⟨rfl, below_setRow (g := w.heap.size + 2) HX.out (by omega) _⟩
end Go.Proofs.Ytnigpobbckampaa
