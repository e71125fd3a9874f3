/- AesBox, walked. -/
import Derived.Test.YtnigpobbckampaaW0
import Derived.Test.YtnigpobbckampaaB
namespace Go.Proofs.Ytnigpobbckampaa
open Go.RowKit

/-- n truth values. -/
def brow (n : Nat) (p : Nat → Bool) : Array Value := Array.ofFn (n := n) fun i => Value.bool (p i.val)
theorem brow_size (n : Nat) (p : Nat → Bool) : (brow n p).size = n := by simp [brow]
theorem brow_get (n : Nat) (p : Nat → Bool) (j : Nat) (h : j < n) : (brow n p)[j]? = some (.bool (p j)) := by simp [brow, h]
theorem brow_set (n : Nat) (p : Nat → Bool) (k : Nat) (v : Bool) : (brow n p).setIfInBounds k (.bool v) = brow n (fun j => if j = k then v else p j) := by
  apply Array.ext_getElem?
  intro i
  rw [Array.getElem?_setIfInBounds]
  by_cases hi : i < n
  · rw [brow_get n _ i hi]
    split
    · rename_i h
      subst h
      rw [if_pos (by rw [brow_size]; exact hi), brow_get n _ k hi, if_pos rfl]
    · rename_i h
      rw [brow_get n _ i hi, if_neg (fun e => h e.symm)]
  · have h1 : (brow n (fun j => if j = k then v else p j))[i]? = none := Array.getElem?_eq_none (by rw [brow_size]; omega)
    have h2 : (brow n p)[i]? = none := Array.getElem?_eq_none (by rw [brow_size]; omega)
    rw [h1, h2]
    split
    · rw [if_neg (by rw [brow_size]; omega)]
    · rfl
theorem zero48 (w : World) : (zeroValue 48).run Try.prog w = .ok (.agg (brow 256 fun _ => false)) w := by kernel_rfl
/-- Which bytes have been met. -/
def hadP (k : Nat) (y : Nat) : Bool := (List.range k).any fun i => boxP i == y
theorem hadP_new (k : Nat) (hk : k < 256) : hadP k (boxP k) = false := by
  unfold hadP
  rw [List.any_eq_false]
  intro i hi h
  have hi' := List.mem_range.1 hi
  have : i = k := boxP_inj (a := i) (b := k) (by omega) hk (beq_iff_eq.1 h)
  omega
theorem hadP_succ (k : Nat) : (fun j => if j = boxP k then true else hadP k j) = hadP (k + 1) := by
  funext j
  unfold hadP
  rw [List.range_succ, List.any_append]
  simp only [List.any_cons, List.any_nil, Bool.or_false]
  by_cases h : j = boxP k
  · rw [if_pos h]
    subst h
    simp
  · rw [if_neg h]
    have : (boxP k == j) = false := beq_eq_false_iff_ne.2 (fun e => h e.symm)
    rw [this, Bool.or_false]

set_option maxRecDepth 100000 in
set_option maxHeartbeats 1000000 in
theorem box_law (a b c : Nat) (ha : a < 256) (hb : b < 256) (hc : c < 256) (w : World) : Calls Try.prog 10 #[.int .u8 a, .int .u8 b, .int .u8 c] w fun e w' => e = .returned (.bool true) ∧ Ext w w' := by
  go_enter Try.func10, Try.ntmps10
  go_wp2_with (refine wl_allocA rfl 48 rfl _ zero48 ?_)
  have hB0 : Blk (w.alloc (.cells (brow 256 fun _ => false) 48)) w.heap.size 48 (brow 256 (hadP 0)) := Blk.new w _ _
  go_loopw [8] (fun i wr => ∃ k : Nat, k ≤ 256 ∧ i = .int .i64 k ∧ Blk wr w.heap.size 48 (brow 256 (hadP k)) ∧ Ext w wr) (fun i _ => 256 - (intOf i).toNat)
  case atStart => exact ⟨0, by omega, rfl, hB0, Ext.alloc _ _⟩
  case round =>
    clear hB0
    obtain ⟨k, hk, rfl, hB, hx⟩ := hrel
    have hxs := hx.size
    by_cases hlt : k < 256
    · have hlt' : (k : Int) < 256 := by omega
      have HB := Lib.hid hB
      have hbk := boxP_lt k
      clear hB
      go_wp2_with fail
      refine (box_any k hlt _).mono ?_
      rintro e w1 ⟨rfl, hx1⟩
      have hB1 := HB.out.ext hx1
      have hcell : w1.cell? ⟨w.heap.size, boxP k, none⟩ = some (.bool false) := by
        rw [hB1.cell, brow_get _ _ _ hbk, hadP_new k hlt]
      have hfr := hB1.frozen (boxP k)
      have HS := Lib.hid (hB1.set (boxP k) (.bool true))
      have hx1s := hx1.size
      have HX := Lib.hid ((hx.trans hx1).setCell (p := ⟨w.heap.size, boxP k, none⟩) (Nat.le_refl _) (.bool true))
      clear hB1 HB
      go_wp2_with fail
      go_roundw
      case rel =>
        refine ⟨k + 1, by omega, by go_num, ?_, HX.out⟩
        have := HS.out
        rw [brow_set, hadP_succ] at this
        exact this
      case measure => simp [intOf]; omega
    · obtain rfl : k = 256 := by omega
      have hlt' : ¬ ((256 : Nat) : Int) < 256 := by omega
      clear hB
      have ia := invP_lt a
      have ib := invP_lt b
      have ic := invP_lt c
      have i3 := xor_lt (xor_lt ia ib) ic
      have hA : boxP (invP (invP a ^^^ invP b ^^^ invP c)) = boxP a ^^^ boxP b ^^^ boxP c := by
        rw [boxP_invP _ i3, boxA_xor3 ia ib ic]
        rfl
      have HA := Lib.hid hA
      clear hA
      go_wp2_with fail
      refine (inv_any a ha _).mono ?_
      rintro e w1 ⟨rfl, hx1⟩
      go_wp2_with fail
      refine (inv_any b hb _).mono ?_
      rintro e w2 ⟨rfl, hx2⟩
      go_wp2_with fail
      refine (inv_any c hc _).mono ?_
      rintro e w3 ⟨rfl, hx3⟩
      go_wp2_with fail
      rw [u8_xor_nat _ _ ia ib, u8_xor_nat _ _ (xor_lt ia ib) ic]
      refine (inv_any _ i3 _).mono ?_
      rintro e w4 ⟨rfl, hx4⟩
      go_wp2_with fail
      refine (box_any _ (invP_lt _) _).mono ?_
      rintro e w5 ⟨rfl, hx5⟩
      rw [HA.out]
      go_wp2_with fail
      refine (box_any a ha _).mono ?_
      rintro e w6 ⟨rfl, hx6⟩
      go_wp2_with fail
      refine (box_any b hb _).mono ?_
      rintro e w7 ⟨rfl, hx7⟩
      go_wp2_with fail
      refine (box_any c hc _).mono ?_
      rintro e w8 ⟨rfl, hx8⟩
      have h42 : ((boxP a ^^^ boxP b ^^^ boxP c : Nat) : Int) = bits .xor .u8 (bits .xor .u8 ((boxP a : Nat) : Int) ((boxP b : Nat) : Int)) ((boxP c : Nat) : Int) := by
        rw [u8_xor_nat _ _ (boxP_lt a) (boxP_lt b), u8_xor_nat _ _ (xor_lt (boxP_lt a) (boxP_lt b)) (boxP_lt c)]
      go_wp2_with fail
      refine (works_any _).mono ?_
      rintro e w9 ⟨rfl, hx9⟩
      go_wp2_with fail
      go_ret
      exact ⟨rfl, (((((((((hx.trans hx1).trans hx2).trans hx3).trans hx4).trans hx5).trans hx6).trans hx7).trans hx8).trans hx9)⟩

end Go.Proofs.Ytnigpobbckampaa
