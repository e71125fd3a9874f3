/- poly: next, word, of, block, walked. -/
import Derived.Test.YtnigpobbckampaaY1
import Derived.Test.YtnigpobbckampaaE0
namespace Go.Proofs.Ytnigpobbckampaa
open Go.RowKit
set_option linter.unusedSimpArgs false
set_option linter.unusedVariables false

theorem nx_hi {X : Nat} (hX : X < 2 ^ 128) : nx X / 18446744073709551616 = X / 18446744073709551616 / 2 ^^^ (if X % 2 = 1 then 16212958658533785600 else 0) := by
  unfold nx
  rw [xor_hi]
  congr 1
  · omega
  · split <;> rfl
theorem nx_lo (X : Nat) : nx X % 18446744073709551616 = X % 18446744073709551616 / 2 + X / 18446744073709551616 % 2 * 9223372036854775808 := by
  unfold nx
  rw [xor_lo]
  have : (if X % 2 = 1 then fold128 else 0) % 18446744073709551616 = 0 := by split <;> rfl
  rw [this, Nat.xor_zero]
  omega
theorem or_top (a b : Nat) (ha : a < 9223372036854775808) (hb : b ≤ 1) : a ||| b * 9223372036854775808 = a + b * 9223372036854775808 := by
  have h := Nat.two_pow_add_eq_or_of_lt (i := 63) (b := a) (by omega) b
  rw [Nat.or_comm, Nat.mul_comm b, Nat.add_comm a]
  exact h.symm

theorem wrap_u64' (n : Int) : IntKind.u64.wrap n = n % 18446744073709551616 := by
  simp [IntKind.wrap, IntKind.bits, IntKind.signed]
theorem next_val (X : Nat) (hX : X < 2 ^ 128) :
    Value.agg #[.int .u64 (bits .xor .u64 ((X : Int) / 18446744073709551616 / 2) (bits .and .u64 16212958658533785600 (IntKind.u64.wrap (-bits .and .u64 ((X : Int) % 18446744073709551616) 1)))),
      .int .u64 (bits .or .u64 ((X : Int) % 18446744073709551616 / 2) (IntKind.u64.wrap ((X : Int) / 18446744073709551616 * 9223372036854775808)))] = .agg (pcells (nx X)) := by
  have e1 : (X : Int) / 18446744073709551616 / 2 = ((X / 18446744073709551616 / 2 : Nat) : Int) := by omega
  have e2 : (X : Int) % 18446744073709551616 = ((X % 18446744073709551616 : Nat) : Int) := by omega
  have e3 : (X : Int) % 18446744073709551616 / 2 = ((X % 18446744073709551616 / 2 : Nat) : Int) := by omega
  have e4 : IntKind.u64.wrap ((X : Int) / 18446744073709551616 * 9223372036854775808) = ((X / 18446744073709551616 % 2 * 9223372036854775808 : Nat) : Int) := by rw [wrap_u64']; omega
  have e5 : bits .and .u64 ((X : Int) % 18446744073709551616) 1 = ((X % 2 : Nat) : Int) := by
    rw [e2, show (1 : Int) = ((1 : Nat) : Int) from rfl, bits_and_u64_nat _ _ (lo_lt X) (by omega), Nat.and_one_is_mod]
    omega
  have e6 : bits .and .u64 16212958658533785600 (IntKind.u64.wrap (-((X % 2 : Nat) : Int))) = ((if X % 2 = 1 then 16212958658533785600 else 0 : Nat) : Int) := by
    rcases Nat.mod_two_eq_zero_or_one X with h | h <;> rw [h] <;> rfl
  have hh := hi_lt hX
  have hl := lo_lt X
  rw [e5, e6, e1, e3, e4, bits_xor_u64_nat _ _ (by omega) (by split <;> omega), bits_or_u64_nat _ _ (by omega) (by omega), or_top _ _ (by omega) (by omega), ← nx_hi hX, ← nx_lo]
  rfl

set_option maxRecDepth 100000 in
set_option maxHeartbeats 1000000 in
theorem next72_any (X : Nat) (hX : X < 2 ^ 128) (w : World) :
    Calls Try.prog 72 #[pv X] w fun e w' => e = .returned (pv (nx X)) ∧ Ext w w' := by
  unfold pv
  go_enter Try.func72, Try.ntmps72
  go_upto_region 1 with (first | (refine wl_allocA rfl 85 rfl _ zero85 ?_) | (refine wl_boxA rfl 85 _ rfl _ rfl ?_))
  have hB0 : Blk ((w.alloc (.cells (pcells X) 85)).alloc (.cells (pcells 0) 85)) w.heap.size 85 (pcells X) := (Blk.new w _ _).alloc _
  have hB2 : Blk ((w.alloc (.cells (pcells X) 85)).alloc (.cells (pcells 0) 85)) (w.heap.size + 1) 85 (pcells 0) := by
    have := Blk.new (w.alloc (.cells (pcells X) 85)) 85 (pcells 0)
    simpa only [World.size_alloc] using this
  have hx : Ext w ((w.alloc (.cells (pcells X) 85)).alloc (.cells (pcells 0) 85)) := (Ext.alloc _ _).trans (Ext.alloc _ _)
  simp only [put_lit, List.set_cons_succ, List.set_cons_zero, World.size_alloc]
  generalize (w.alloc (.cells (pcells X) 85)).alloc (.cells (pcells 0) 85) = w1 at hB0 hB2 hx ⊢
  have c0 := hB0.hi
  have c1 := hB0.lo
  have HB2 := Lib.hid hB2
  have HX := Lib.hid hx
  have HN := Lib.hid (next_val X hX)
  clear hB0 hB2 hx
  go_wp2_with (refine wl_storeA rfl 85 (.tmp 2) (.tmp 21) rfl _ 0 2 rfl (pcells (nx X)) HN.out sz85 (pcells_size _) _ _ HB2.out (by simp [pcells_size]) (pcells_one _) (pcells (nx X)) (lay_all _ _ rfl) ?_)
  refine bodyPost_ret (results_blk rfl _ _ (w.heap.size + 1) 2 85 (pcells (nx X)) rfl (HB2.out.setRow _) agg85 sz85 (pcells_size _).symm) rfl ?_
  exact ⟨rfl, below_setRow (g := w.heap.size + 1) HX.out (by omega) _⟩

set_option maxRecDepth 100000 in
set_option maxHeartbeats 1000000 in
theorem word70_any (v : Value) (f : Nat → Nat) (w : World) (hv : RdF w v 8 f) :
    Calls Try.prog 70 #[v] w fun e w' => e = .returned (.int .u64 ((be f 8 : Nat) : Int)) ∧ w = w' := by
  obtain ⟨g, off, cap, rfl, hcap, hf⟩ := hv.form (by omega)
  have HF := Lib.hid hf
  clear hv hf
  go_enter Try.func70, Try.ntmps70
  go_wp2_with fail
  go_loopw [2, 7] (fun v2 v7 wr => ∃ k : Nat, k ≤ 8 ∧ v7 = .int .i64 k ∧ v2 = .int .u64 ((be f k : Nat) : Int) ∧ wr = w) (fun _ v7 _ => 8 - (intOf v7).toNat)
  case atStart => exact ⟨0, by omega, rfl, rfl, rfl⟩
  case round =>
    obtain ⟨k, hk, rfl, rfl, rfl⟩ := hrel
    by_cases hk8 : k < 8
    · have hk' : (k : Int) < 8 := by omega
      obtain ⟨hl, hc⟩ := HF.out k hk8
      go_wp2_with fail
      refine ⟨⟨k + 1, by omega, by go_num, ?_, trivial⟩, by simp [intOf]; omega⟩
      have hb := be_lt (x := f) k (fun j hj => (HF.out j (by omega)).1)
      have hp : 2 ^ (8 * k) ≤ 2 ^ 56 := Nat.pow_le_pow_right (by omega) (by omega)
      have hb2 : be f k < 72057594037927936 := by omega
      have e1 : IntKind.u64.wrap (((be f k : Nat) : Int) * 256) = ((be f k * 256 : Nat) : Int) := by rw [wrap_u64']; omega
      rw [e1, bits_or_u64_nat _ _ (by omega) (by omega)]
      have h := Nat.two_pow_add_eq_or_of_lt (i := 8) (b := f k) (by omega) (be f k)
      rw [show (2 : Nat) ^ 8 = 256 from rfl, Nat.mul_comm] at h
      rw [← h]
      rfl
    · obtain rfl : k = 8 := by omega
      go_wp2_with fail
      go_ret
      exact ⟨rfl, rfl⟩

set_option maxRecDepth 100000 in
set_option maxHeartbeats 1000000 in
theorem of57_any (x : Nat → Nat) (hx : ∀ j, j < 16 → x j < 256) (w : World) :
    Calls Try.prog 57 #[.agg (row 16 x)] w fun e w' => e = .returned (pv (be x 16)) ∧ Ext w w' := by
  unfold pv
  have HV := Lib.hid (show Value.agg #[.int .u64 ((be x 8 : Nat) : Int), .int .u64 ((be (fun j => x (8 + j)) 8 : Nat) : Int)] = .agg (pcells (be x 16)) from by
    unfold pcells
    rw [be_hi hx, be_lo hx])
  go_enter Try.func57, Try.ntmps57
  go_upto_region 1 with (first | (refine wl_allocA rfl 85 rfl _ zero85 ?_) | (refine wl_boxA rfl 23 _ rfl _ rfl ?_))
  have hB0 : Blk ((w.alloc (.cells (row 16 x) 23)).alloc (.cells (pcells 0) 85)) w.heap.size 23 (row 16 x) := (Blk.new w _ _).alloc _
  have hB2 : Blk ((w.alloc (.cells (row 16 x) 23)).alloc (.cells (pcells 0) 85)) (w.heap.size + 1) 85 (pcells 0) := by
    have := Blk.new (w.alloc (.cells (row 16 x) 23)) 85 (pcells 0)
    simpa only [World.size_alloc] using this
  have hxx : Ext w ((w.alloc (.cells (row 16 x) 23)).alloc (.cells (pcells 0) 85)) := (Ext.alloc _ _).trans (Ext.alloc _ _)
  simp only [put_lit, List.set_cons_succ, List.set_cons_zero, World.size_alloc]
  generalize (w.alloc (.cells (row 16 x) 23)).alloc (.cells (pcells 0) 85) = w1 at hB0 hB2 hxx ⊢
  have hr : RdF w1 (.slice (some ⟨w.heap.size, 0, none⟩) 16 16) 16 x := ⟨_, _, rfl, Nat.le_refl _, fun h => (by cases h), fun i hi => ⟨hx i hi, _, rfl, by rw [Addr.add_lit, Nat.zero_add]; exact hB0.byte i hi⟩⟩
  have R0 := Lib.hid (show RdF w1 (.slice (some ⟨w.heap.size, 0, none⟩) 8 16) 8 x from by
    have := hr.part 0 8 16 (by omega) (by omega)
    exact this.congr (fun i _ => by rw [Nat.zero_add]))
  have R8 := Lib.hid (show RdF w1 (.slice (some ⟨w.heap.size, 8, none⟩) 8 8) 8 (fun j => x (8 + j)) from by
    have := hr.part 8 8 8 (by omega) (by omega)
    rw [Nat.zero_add] at this
    exact this)
  have HB2 := Lib.hid hB2
  have HX := Lib.hid hxx
  clear hB0 hB2 hxx hr
  apply wp_region_mid 5 [.det _, .det _, .det _, .det _, .det _] (by kernel_rfl) rfl (by kernel_rfl)
  · (first | (refine wpE_move rfl rfl rfl ?_; simp only [put_lit, eval_lit, BigFrame.eval_const, List.set_cons_succ, List.set_cons_zero, List.getD_cons_succ, List.getD_cons_zero]) | (refine wpE_run rfl rfl (by simp) (fun w1 hx1 _ K hK => by go_step; exact hK _ (Ext.refl _)) ?_; simp only [put_lit, List.set_cons_succ, List.set_cons_zero]))
    (refine wpE_run rfl rfl (by simp) (fun w1 hx1 _ K hK => by go_wp2_with (go_at_call 70; refine (word70_any _ _ _ (R0.out.ext hx1)).mono ?_; rintro e w2 ⟨rfl, rfl⟩; exact hK _ (Ext.refl _))) ?_)
    simp only [put_lit, List.set_cons_succ, List.set_cons_zero]
    (first | (refine wpE_move rfl rfl rfl ?_; simp only [put_lit, eval_lit, BigFrame.eval_const, List.set_cons_succ, List.set_cons_zero, List.getD_cons_succ, List.getD_cons_zero]) | (refine wpE_run rfl rfl (by simp) (fun w1 hx1 _ K hK => by go_step; exact hK _ (Ext.refl _)) ?_; simp only [put_lit, List.set_cons_succ, List.set_cons_zero]))
    (refine wpE_run rfl rfl (by simp) (fun w1 hx1 _ K hK => by go_wp2_with (go_at_call 70; refine (word70_any _ _ _ (R8.out.ext hx1)).mono ?_; rintro e w2 ⟨rfl, rfl⟩; exact hK _ (Ext.refl _))) ?_)
    simp only [put_lit, List.set_cons_succ, List.set_cons_zero]
    (first | (refine wpE_move rfl rfl rfl ?_; simp only [put_lit, eval_lit, BigFrame.eval_const, List.set_cons_succ, List.set_cons_zero, List.getD_cons_succ, List.getD_cons_zero]) | (refine wpE_run rfl rfl (by simp) (fun w1 hx1 _ K hK => by go_step; exact hK _ (Ext.refl _)) ?_; simp only [put_lit, List.set_cons_succ, List.set_cons_zero]))
    (refine wpE_nil ?_; intro w2 hw2 hF; simp only [List.drop_succ_cons, List.drop_zero])
    refine wl_storeA rfl 85 (.tmp 2) (.tmp 7) rfl _ 0 2 rfl (pcells (be x 16)) HV.out sz85 (pcells_size _) _ _ (HB2.out.ext hw2) (by simp [pcells_size]) (pcells_one _) (pcells (be x 16)) (lay_all _ _ rfl) ?_
    have hR := (HB2.out.ext hw2).setRow (pcells (be x 16))
    have hxx := below_setRow (g := w.heap.size + 1) (HX.out.trans hw2) (by omega) (pcells (be x 16))
    simp only [put_lit, List.set_cons_succ, List.set_cons_zero]
    go_wp2_with fail
    refine bodyPost_ret (results_blk rfl _ _ (w.heap.size + 1) 2 85 (pcells (be x 16)) rfl hR agg85 sz85 (pcells_size _).symm) rfl ?_
    exact ⟨rfl, hxx⟩

def outP (X k : Nat) : Nat → Nat := fun j => if j % 8 < k then byP X j else 0
theorem outP_upd (X k : Nat) (hk : k < 8) : row 16 (upd (upd (outP X k) k (byP X k)) (8 + k) (byP X (8 + k))) = row 16 (outP X (k + 1)) := row_congr fun j hj => by
  simp only [outP, upd]
  by_cases h1 : j = 8 + k
  · subst h1
    rw [if_pos rfl, if_pos (by omega)]
  · rw [if_neg h1]
    by_cases h2 : j = k
    · subst h2
      rw [if_pos rfl, if_pos (by omega)]
    · rw [if_neg h2]
      by_cases h3 : j % 8 < k
      · rw [if_pos h3, if_pos (by omega)]
      · rw [if_neg h3, if_neg (by omega)]
theorem byte_hi (X k : Nat) (hk : k < 8) : X / 18446744073709551616 / 2 ^ (56 - 8 * k) % 256 = byP X k := by
  unfold byP
  rw [show (18446744073709551616 : Nat) = 2 ^ 64 from rfl, Nat.div_div_eq_div_mul, ← Nat.pow_add, show 64 + (56 - 8 * k) = 8 * (15 - k) by omega]
theorem byte_lo (X k : Nat) (hk : k < 8) : X % 18446744073709551616 / 2 ^ (56 - 8 * k) % 256 = byP X (8 + k) := by
  unfold byP
  rw [show (18446744073709551616 : Nat) = 2 ^ 64 from rfl, show 8 * (15 - (8 + k)) = 56 - 8 * k by omega, show (256 : Nat) = 2 ^ 8 from rfl]
  apply Nat.eq_of_testBit_eq
  intro i
  simp only [Nat.testBit_mod_two_pow, Nat.testBit_div_two_pow]
  by_cases h : i < 8
  · rw [decide_eq_true (show i + (56 - 8 * k) < 64 by omega)]
    simp
  · simp [h]

set_option maxRecDepth 100000 in
set_option maxHeartbeats 1000000 in
theorem block59_any (X : Nat) (hX : X < 2 ^ 128) (w : World) :
    Calls Try.prog 59 #[pv X] w fun e w' => e = .returned (.agg (row 16 (byP X))) ∧ Ext w w' := by
  unfold pv
  go_enter Try.func59, Try.ntmps59
  go_upto_region 1 with (first | (refine wl_allocA rfl 23 rfl _ zero23 ?_) | (refine wl_boxA rfl 85 _ rfl _ rfl ?_))
  have hB0 : Blk ((w.alloc (.cells (pcells X) 85)).alloc (.cells (row 16 fun _ => 0) 23)) w.heap.size 85 (pcells X) := (Blk.new w _ _).alloc _
  have hB2 : Blk ((w.alloc (.cells (pcells X) 85)).alloc (.cells (row 16 fun _ => 0) 23)) (w.heap.size + 1) 23 (row 16 fun _ => 0) := by
    have := Blk.new (w.alloc (.cells (pcells X) 85)) 23 (row 16 fun _ => 0)
    simpa only [World.size_alloc] using this
  have hx : Ext w ((w.alloc (.cells (pcells X) 85)).alloc (.cells (row 16 fun _ => 0) 23)) := (Ext.alloc _ _).trans (Ext.alloc _ _)
  simp only [put_lit, List.set_cons_succ, List.set_cons_zero, World.size_alloc]
  generalize (w.alloc (.cells (pcells X) 85)).alloc (.cells (row 16 fun _ => 0) 23) = w1 at hB0 hB2 hx ⊢
  go_wp2_with fail
  go_loopw [4] (fun v4 wr => ∃ k : Nat, k ≤ 8 ∧ v4 = .int .i64 k ∧ Blk wr w.heap.size 85 (pcells X) ∧ Blk wr (w.heap.size + 1) 23 (row 16 (outP X k)) ∧ Ext w wr) (fun v4 _ => 8 - (intOf v4).toNat)
  case atStart => exact ⟨0, by omega, rfl, hB0, by rw [show row 16 (outP X 0) = row 16 (fun _ => 0) from row_congr fun j _ => by simp only [outP]; rw [if_neg (by omega)]]; exact hB2, hx⟩
  case round =>
    clear hB0 hB2 hx
    obtain ⟨k, hk, rfl, hB0, hB2, hx⟩ := hrel
    have HB0 := Lib.hid hB0
    have HB2 := Lib.hid hB2
    have HX := Lib.hid hx
    by_cases hk8 : k < 8
    · have hk' : (k : Int) < 8 := by omega
      have c0 := hB0.hi
      have c1 := hB0.lo
      have c2 := hB2.byte k (by omega)
      have f2 := hB2.frozen k
      have f3 := hB2.frozen (8 + k)
      have c3 := hB2.byte (8 + k) (by omega)
      clear hB0 hB2 hx
      go_upto_region 5 with fail
      have ehi : ((X : Int) / 18446744073709551616 / 2 ^ (56 - 8 * k) % 256) = ((byP X k : Nat) : Int) := by
        rw [← byte_hi X k hk8]
        simp
      have elo : ((X : Int) % 18446744073709551616 / 2 ^ (56 - 8 * k) % 256) = ((byP X (8 + k) : Nat) : Int) := by
        rw [← byte_lo X k hk8]
        simp
      rw [ehi]
      have hb2 := HB2.out.setB k (byP X k)
      have hb0 := HB0.out.other (a := ⟨w.heap.size + 1, k, none⟩) (.int .u8 ((byP X k : Nat) : Int)) (by simp)
      have hx2 := HX.out.setCell (p := ⟨w.heap.size + 1, k, none⟩) (by simp) (.int .u8 ((byP X k : Nat) : Int))
      clear c0 c1 c2 c3 f2 f3 HB0 HB2 HX ehi
      generalize wr.setCell ⟨w.heap.size + 1, k, none⟩ (.int .u8 ((byP X k : Nat) : Int)) = w2 at hb2 hb0 hx2 ⊢
      have c1 := hb0.lo
      have f3 := hb2.frozen (8 + k)
      have c3 := hb2.byte (8 + k) (by omega)
      have EL := Lib.hid elo
      have HB0 := Lib.hid hb0
      have HB2 := Lib.hid hb2
      have HX := Lib.hid hx2
      clear hb0 hb2 hx2 elo
      go_wp2_with fail
      rw [EL.out]
      go_roundw
      case rel =>
        refine ⟨k + 1, by omega, by go_num, HB0.out.other _ (by simp), ?_, HX.out.setCell (by simp) _⟩
        rw [← outP_upd X k hk8]
        exact HB2.out.setB (8 + k) _
      case measure => simp [intOf]; omega
    · obtain rfl : k = 8 := by omega
      rw [show row 16 (outP X 8) = row 16 (byP X) from row_congr fun j hj => by simp only [outP]; rw [if_pos (by omega)]] at hB2
      have H2 := Lib.hid hB2
      clear hB2 HB2 hB0
      go_wp2_with (first | (refine wl_loadA rfl 23 _ rfl _ 0 16 rfl agg23 sz23 _ _ H2.out (by simp [row_size]) (row 16 (byP X)) (row_whole _ _) ?_) | (refine wl_storeA rfl 23 _ _ rfl _ 0 16 rfl (row 16 (byP X)) rfl sz23 (row_size _ _) _ _ H2.out (by simp [row_size]) (row_one _ _) (row 16 (byP X)) (lay_all _ _ (by simp [row_size])) ?_))
      refine bodyPost_ret (results_blk rfl _ _ (w.heap.size + 1) 16 23 (row 16 (byP X)) rfl (H2.out.setRow _) agg23 sz23 (row_size _ _).symm) rfl ?_
      exact ⟨rfl, below_setRow (g := w.heap.size + 1) HX.out (by omega) _⟩
end Go.Proofs.Ytnigpobbckampaa
