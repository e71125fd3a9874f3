/- Contracts of the byte functions of package aes: double, turn, Mul. The contract of aes.build: the tables of inverses and boxes. Contracts of aes.Inv, aes.Box, Rounds, add. -/
import Derived.Test.YtnigpobbckampaaK
import Derived.Test.YtnigpobbckampaaM
import Derived.Deep.QuietTactic
import Derived.BigQuiet
import Derived.Test.YtnigpobbckampaaL
import Derived.Outline
import Derived.StillTailTactics
namespace Go.Proofs.Ytnigpobbckampaa
set_option linter.unusedSimpArgs false
set_option linter.unusedVariables false
open Go.RowKit

theorem neg_bit (x : Nat) (h : x ≤ 1) : (-(x : Int)) % 256 = ((if x = 0 then 0 else 255 : Nat) : Int) := by
  have : x = 0 ∨ x = 1 := by omega
  rcases this with rfl | rfl <;> simp

set_option maxHeartbeats 400000 in
theorem double_any (a : Nat) (ha : a < 256) (w : World) :
    Calls Try.prog 49 #[.int .u8 a] w fun e w' => e = .returned (.int .u8 ((dbl a : Nat) : Int)) ∧ w = w' := by
  go_enter Try.func49, Try.ntmps49
  go_wp2
  go_ret
  refine ⟨ret_u8 ?_, rfl⟩
  have e1 : ((a : Int) / 128) = ((a / 128 : Nat) : Int) := by omega
  have e2 : ((a : Int) * 2 % 256) = ((a * 2 % 256 : Nat) : Int) := by omega
  rw [e1, e2, neg_bit _ (by omega)]
  have e3 : (27 : Int) = ((27 : Nat) : Int) := rfl
  rw [e3, u8_and_nat _ _ (by omega) (by split <;> omega), u8_xor_nat _ _ (by omega) (Nat.lt_of_le_of_lt Nat.and_le_left (by omega))]
  congr 1
  unfold dbl
  congr 1
  by_cases h : a < 128
  · rw [if_pos h, if_pos (by omega)]; rfl
  · rw [if_neg h, if_neg (by omega)]; rfl

theorem double_ext (a : Nat) (ha : a < 256) (w : World) :
    Calls Try.prog 49 #[.int .u8 a] w fun e w' => e = .returned (.int .u8 ((dbl a : Nat) : Int)) ∧ Ext w w' :=
  (double_any a ha w).mono fun _ _ ⟨he, hw⟩ => ⟨he, hw ▸ Ext.refl _⟩

set_option maxHeartbeats 400000 in
theorem turn_any (a n : Nat) (ha : a < 256) (hn : n ≤ 8) (w : World) :
    Calls Try.prog 68 #[.int .u8 a, .int .i64 n] w fun e w' => e = .returned (.int .u8 ((rot a n : Nat) : Int)) ∧ ∃ n, w' = w.drewN n := by
  go_enter Try.func68, Try.ntmps68
  go_wp2
  go_quiet (fail)
  go_wp2
  go_ret
  refine ⟨ret_u8 ?_, _, rfl⟩
  have e1 : ((a : Int) / 2 ^ (8 - n)) = ((a / 2 ^ (8 - n) : Nat) : Int) := by simp
  have e2 : ((a : Int) * 2 ^ n % 256) = ((a * 2 ^ n % 256 : Nat) : Int) := by simp
  rw [e1, e2, u8_or_nat _ _ (by omega) (Nat.lt_of_le_of_lt (Nat.div_le_self _ _) ha)]
  rfl

theorem turn_int (a : Nat) (n : Int) (ha : a < 256) (h0 : 0 ≤ n) (h8 : n ≤ 8) (w : World) :
    Calls Try.prog 68 #[.int .u8 a, .int .i64 n] w fun e w' => e = .returned (.int .u8 ((rot a n.toNat : Nat) : Int)) ∧ ∃ n, w' = w.drewN n := by
  obtain ⟨m, rfl⟩ : ∃ m : Nat, n = m := ⟨n.toNat, by omega⟩
  exact turn_any a m ha (by omega) w

theorem and_bit (a x : Nat) (ha : a < 256) (hx : x ≤ 1) : bits .and .u8 (a : Int) ((-(x : Int)) % 256) = ((if x = 1 then a else 0 : Nat) : Int) := by
  rw [neg_bit x hx, u8_and_nat _ _ ha (by split <;> omega)]
  have : x = 0 ∨ x = 1 := by omega
  rcases this with rfl | rfl
  · simp
  · simp only [if_neg (show ¬ (1 = 0) by decide), if_true]
    congr 1
    exact (Nat.and_two_pow_sub_one_eq_mod a 8).trans (Nat.mod_eq_of_lt ha)

set_option maxHeartbeats 400000 in
theorem mul_any (a0 b0 : Nat) (ha0 : a0 < 256) (hb0 : b0 < 256) (w : World) :
    Calls Try.prog 26 #[.int .u8 a0, .int .u8 b0] w fun e w' => e = .returned (.int .u8 ((mulP a0 b0 : Nat) : Int)) ∧ w = w' := by
  go_enter Try.func26, Try.ntmps26
  go_wp2
  go_loop [0, 1, 4] (fun va vb vo => ∃ n a b o : Nat, va = .int .u8 a ∧ vb = .int .u8 b ∧ vo = .int .u8 o ∧ a < 256 ∧ b < 256 ∧ o < 256 ∧ b < 2 ^ n ∧ Hid (mulL n a b o = mulP a0 b0)) (fun _ vb _ => (intOf vb).toNat)
  case atStart => exact ⟨8, a0, b0, 0, rfl, rfl, rfl, ha0, hb0, by omega, by omega, rfl⟩
  case round =>
    obtain ⟨n, a, b, o, rfl, rfl, rfl, ha, hb, ho, hbn, H⟩ := hrel
    have HB : Hid (b < 2 ^ n) := hbn
    clear hbn
    go_wp2_with (go_at_call 49; refine (double_any _ ha _).mono ?_; rintro e w' ⟨rfl, rfl⟩)
    · have hb0 : 0 < b := by assumption
      go_round
      case rel =>
        cases n with
        | zero => have := HB.out; simp at this; omega
        | succ n =>
          have h2 : b / 2 < 2 ^ n := by have := HB.out; rw [Nat.pow_succ] at this; omega
          refine ⟨n, dbl a, b / 2, if b % 2 = 1 then o ^^^ a else o, rfl, by go_num, int_u8 ?_, dbl_lt a, by omega, ?_, h2, H.out⟩
          · have e1 : bits BinOp.and IntKind.u8 (b : Int) 1 = ((b % 2 : Nat) : Int) := by
              rw [show (1 : Int) = ((1 : Nat) : Int) from rfl, u8_and_nat _ _ hb (by omega), nat_mask1]
            rw [e1, and_bit a _ ha (by omega)]
            split
            · rw [u8_xor_nat _ _ ho ha]
            · rw [u8_xor_nat _ _ ho (by omega), Nat.xor_zero]
          · split
            · exact xor_lt ho ha
            · exact ho
      case measure => simp [intOf]; omega
    · have hb0 : ¬ 0 < b := by assumption
      go_ret
      have e : b = 0 := by omega
      subst e
      refine ⟨ret_u8 ?_, rfl⟩
      have := H.out
      rw [mulL_zero] at this
      show ((o : Nat) : Int) = _
      rw [this]

end Go.Proofs.Ytnigpobbckampaa
namespace Go.Proofs.Ytnigpobbckampaa
set_option linter.unusedSimpArgs false
set_option linter.unusedVariables false
open Go.RowKit

theorem pwS_succ (k : Nat) : row 255 (pwS (k + 1)) = row 255 (upd (pwS k) k (pw k)) := by
  refine row_congr fun j _ => ?_
  simp only [pwS, upd]
  by_cases h : j = k
  · subst h; simp
  · simp only [if_neg h]
    by_cases h2 : j < k
    · rw [if_pos h2, if_pos (by omega)]
    · rw [if_neg h2, if_neg (by omega)]

theorem invF_succ (k : Nat) : row 512 (invF (k + 1)) = row 512 (upd (invF k) (pw k) (pw ((255 - k) % 255))) := by
  refine row_congr fun j _ => ?_
  have hp := pw_lt k
  simp only [invF, upd, invS]
  by_cases h : j = pw k
  · rw [if_pos (by omega), if_pos h, if_pos h]
  · rw [if_neg h, if_neg h]

theorem tabS_zero : row 512 (tabS 0) = row 512 (invF 255) := row_congr fun j _ => by
  simp only [tabS, invF, invP]
  by_cases hj : j < 256
  · rw [if_pos hj, if_pos hj]
  · rw [if_neg hj, if_neg hj, if_neg (by omega)]
theorem tabS_succ (k : Nat) (hk : k < 256) : row 512 (tabS (k + 1)) = row 512 (upd (tabS k) (256 + k) (boxP k)) := row_congr fun j _ => by
  simp only [tabS, upd]
  by_cases hj : j < 256
  · rw [if_pos hj, if_neg (by omega), if_pos hj]
  · rw [if_neg hj]
    by_cases h2 : j = 256 + k
    · rw [if_pos h2, if_pos (by omega), show j - 256 = k by omega]
    · rw [if_neg h2, if_neg hj]
      by_cases h3 : j < 256 + k
      · rw [if_pos h3, if_pos (by omega)]
      · rw [if_neg h3, if_neg (by omega)]
theorem tabS_end : row 512 (tabS 256) = row 512 tabP := row_congr fun j hj => by
  simp only [tabS, tabP]
  by_cases h : j < 256
  · rw [if_pos h, if_pos h]
  · rw [if_neg h, if_neg h, if_pos (by omega)]

theorem boxA_bits (y : Nat) (h : y < 256) : bits BinOp.xor IntKind.u8 (bits BinOp.xor IntKind.u8 (bits BinOp.xor IntKind.u8 (bits BinOp.xor IntKind.u8 (bits BinOp.xor IntKind.u8 (y : Int) ((rot y 1 : Nat) : Int)) ((rot y 2 : Nat) : Int)) ((rot y 3 : Nat) : Int)) ((rot y 4 : Nat) : Int)) 99 = ((boxA y : Nat) : Int) := by
  have h1 := rot_lt y 1 h
  have h2 := rot_lt y 2 h
  have h3 := rot_lt y 3 h
  have h4 := rot_lt y 4 h
  rw [u8_xor_nat _ _ h h1, u8_xor_nat _ _ (xor_lt h h1) h2, u8_xor_nat _ _ (xor_lt (xor_lt h h1) h2) h3, u8_xor_nat _ _ (xor_lt (xor_lt (xor_lt h h1) h2) h3) h4,
    show (99 : Int) = ((99 : Nat) : Int) from rfl, u8_xor_nat _ _ (xor_lt (xor_lt (xor_lt (xor_lt h h1) h2) h3) h4) (by omega)]
  rfl

set_option maxRecDepth 100000 in
set_option maxHeartbeats 800000 in
theorem build_any (w : World) :
    Calls Try.prog 47 #[] w fun e w' => e = .returned (.agg (row 512 tabP)) ∧ Ext w w' := by
  go_enter Try.func47, Try.ntmps47
  go_wp2_with (first | (refine wl_allocA rfl 71 rfl _ zero71 ?_) | (refine wl_allocA rfl 96 rfl _ zero96 ?_))
  have hB1 : Blk ((w.alloc (.cells (row 512 fun _ => 0) 71)).alloc (.cells (row 255 fun _ => 0) 96)) (w.heap.size + 1) 96 (row 255 fun _ => 0) := heap_alloc2_new w _ _
  have hB0 : Blk ((w.alloc (.cells (row 512 fun _ => 0) 71)).alloc (.cells (row 255 fun _ => 0) 96)) w.heap.size 71 (row 512 fun _ => 0) := heap_alloc2_old w _ _
  go_loopw [2, 8] (fun v2 v8 wr => ∃ k : Nat, k ≤ 255 ∧ v8 = .int .i64 k ∧ v2 = .int .u8 (pw k : Nat) ∧ Blk wr (w.heap.size + 1) 96 (row 255 (pwS k)) ∧ Blk wr w.heap.size 71 (row 512 fun _ => 0) ∧ Below w.heap.size w wr)
    (fun _ v8 _ => 255 - (intOf v8).toNat)
  case atStart =>
    refine ⟨0, by omega, rfl, rfl, ?_, hB0, ((Below.refl _ w).alloc (Nat.le_refl _) _).alloc (by simp) _⟩
    rw [show row 255 (pwS 0) = row 255 (fun _ => 0) from row_congr (fun j _ => by simp [pwS])]
    exact hB1
  case round =>
    obtain ⟨k, hk, rfl, rfl, hb1, hb0, hbel⟩ := hrel
    have hpw := pw_lt k
    have hsz := hbel.size
    by_cases hlt : k < 255
    · have hc := hb1.byte k hlt
      have hf := hb1.frozen k
      have H1 := Lib.hid hb1
      have H0 := Lib.hid hb0
      clear hb1 hb0
      go_wp2_with (go_at_call 49; refine (double_any _ hpw _).mono ?_; rintro e w' ⟨rfl, rfl⟩)
      go_roundw
      case rel =>
        refine ⟨k + 1, by omega, by go_num, int_u8 ?_, ?_, ?_, ?_⟩
        · rw [u8_xor_nat _ _ hpw (dbl_lt _)]; rfl
        · rw [pwS_succ]; exact H1.out.setB k _
        · exact H0.out.other _ (by simp)
        · exact hbel.setCell (by simp) _
      case measure => simp [intOf]; omega
    · obtain rfl : k = 255 := by omega
      have H1 := Lib.hid hb1
      have H0 := Lib.hid hb0
      clear hb1 hb0
      go_wp2_with (refine wl_loadA rfl 96 _ rfl _ 0 255 rfl agg96 sz96 _ _ H1.out (by simp [row_size]) (row 255 pw) ?e1 ?_)
      case e1 => rw [show 255 = 0 + 255 from rfl, row_part 255 0 255 _ (by omega)]; exact row_congr fun j hj => by simp [pwS, hj]
      have hb1 := H1.out
      have hb0 := H0.out
      obtain ⟨wo, rfl⟩ : ∃ wo : World, wo = wr := ⟨_, rfl⟩
      clear H1 H0 hpw hlt hk
      go_loopw [20] (fun v20 wr => ∃ k : Nat, k ≤ 255 ∧ v20 = .int .i64 k ∧ Blk wr (w.heap.size + 1) 96 (row 255 (pwS 255)) ∧ Blk wr w.heap.size 71 (row 512 (invF k)) ∧ Below w.heap.size w wr)
        (fun v20 _ => 255 - (intOf v20).toNat)
      case atStart =>
        refine ⟨0, by omega, rfl, hb1, ?_, hbel⟩
        rw [show row 512 (invF 0) = row 512 (fun _ => 0) from row_congr (fun j _ => by simp [invF, invS])]
        exact hb0
      case round =>
        clear hb1 hb0 hbel hsz
        obtain ⟨k, hk, rfl, hb1, hb0, hbel⟩ := hrel
        have hpw := pw_lt k
        have hsz := hbel.size
        by_cases hlt : k < 255
        · have hc : wr.cell? ⟨w.heap.size + 1, (-(k : Int) % 255).toNat, none⟩ = some (.int .u8 ((pw ((255 - k) % 255) : Nat) : Int)) := by
            rw [show (-(k : Int) % 255).toNat = (255 - k) % 255 by omega, hb1.byte _ (Nat.mod_lt _ (by omega))]; simp only [pwS]; rw [if_pos (Nat.mod_lt _ (by omega))]
          have ht := hb0.byte (pw k) (by omega)
          have hf := hb0.frozen (pw k)
          have hx : (row 255 pw)[k]? = some (.int .u8 ((pw k : Nat) : Int)) := row_get 255 pw k hlt
          have HX := Lib.hid hx
          have H1 := Lib.hid hb1
          have H0 := Lib.hid hb0
          clear hb1 hb0 hx
          go_wp2_with (refine wl_indexA rfl 96 _ _ rfl 5 255 Try.underlying96 nagg5 sz5 _ rfl .i64 k rfl hlt _ HX.out ?_)
          go_roundw
          case rel =>
            refine ⟨k + 1, by omega, by go_num, ?_, ?_, hbel.setCell (by simp) _⟩
            · exact H1.out.other _ (by simp)
            · rw [invF_succ]; exact H0.out.setB _ _
          case measure => simp [intOf]; omega
        · obtain rfl : k = 255 := by omega
          have H1 := Lib.hid hb1
          have H0 := Lib.hid hb0
          clear hb1 hb0 hpw hlt hk
          go_wp2_with (refine wl_loadA rfl 52 _ rfl _ 0 256 rfl agg52 sz52 _ _ H0.out (by simp [row_size]) (row 256 invP) ?e2 ?_)
          case e2 => rw [show 256 = 0 + 256 from rfl, row_part 512 0 256 _ (by omega)]; exact row_congr fun j hj => by simp [invF, hj, invP]
          obtain ⟨wo2, rfl⟩ : ∃ wo : World, wo = wr := ⟨_, rfl⟩
          have hb0 := H0.out
          clear H1 H0
          go_loopw [35] (fun v35 wr => ∃ k : Nat, k ≤ 256 ∧ v35 = .int .i64 k ∧ Blk wr w.heap.size 71 (row 512 (tabS k)) ∧ Below w.heap.size w wr)
            (fun v35 _ => 256 - (intOf v35).toNat)
          case atStart =>
            refine ⟨0, by omega, rfl, ?_, hbel⟩
            rw [tabS_zero]
            exact hb0
          case round =>
            clear hb0 hbel hsz
            obtain ⟨k, hk, rfl, hb0, hbel⟩ := hrel
            have hsz := hbel.size
            have hiv := invP_lt k
            by_cases hlt : k < 256
            · have ht := hb0.byte (256 + k) (by omega)
              have hf := hb0.frozen (256 + k)
              have hx : (row 256 invP)[k]? = some (.int .u8 ((invP k : Nat) : Int)) := row_get 256 invP k hlt
              have HX := Lib.hid hx
              have H0 := Lib.hid hb0
              clear hb0 hx
              go_wp2_with (first | (refine wl_indexA rfl 52 _ _ rfl 5 256 Try.underlying52 nagg5 sz5 _ rfl .i64 k rfl hlt _ HX.out ?_) | (go_at_call 68; refine (turn_int _ _ hiv (by omega) (by omega) _).mono ?_; rintro e w' ⟨rfl, nd, rfl⟩))
              go_roundw
              case rel =>
                rw [boxA_bits _ hiv]
                refine ⟨k + 1, by omega, by go_num, ?_, (hbel.trans (Below.mono (Ext.drewN _ _) hbel.size)).setCell (by simp) _⟩
                rw [tabS_succ k hlt]
                exact (H0.out.drewN _).setB _ _
              case measure => simp [intOf]; omega
            · obtain rfl : k = 256 := by omega
              have H0 := Lib.hid hb0
              clear hb0 hiv hlt hk
              go_wp2_with (first | (refine wl_loadA rfl 71 _ rfl _ 0 512 rfl agg71 sz71 _ _ H0.out (by simp [row_size]) (row 512 tabP) ?e3 ?_) | (refine wl_storeA rfl 71 _ _ rfl _ 0 512 rfl (row 512 tabP) rfl sz71 (row_size _ _) _ _ H0.out (by simp [row_size]) (row_one _ _) (row 512 tabP) (lay_all _ _ (by simp [row_size])) ?_))
              case e3 => rw [show 512 = 0 + 512 from rfl, row_part 512 0 512 _ (by omega)]; rw [← tabS_end]; exact row_congr fun j hj => by simp
              refine bodyPost_ret (results_blk rfl _ _ w.heap.size 512 71 (row 512 tabP) rfl (H0.out.setRow _) agg71 sz71 (row_size _ _).symm) rfl ?_
              exact ⟨rfl, below_setRow hbel (by simp) _⟩

end Go.Proofs.Ytnigpobbckampaa
namespace Go.Proofs.Ytnigpobbckampaa
set_option linter.unusedSimpArgs false
set_option linter.unusedVariables false
open Go.RowKit

set_option maxRecDepth 100000 in
set_option maxHeartbeats 400000 in
theorem inv_any (a : Nat) (ha : a < 256) (w : World) :
    Calls Try.prog 28 #[.int .u8 a] w fun e w' => e = .returned (.int .u8 ((invP a : Nat) : Int)) ∧ Ext w w' := by
  have hx : ((row 512 tabP).extract 0 256)[a]? = some (.int .u8 ((invP a : Nat) : Int)) := by
    rw [Array.getElem?_extract, if_pos (by simp [row_size]; omega), row_get _ _ _ (by omega)]
    simp [tabP, ha]
  have HX := Lib.hid hx
  clear hx
  go_enter Try.func28, Try.ntmps28
  go_wp2_with (first | (go_at_call 47; refine (build_any _).mono ?_; rintro e w' ⟨rfl, hx⟩) | (refine wl_fieldR rfl 71 _ _ rfl _ rfl _ (fld71_0 _ _) ?_) | (refine wl_indexA rfl 52 _ _ rfl 5 256 Try.underlying52 nagg5 sz5 _ rfl .u8 a rfl ha _ HX.out ?_))
  go_ret
  exact ⟨rfl, by assumption⟩

set_option maxRecDepth 100000 in
set_option maxHeartbeats 400000 in
theorem box_any (a : Nat) (ha : a < 256) (w : World) :
    Calls Try.prog 30 #[.int .u8 a] w fun e w' => e = .returned (.int .u8 ((boxP a : Nat) : Int)) ∧ Ext w w' := by
  have hx : ((row 512 tabP).extract 256 512)[a]? = some (.int .u8 ((boxP a : Nat) : Int)) := by
    rw [Array.getElem?_extract, if_pos (by simp [row_size]; omega), row_get _ _ _ (by omega)]
    simp only [tabP]
    rw [if_neg (by omega), Nat.add_sub_cancel_left]
  have HX := Lib.hid hx
  clear hx
  go_enter Try.func30, Try.ntmps30
  go_wp2_with (first | (go_at_call 47; refine (build_any _).mono ?_; rintro e w' ⟨rfl, hx⟩) | (refine wl_fieldR rfl 71 _ _ rfl _ rfl _ (fld71_1 _ _) ?_) | (refine wl_indexA rfl 52 _ _ rfl 5 256 Try.underlying52 nagg5 sz5 _ rfl .u8 a rfl ha _ HX.out ?_))
  go_ret
  exact ⟨rfl, by assumption⟩

set_option maxHeartbeats 400000 in
set_option maxRecDepth 100000 in
theorem add_any (f g : Nat → Nat) (hf : ∀ j, j < 16 → f j < 256) (hg : ∀ j, j < 16 → g j < 256) (w : World) :
    Calls Try.prog 53 #[.agg (row 16 f), .agg (row 16 g)] w fun e w' => e = .returned (.agg (row 16 fun j => f j ^^^ g j)) ∧ Ext w w' := by
  go_enter Try.func53, Try.ntmps53
  go_wp2_with (first | (refine wl_allocA rfl 23 rfl _ zero23 ?_) | (refine wl_boxA rfl 23 _ rfl _ rfl ?_))
  have hB0 : Blk (((w.alloc (.cells (row 16 f) 23)).alloc (.cells (row 16 g) 23)).alloc (.cells (row 16 fun _ => 0) 23)) w.heap.size 23 (row 16 f) := ((Blk.new w _ _).alloc _).alloc _
  have hB1 : Blk (((w.alloc (.cells (row 16 f) 23)).alloc (.cells (row 16 g) 23)).alloc (.cells (row 16 fun _ => 0) 23)) (w.heap.size + 1) 23 (row 16 g) := by
    have := (Blk.new (w.alloc (.cells (row 16 f) 23)) 23 (row 16 g)).alloc (.cells (row 16 fun _ => 0) 23)
    simpa using this
  have hB2 : Blk (((w.alloc (.cells (row 16 f) 23)).alloc (.cells (row 16 g) 23)).alloc (.cells (row 16 fun _ => 0) 23)) (w.heap.size + 2) 23 (row 16 fun _ => 0) := by
    have := (Blk.new ((w.alloc (.cells (row 16 f) 23)).alloc (.cells (row 16 g) 23)) 23 (row 16 fun _ => 0))
    simpa using this
  go_loopw [6] (fun v6 wr => ∃ k : Nat, k ≤ 16 ∧ v6 = .int .i64 k ∧ Blk wr w.heap.size 23 (row 16 (mixF k (fun j => f j ^^^ g j) f)) ∧ Blk wr (w.heap.size + 1) 23 (row 16 g) ∧ Blk wr (w.heap.size + 2) 23 (row 16 fun _ => 0) ∧ Below w.heap.size w wr)
    (fun v6 _ => 16 - (intOf v6).toNat)
  case atStart =>
    refine ⟨0, by omega, rfl, ?_, hB1, hB2, (((Below.refl _ w).alloc (Nat.le_refl _) _).alloc (by simp) _).alloc (by simp; omega) _⟩
    rw [mixF_zero]
    exact hB0
  case round =>
    clear hB0 hB1 hB2
    obtain ⟨k, hk, rfl, hb0, hb1, hb2, hbel⟩ := hrel
    by_cases hlt : k < 16
    · have hc0 : wr.cell? ⟨w.heap.size, k, none⟩ = some (.int .u8 ((f k : Nat) : Int)) := by rw [hb0.byte k hlt, mixF_at]
      have hc1 := hb1.byte k hlt
      have hfr := hb0.frozen k
      have H0 := Lib.hid hb0
      have H1 := Lib.hid hb1
      have H2 := Lib.hid hb2
      clear hb0 hb1 hb2
      go_wp2_with fail
      go_still_tail 7, (by kernel_rfl)
      change wpList _ _ _ _ _ wr.drew
      go_wp2_with fail
      go_roundw
      case rel =>
        rw [u8_xor_nat _ _ (hf k hlt) (hg k hlt)]
        refine ⟨k + 1, by omega, by go_num, ?_, H1.out.other _ (by simp), H2.out.other _ (by simp), (hbel.setCell (by simp) _).drew⟩
        rw [← mixF_upd]
        exact H0.out.setB k _
      case measure => simp [intOf]; omega
    · obtain rfl : k = 16 := by omega
      have H0 := Lib.hid hb0
      have H1 := Lib.hid hb1
      have H2 := Lib.hid hb2
      clear hb0 hb1 hb2 hlt hk
      go_wp2_with (first | (refine wl_loadA rfl 23 _ rfl _ 0 16 rfl agg23 sz23 _ _ H0.out (by simp [row_size]) (row 16 fun j => f j ^^^ g j) ?e3 ?_) | (refine wl_storeA rfl 23 _ _ rfl _ 0 16 rfl (row 16 fun j => f j ^^^ g j) rfl sz23 (row_size _ _) _ _ H2.out (by simp [row_size]) (row_one _ _) (row 16 fun j => f j ^^^ g j) (lay_all _ _ (by simp [row_size])) ?_))
      case e3 => rw [row_whole, row_mix]
      refine bodyPost_ret (results_blk rfl _ _ (w.heap.size + 2) 16 23 (row 16 fun j => f j ^^^ g j) rfl (H2.out.setRow _) agg23 sz23 (row_size _ _).symm) rfl ?_
      exact ⟨rfl, below_setRow (g := w.heap.size + 2) hbel (by omega) _⟩

/-- A cipher's cells: its keys, its boxes. -/
def ccells (kb : Nat) (n cap : Nat) : Array Value := #[.slice (some ⟨kb, 0, none⟩) n cap] ++ row 256 boxP
theorem ccells_size (kb n cap : Nat) : (ccells kb n cap).size = 257 := by simp [ccells, row_size]
theorem ccells_0 (kb n cap : Nat) : (ccells kb n cap)[0]? = some (.slice (some ⟨kb, 0, none⟩) n cap) := by
  unfold ccells
  rw [Array.getElem?_append_left (by simp)]
  rfl
theorem ccells_succ (kb n cap j : Nat) (h : j < 256) : (ccells kb n cap)[j + 1]? = some (.int .u8 ((boxP j : Nat) : Int)) := by
  unfold ccells
  rw [Array.getElem?_append_right (by simp)]
  exact row_get 256 boxP j h

/-- p is a cipher of n round keys ks. -/
def Cph (w : World) (b : Nat) (n : Nat) (ks : Nat → Nat → Nat) : Prop :=
  ∃ kb cap cs, Blk w b 54 (ccells kb n cap) ∧ Blk w kb 23 cs ∧ n * 16 ≤ cs.size ∧ ∀ i, i < n → ∀ j, j < 16 → cs[i * 16 + j]? = some (.int .u8 ((ks i j : Nat) : Int)) ∧ ks i j < 256

theorem Cph.ext {w w' : World} {b n : Nat} {ks : Nat → Nat → Nat} (h : Cph w b n ks) (hx : Ext w w') : Cph w' b n ks := by
  obtain ⟨kb, cap, cs, h1, h2, h3⟩ := h
  exact ⟨kb, cap, cs, h1.ext hx, h2.ext hx, h3⟩

set_option maxRecDepth 100000 in
theorem rounds_any (b n : Nat) (ks : Nat → Nat → Nat) (hn : 1 ≤ n) (hn2 : n ≤ 1000) (w : World) (hC : Cph w b n ks) :
    Calls Try.prog 23 #[.pointer (some ⟨b, 0, none⟩)] w fun e w' => e = .returned (.int .i64 ((n - 1 : Nat) : Int)) ∧ w = w' := by
  obtain ⟨kb, cap, cs, h1, h2, h3⟩ := hC
  have hc : w.cell? ⟨b, 0, none⟩ = some (.slice (some ⟨kb, 0, none⟩) n cap) := (h1.cell 0).trans (ccells_0 _ _ _)
  have hz : ((n : Int) == 0) = false := by simp; omega
  clear h1 h2 h3
  go_enter Try.func23, Try.ntmps23
  go_wp2
  go_ret
  refine ⟨?_, rfl⟩
  show Ending.returned (.int .i64 ((n : Int) - 1)) = _
  congr 2
  omega

end Go.Proofs.Ytnigpobbckampaa
