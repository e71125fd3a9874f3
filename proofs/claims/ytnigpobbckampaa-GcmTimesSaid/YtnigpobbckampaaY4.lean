/- poly: times, walked. -/
import Derived.Test.YtnigpobbckampaaY3
import Derived.Deep.DeepCutAuto
namespace Go.Proofs.Ytnigpobbckampaa
open Go.RowKit
set_option linter.unusedSimpArgs false
set_option linter.unusedVariables false

/-- The words of Y, the highest first. -/
def half (Y i : Nat) : Nat := if i = 0 then Y / 18446744073709551616 else Y % 18446744073709551616
theorem half_lt {Y : Nat} (h : Y < 2 ^ 128) (i : Nat) : half Y i < 18446744073709551616 := by
  unfold half
  split <;> omega
theorem half_bit (Y i j : Nat) (hi : i < 2) (hj : j < 64) : (half Y i / 2 ^ (63 - j) % 2 = 1) ↔ Y.testBit (127 - (64 * i + j)) = true := by
  rw [Nat.testBit_eq_decide_div_mod_eq, decide_eq_true_eq]
  unfold half
  rcases (by omega : i = 0 ∨ i = 1) with rfl | rfl
  · rw [if_pos rfl, show (18446744073709551616 : Nat) = 2 ^ 64 from rfl, Nat.div_div_eq_div_mul, ← Nat.pow_add, show 64 + (63 - j) = 127 - (64 * 0 + j) by omega]
  · rw [if_neg (by omega), show 127 - (64 * 1 + j) = 63 - j by omega, show (18446744073709551616 : Nat) = 2 ^ 64 from rfl]
    have h := Nat.testBit_mod_two_pow Y 64 (63 - j)
    rw [Nat.testBit_eq_decide_div_mod_eq, Nat.testBit_eq_decide_div_mod_eq, decide_eq_true (show 63 - j < 64 by omega), Bool.true_and] at h
    constructor
    · intro h1
      rw [decide_eq_true h1] at h
      exact of_decide_eq_true h.symm
    · intro h1
      rw [decide_eq_true h1] at h
      exact of_decide_eq_true h

set_option maxRecDepth 100000 in
set_option maxHeartbeats 1000000 in
theorem times58_any (X Y : Nat) (hX : X < 2 ^ 128) (hY : Y < 2 ^ 128) (w : World) :
    Calls Try.prog 58 #[pv X, pv Y] w fun e w' => e = .returned (pv (tms X Y)) ∧ Ext w w' := by
  unfold pv
  go_enter Try.func58, Try.ntmps58
  go_upto_region 1 with (first | (refine wl_allocA rfl 85 rfl _ zero85 ?_) | (refine wl_boxA rfl 85 _ rfl _ rfl ?_))
  have hB0 : Blk (((w.alloc (.cells (pcells X) 85)).alloc (.cells (pcells Y) 85)).alloc (.cells (pcells 0) 85)) w.heap.size 85 (pcells X) := ((Blk.new w _ _).alloc _).alloc _
  have hB1 : Blk (((w.alloc (.cells (pcells X) 85)).alloc (.cells (pcells Y) 85)).alloc (.cells (pcells 0) 85)) (w.heap.size + 1) 85 (pcells Y) := by
    have := (Blk.new (w.alloc (.cells (pcells X) 85)) 85 (pcells Y)).alloc (.cells (pcells 0) 85)
    simpa only [World.size_alloc] using this
  have hB2 : Blk (((w.alloc (.cells (pcells X) 85)).alloc (.cells (pcells Y) 85)).alloc (.cells (pcells 0) 85)) (w.heap.size + 2) 85 (pcells 0) := by
    have := (Blk.new ((w.alloc (.cells (pcells X) 85)).alloc (.cells (pcells Y) 85)) 85 (pcells 0))
    simpa only [World.size_alloc] using this
  have hx : Ext w (((w.alloc (.cells (pcells X) 85)).alloc (.cells (pcells Y) 85)).alloc (.cells (pcells 0) 85)) := ((Ext.alloc _ _).trans (Ext.alloc _ _)).trans (Ext.alloc _ _)
  simp only [put_lit, List.set_cons_succ, List.set_cons_zero, World.size_alloc]
  generalize ((w.alloc (.cells (pcells X) 85)).alloc (.cells (pcells Y) 85)).alloc (.cells (pcells 0) 85) = w1 at hB0 hB1 hB2 hx ⊢
  obtain ⟨gs, hgs⟩ : ∃ g, g = w.heap.size := ⟨_, rfl⟩
  rw [← hgs] at hB0 hB1 hB2 ⊢
  have d0 := hB1.hi
  have d1 := hB1.lo
  have HG := Lib.hid hgs
  have HB0 := Lib.hid hB0
  have HB2 := Lib.hid hB2
  have HX := Lib.hid hx
  clear hB0 hB1 hB2 hx hgs
  go_wp2_with fail
  clear d0 d1
  go_loopw [13] (fun v13 wr => ∃ i : Nat, i ≤ 2 ∧ v13 = .int .i64 i ∧ Blk wr gs 85 (pcells (mx X (64 * i))) ∧ Blk wr (gs + 2) 85 (pcells (acc X Y (64 * i))) ∧ Ext w wr) (fun v13 _ => 2 - (intOf v13).toNat)
  case atStart => exact ⟨0, by omega, rfl, HB0.out, HB2.out, HX.out⟩
  case round =>
    clear HB0 HB2 HX
    obtain ⟨i, hi, rfl, hb0, hb2, hx⟩ := hrel
    by_cases hi2 : i < 2
    · have hi' : (i : Int) < 2 := by omega
      have hw : (#[Value.int .u64 ((Y : Int) / 18446744073709551616), .int .u64 ((Y : Int) % 18446744073709551616)])[i]? = some (.int .u64 ((half Y i : Nat) : Int)) := by
        rcases (by omega : i = 0 ∨ i = 1) with rfl | rfl <;> simp [half]
      have HW := Lib.hid hw
      have HB0 := Lib.hid hb0
      have HB2 := Lib.hid hb2
      have HX := Lib.hid hx
      clear hw hb0 hb2 hx
      go_wp2_with (refine wl_indexA rfl 100 (.tmp 12) (.tmp 13) rfl 83 2 Try.underlying100 nagg83 sz83 _ rfl .i64 i rfl hi2 (.int .u64 ((half Y i : Nat) : Int)) HW.out ?_)
      clear HW
      go_loopw [16] (fun v16 wr => ∃ j : Nat, j ≤ 64 ∧ v16 = .int .i64 j ∧ Blk wr gs 85 (pcells (mx X (64 * i + j))) ∧ Blk wr (gs + 2) 85 (pcells (acc X Y (64 * i + j))) ∧ Ext w wr) (fun v16 _ => 64 - (intOf v16).toNat)
      case atStart => exact ⟨0, by omega, rfl, HB0.out, HB2.out, HX.out⟩
      case round =>
        clear HB0 HB2 HX
        obtain ⟨j, hj, rfl, hb0, hb2, hx⟩ := hrel
        have HB0 := Lib.hid hb0
        have HB2 := Lib.hid hb2
        have HX := Lib.hid hx
        clear hb0 hb2 hx
        have hgw : w.heap.size ≤ gs := by have := HG.out; omega
        by_cases hj2 : j < 64
        · have hj' : (j : Int) < 64 := by omega
          have hhl := half_lt hY i
          have hal := acc_lt Y hX (64 * i + j)
          have hml := mx_lt hX (64 * i + j)
          have htest : (bits .and .u64 (((half Y i : Nat) : Int) / 2 ^ (63 - j)) 1 == 1) = Y.testBit (127 - (64 * i + j)) := by
            have e1 : (((half Y i : Nat) : Int) / 2 ^ (63 - j)) = ((half Y i / 2 ^ (63 - j) : Nat) : Int) := by simp
            rw [e1]
            conv => lhs; rw [show (1 : Int) = ((1 : Nat) : Int) from rfl]
            rw [bits_and_u64_nat _ _ (Nat.lt_of_le_of_lt (Nat.div_le_self _ _) hhl) (by omega), Nat.and_one_is_mod]
            have hh := half_bit Y i j hi2 hj2
            cases hb : Y.testBit (127 - (64 * i + j)) with
            | true => rw [hh.2 hb]; rfl
            | false =>
              have : half Y i / 2 ^ (63 - j) % 2 = 0 := by
                rcases Nat.mod_two_eq_zero_or_one (half Y i / 2 ^ (63 - j)) with h | h
                · exact h
                · rw [hh.1 h] at hb; cases hb
              rw [this]
              rfl
          have HT := Lib.hid htest
          clear htest
          go_upto_if 24 with fail
          go_cut [] (fun wx => Blk wx gs 85 (pcells (mx X (64 * i + j))) ∧ Blk wx (gs + 2) 85 (pcells (acc X Y (64 * i + j + 1))) ∧ Ext w wx)
          case first =>
            by_cases hb : Y.testBit (127 - (64 * i + j)) = true
            · have hT : (bits .and .u64 (((half Y i : Nat) : Int) / 2 ^ (63 - j)) 1 == 1) = true := HT.out.trans hb
              have hacc : acc X Y (64 * i + j) ^^^ mx X (64 * i + j) = acc X Y (64 * i + j + 1) := by simp only [acc, hb, if_true]
              go_wp2_with (first | (refine wl_loadA rfl 85 (.tmp 4) rfl _ 0 2 rfl agg85 sz85 _ _ HB2.out (by simp [pcells_size]) (pcells (acc X Y (64 * i + j))) rfl ?_) | (refine wl_loadA rfl 85 (.tmp 2) rfl _ 0 2 rfl agg85 sz85 _ _ HB0.out (by simp [pcells_size]) (pcells (mx X (64 * i + j))) rfl ?_))
              refine (add71_any _ _ hal hml _).mono ?_
              rintro e w2 ⟨rfl, hx2⟩
              rw [hacc]
              have h2 := Lib.hid (HB2.out.ext hx2)
              have h0 := Lib.hid (HB0.out.ext hx2)
              have hX := Lib.hid (HX.out.trans hx2)
              clear hx2 hacc
              go_wp2_with (refine wl_storeA rfl 85 (.tmp 4) _ rfl _ 0 2 rfl (pcells (acc X Y (64 * i + j + 1))) rfl sz85 (pcells_size _) _ _ h2.out (by simp [pcells_size]) (pcells_one _) (pcells (acc X Y (64 * i + j + 1))) (lay_all _ _ rfl) ?_)
              go_meet
              case rel => exact ⟨h0.out.setRow_other _ (by omega), h2.out.setRow _, below_setRow (g := gs + 2) hX.out (by omega) _⟩
            · have hb' : Y.testBit (127 - (64 * i + j)) = false := by simpa using hb
              have hT : (bits .and .u64 (((half Y i : Nat) : Int) / 2 ^ (63 - j)) 1 == 1) = false := HT.out.trans hb'
              have hacc : acc X Y (64 * i + j + 1) = acc X Y (64 * i + j) := by simp [acc, hb']
              go_wp2_with fail
              go_meet
              case rel => exact ⟨HB0.out, by rw [hacc]; exact HB2.out, HX.out⟩
          case rest =>
            obtain ⟨hb0, hb2, hx⟩ := hcut
            clear HB0 HB2 HX HT
            have HB0 := Lib.hid hb0
            have HB2 := Lib.hid hb2
            have HX := Lib.hid hx
            clear hb0 hb2 hx
            go_wp2_with (refine wl_loadA rfl 85 (.tmp 2) rfl _ 0 2 rfl agg85 sz85 _ _ HB0.out (by simp [pcells_size]) (pcells (mx X (64 * i + j))) rfl ?_)
            refine (next72_any _ hml _).mono ?_
            rintro e w2 ⟨rfl, hx2⟩
            rw [show nx (mx X (64 * i + j)) = mx X (64 * i + j + 1) from rfl]
            have h2 := Lib.hid (HB2.out.ext hx2)
            have h0 := Lib.hid (HB0.out.ext hx2)
            have hX := Lib.hid (HX.out.trans hx2)
            clear hx2
            go_wp2_with (refine wl_storeA rfl 85 (.tmp 2) _ rfl _ 0 2 rfl (pcells (mx X (64 * i + j + 1))) rfl sz85 (pcells_size _) _ _ h0.out (by simp [pcells_size]) (pcells_one _) (pcells (mx X (64 * i + j + 1))) (lay_all _ _ rfl) ?_)
            go_roundw
            case rel => exact ⟨j + 1, by omega, by go_num, h0.out.setRow _, h2.out.setRow_other _ (by omega), below_setRow (g := gs) hX.out hgw _⟩
            case measure => simp [intOf]; omega
        · obtain rfl : j = 64 := by omega
          go_wp2_with fail
          go_roundw
          case rel => exact ⟨i + 1, by omega, by go_num, HB0.out, HB2.out, HX.out⟩
          case measure => simp [intOf]; omega
    · obtain rfl : i = 2 := by omega
      have HB2 := Lib.hid hb2
      have HX := Lib.hid hx
      clear hb0 hb2 hx
      go_wp2_with (first | (refine wl_loadA rfl 85 _ rfl _ 0 2 rfl agg85 sz85 _ _ HB2.out (by simp [pcells_size]) (pcells (tms X Y)) rfl ?_) | (refine wl_storeA rfl 85 _ _ rfl _ 0 2 rfl (pcells (tms X Y)) rfl sz85 (pcells_size _) _ _ HB2.out (by simp [pcells_size]) (pcells_one _) (pcells (tms X Y)) (lay_all _ _ rfl) ?_))
      refine bodyPost_ret (results_blk rfl _ _ (gs + 2) 2 85 (pcells (tms X Y)) rfl (HB2.out.setRow _) agg85 sz85 (pcells_size _).symm) rfl ?_
      exact ⟨rfl, below_setRow (g := gs + 2) HX.out (by have := HG.out; omega) _⟩

/-- The product of blocks. -/
def tmsB (x y : Nat → Nat) : Nat → Nat := byP (tms (be x 16) (be y 16))

set_option maxRecDepth 100000 in
set_option maxHeartbeats 1000000 in
theorem times32_any (x y : Nat → Nat) (hx : ∀ j, j < 16 → x j < 256) (hy : ∀ j, j < 16 → y j < 256) (w : World) :
    Calls Try.prog 32 #[.agg (row 16 x), .agg (row 16 y)] w fun e w' => e = .returned (.agg (row 16 (tmsB x y))) ∧ Ext w w' := by
  have hX : be x 16 < 2 ^ 128 := be_lt 16 hx
  have hY : be y 16 < 2 ^ 128 := be_lt 16 hy
  go_enter Try.func32, Try.ntmps32
  go_upto_region 1 with (first | (refine wl_allocA rfl 23 rfl _ zero23 ?_) | (refine wl_boxA rfl 23 _ rfl _ rfl ?_))
  have hB0 : Blk (((w.alloc (.cells (row 16 x) 23)).alloc (.cells (row 16 y) 23)).alloc (.cells (row 16 fun _ => 0) 23)) w.heap.size 23 (row 16 x) := ((Blk.new w _ _).alloc _).alloc _
  have hB1 : Blk (((w.alloc (.cells (row 16 x) 23)).alloc (.cells (row 16 y) 23)).alloc (.cells (row 16 fun _ => 0) 23)) (w.heap.size + 1) 23 (row 16 y) := by
    have := (Blk.new (w.alloc (.cells (row 16 x) 23)) 23 (row 16 y)).alloc (.cells (row 16 fun _ => 0) 23)
    simpa only [World.size_alloc] using this
  have hB2 : Blk (((w.alloc (.cells (row 16 x) 23)).alloc (.cells (row 16 y) 23)).alloc (.cells (row 16 fun _ => 0) 23)) (w.heap.size + 2) 23 (row 16 fun _ => 0) := by
    have := (Blk.new ((w.alloc (.cells (row 16 x) 23)).alloc (.cells (row 16 y) 23)) 23 (row 16 fun _ => 0))
    simpa only [World.size_alloc] using this
  have hxx : Ext w (((w.alloc (.cells (row 16 x) 23)).alloc (.cells (row 16 y) 23)).alloc (.cells (row 16 fun _ => 0) 23)) := ((Ext.alloc _ _).trans (Ext.alloc _ _)).trans (Ext.alloc _ _)
  simp only [put_lit, List.set_cons_succ, List.set_cons_zero, World.size_alloc]
  generalize ((w.alloc (.cells (row 16 x) 23)).alloc (.cells (row 16 y) 23)).alloc (.cells (row 16 fun _ => 0) 23) = w1 at hB0 hB1 hB2 hxx ⊢
  have HB0 := Lib.hid hB0
  have HB1 := Lib.hid hB1
  have HB2 := Lib.hid hB2
  have HX := Lib.hid hxx
  clear hB0 hB1 hB2 hxx
  apply wp_region_mid 6 [.det _, .det _, .det _, .det _, .det _, .det _] (by kernel_rfl) rfl (by kernel_rfl)
  · refine wpE_run rfl rfl (by simp) (fun w' hx' _ K hK => wp_loadA 23 _ rfl _ 0 16 rfl agg23 sz23 _ _ (HB0.out.ext hx') (by simp [row_size]) (row 16 x) (row_whole _ _) (hK _ (Ext.refl _))) ?_
    simp only [put_lit, List.set_cons_succ, List.set_cons_zero]
    (refine wpE_run rfl rfl (by simp) (fun w1 hx1 _ K hK => by go_wp2_with (go_at_call 57; refine (of57_any x hx _).mono ?_; rintro e w2 ⟨rfl, hx2⟩; exact hK _ hx2)) ?_); simp only [put_lit, List.set_cons_succ, List.set_cons_zero]
    refine wpE_run rfl rfl (by simp) (fun w' hx' _ K hK => wp_loadA 23 _ rfl _ 0 16 rfl agg23 sz23 _ _ (HB1.out.ext hx') (by simp [row_size]) (row 16 y) (row_whole _ _) (hK _ (Ext.refl _))) ?_
    simp only [put_lit, List.set_cons_succ, List.set_cons_zero]
    (refine wpE_run rfl rfl (by simp) (fun w1 hx1 _ K hK => by go_wp2_with (go_at_call 57; refine (of57_any y hy _).mono ?_; rintro e w2 ⟨rfl, hx2⟩; exact hK _ hx2)) ?_); simp only [put_lit, List.set_cons_succ, List.set_cons_zero]
    (refine wpE_run rfl rfl (by simp) (fun w1 hx1 _ K hK => by go_wp2_with (go_at_call 58; refine (times58_any _ _ hX hY _).mono ?_; rintro e w2 ⟨rfl, hx2⟩; exact hK _ hx2)) ?_); simp only [put_lit, List.set_cons_succ, List.set_cons_zero]
    (refine wpE_run rfl rfl (by simp) (fun w1 hx1 _ K hK => by go_wp2_with (go_at_call 59; refine (block59_any _ (tms_lt _ hX) _).mono ?_; rintro e w2 ⟨rfl, hx2⟩; exact hK _ hx2)) ?_); simp only [put_lit, List.set_cons_succ, List.set_cons_zero]
    (refine wpE_nil ?_; intro w2 hw2 hF; simp only [List.drop_succ_cons, List.drop_zero])
    refine wl_storeA rfl 23 (.tmp 4) (.tmp 10) rfl _ 0 16 rfl (row 16 (tmsB x y)) rfl sz23 (row_size _ _) _ _ (HB2.out.ext hw2) (by simp [row_size]) (row_one _ _) (row 16 (tmsB x y)) (lay_all _ _ (by simp [row_size])) ?_
    have hR := (HB2.out.ext hw2).setRow (row 16 (tmsB x y))
    have hxx := below_setRow (g := w.heap.size + 2) (HX.out.trans hw2) (by omega) (row 16 (tmsB x y))
    simp only [put_lit, List.set_cons_succ, List.set_cons_zero]
    go_wp2_with fail
    refine bodyPost_ret (results_blk rfl _ _ (w.heap.size + 2) 16 23 (row 16 (tmsB x y)) rfl hR agg23 sz23 (row_size _ _).symm) rfl ?_
    exact ⟨rfl, hxx⟩
end Go.Proofs.Ytnigpobbckampaa
