/- The contract of aes.build: the tables of inverses and boxes. -/
import Derived.Test.YtnigpobbckampaaL
import Derived.Test.YtnigpobbckampaaA0
import Derived.Outline
namespace Go.Proofs.Ytnigpobbckampaa
set_option linter.unusedSimpArgs false
set_option linter.unusedVariables false
open Go.RowKit

theorem pwS_succ (k : Nat) : row 255 (pwS (k + 1)) = row 255 (upd (pwS k) k (pw k)) := by
  refine row_congr fun j _ => ?_
  simp only [pwS, upd]
  by_cases h : j = k
  · subst h; simp
  · simp only [if_neg h]
    by_cases h2 : j < k
    · rw [if_pos h2, if_pos (by omega)]
    · rw [if_neg h2, if_neg (by omega)]

theorem invF_succ (k : Nat) : row 512 (invF (k + 1)) = row 512 (upd (invF k) (pw k) (pw ((255 - k) % 255))) := by
  refine row_congr fun j _ => ?_
  have hp := pw_lt k
  simp only [invF, upd, invS]
  by_cases h : j = pw k
  · rw [if_pos (by omega), if_pos h, if_pos h]
  · rw [if_neg h, if_neg h]

theorem tabS_zero : row 512 (tabS 0) = row 512 (invF 255) := row_congr fun j _ => by
  simp only [tabS, invF, invP]
  by_cases hj : j < 256
  · rw [if_pos hj, if_pos hj]
  · rw [if_neg hj, if_neg hj, if_neg (by omega)]
theorem tabS_succ (k : Nat) (hk : k < 256) : row 512 (tabS (k + 1)) = row 512 (upd (tabS k) (256 + k) (boxP k)) := row_congr fun j _ => by
  simp only [tabS, upd]
  by_cases hj : j < 256
  · rw [if_pos hj, if_neg (by omega), if_pos hj]
  · rw [if_neg hj]
    by_cases h2 : j = 256 + k
    · rw [if_pos h2, if_pos (by omega), show j - 256 = k by omega]
    · rw [if_neg h2, if_neg hj]
      by_cases h3 : j < 256 + k
      · rw [if_pos h3, if_pos (by omega)]
      · rw [if_neg h3, if_neg (by omega)]
theorem tabS_end : row 512 (tabS 256) = row 512 tabP := row_congr fun j hj => by
  simp only [tabS, tabP]
  by_cases h : j < 256
  · rw [if_pos h, if_pos h]
  · rw [if_neg h, if_neg h, if_pos (by omega)]

theorem boxA_bits (y : Nat) (h : y < 256) : bits BinOp.xor IntKind.u8 (bits BinOp.xor IntKind.u8 (bits BinOp.xor IntKind.u8 (bits BinOp.xor IntKind.u8 (bits BinOp.xor IntKind.u8 (y : Int) ((rot y 1 : Nat) : Int)) ((rot y 2 : Nat) : Int)) ((rot y 3 : Nat) : Int)) ((rot y 4 : Nat) : Int)) 99 = ((boxA y : Nat) : Int) := by
  have h1 := rot_lt y 1 h
  have h2 := rot_lt y 2 h
  have h3 := rot_lt y 3 h
  have h4 := rot_lt y 4 h
  rw [u8_xor_nat _ _ h h1, u8_xor_nat _ _ (xor_lt h h1) h2, u8_xor_nat _ _ (xor_lt (xor_lt h h1) h2) h3, u8_xor_nat _ _ (xor_lt (xor_lt (xor_lt h h1) h2) h3) h4,
    show (99 : Int) = ((99 : Nat) : Int) from rfl, u8_xor_nat _ _ (xor_lt (xor_lt (xor_lt (xor_lt h h1) h2) h3) h4) (by omega)]
  rfl

set_option maxRecDepth 100000 in
set_option maxHeartbeats 800000 in
theorem build_any (w : World) :
    Calls Try.prog 47 #[] w fun e w' => e = .returned (.agg (row 512 tabP)) ∧ Ext w w' := by
  go_enter Try.func47, Try.ntmps47
  go_wp2_with (first | (refine wl_allocA rfl 71 rfl _ zero71 ?_) | (refine wl_allocA rfl 96 rfl _ zero96 ?_))
  have hB1 : Blk ((w.alloc (.cells (row 512 fun _ => 0) 71)).alloc (.cells (row 255 fun _ => 0) 96)) (w.heap.size + 1) 96 (row 255 fun _ => 0) := heap_alloc2_new w _ _
  have hB0 : Blk ((w.alloc (.cells (row 512 fun _ => 0) 71)).alloc (.cells (row 255 fun _ => 0) 96)) w.heap.size 71 (row 512 fun _ => 0) := heap_alloc2_old w _ _
  go_loopw [2, 8] (fun v2 v8 wr => ∃ k : Nat, k ≤ 255 ∧ v8 = .int .i64 k ∧ v2 = .int .u8 (pw k : Nat) ∧ Blk wr (w.heap.size + 1) 96 (row 255 (pwS k)) ∧ Blk wr w.heap.size 71 (row 512 fun _ => 0) ∧ Below w.heap.size w wr)
    (fun _ v8 _ => 255 - (intOf v8).toNat)
  case atStart =>
    refine ⟨0, by omega, rfl, rfl, ?_, hB0, ((Below.refl _ w).alloc (Nat.le_refl _) _).alloc (by simp) _⟩
    rw [show row 255 (pwS 0) = row 255 (fun _ => 0) from row_congr (fun j _ => by simp [pwS])]
    exact hB1
  case round =>
    obtain ⟨k, hk, rfl, rfl, hb1, hb0, hbel⟩ := hrel
    have hpw := pw_lt k
    have hsz := hbel.size
    by_cases hlt : k < 255
    · have hc := hb1.byte k hlt
      have hf := hb1.frozen k
      have H1 := Lib.hid hb1
      have H0 := Lib.hid hb0
      clear hb1 hb0
      go_wp2_with (go_at_call 49; refine (double_any _ hpw _).mono ?_; rintro e w' ⟨rfl, rfl⟩)
      go_roundw
      case rel =>
        refine ⟨k + 1, by omega, by go_num, int_u8 ?_, ?_, ?_, ?_⟩
        · rw [u8_xor_nat _ _ hpw (dbl_lt _)]; rfl
        · rw [pwS_succ]; exact H1.out.setB k _
        · exact H0.out.other _ (by simp)
        · exact hbel.setCell (by simp) _
      case measure => simp [intOf]; omega
    · obtain rfl : k = 255 := by omega
      have H1 := Lib.hid hb1
      have H0 := Lib.hid hb0
      clear hb1 hb0
      go_wp2_with (refine wl_loadA rfl 96 _ rfl _ 0 255 rfl agg96 sz96 _ _ H1.out (by simp [row_size]) (row 255 pw) ?e1 ?_)
      case e1 => rw [show 255 = 0 + 255 from rfl, row_part 255 0 255 _ (by omega)]; exact row_congr fun j hj => by simp [pwS, hj]
      have hb1 := H1.out
      have hb0 := H0.out
      obtain ⟨wo, rfl⟩ : ∃ wo : World, wo = wr := ⟨_, rfl⟩
      clear H1 H0 hpw hlt hk
      go_loopw [20] (fun v20 wr => ∃ k : Nat, k ≤ 255 ∧ v20 = .int .i64 k ∧ Blk wr (w.heap.size + 1) 96 (row 255 (pwS 255)) ∧ Blk wr w.heap.size 71 (row 512 (invF k)) ∧ Below w.heap.size w wr)
        (fun v20 _ => 255 - (intOf v20).toNat)
      case atStart =>
        refine ⟨0, by omega, rfl, hb1, ?_, hbel⟩
        rw [show row 512 (invF 0) = row 512 (fun _ => 0) from row_congr (fun j _ => by simp [invF, invS])]
        exact hb0
      case round =>
        clear hb1 hb0 hbel hsz
        obtain ⟨k, hk, rfl, hb1, hb0, hbel⟩ := hrel
        have hpw := pw_lt k
        have hsz := hbel.size
        by_cases hlt : k < 255
        · have hc : wr.cell? ⟨w.heap.size + 1, (-(k : Int) % 255).toNat, none⟩ = some (.int .u8 ((pw ((255 - k) % 255) : Nat) : Int)) := by
            rw [show (-(k : Int) % 255).toNat = (255 - k) % 255 by omega, hb1.byte _ (Nat.mod_lt _ (by omega))]; simp only [pwS]; rw [if_pos (Nat.mod_lt _ (by omega))]
          have ht := hb0.byte (pw k) (by omega)
          have hf := hb0.frozen (pw k)
          have hx : (row 255 pw)[k]? = some (.int .u8 ((pw k : Nat) : Int)) := row_get 255 pw k hlt
          have HX := Lib.hid hx
          have H1 := Lib.hid hb1
          have H0 := Lib.hid hb0
          clear hb1 hb0 hx
          go_wp2_with (refine wl_indexA rfl 96 _ _ rfl 5 255 Try.underlying96 nagg5 sz5 _ rfl .i64 k rfl hlt _ HX.out ?_)
          go_roundw
          case rel =>
            refine ⟨k + 1, by omega, by go_num, ?_, ?_, hbel.setCell (by simp) _⟩
            · exact H1.out.other _ (by simp)
            · rw [invF_succ]; exact H0.out.setB _ _
          case measure => simp [intOf]; omega
        · obtain rfl : k = 255 := by omega
          have H1 := Lib.hid hb1
          have H0 := Lib.hid hb0
          clear hb1 hb0 hpw hlt hk
          go_wp2_with (refine wl_loadA rfl 52 _ rfl _ 0 256 rfl agg52 sz52 _ _ H0.out (by simp [row_size]) (row 256 invP) ?e2 ?_)
          case e2 => rw [show 256 = 0 + 256 from rfl, row_part 512 0 256 _ (by omega)]; exact row_congr fun j hj => by simp [invF, hj, invP]
          obtain ⟨wo2, rfl⟩ : ∃ wo : World, wo = wr := ⟨_, rfl⟩
          have hb0 := H0.out
          clear H1 H0
          go_loopw [35] (fun v35 wr => ∃ k : Nat, k ≤ 256 ∧ v35 = .int .i64 k ∧ Blk wr w.heap.size 71 (row 512 (tabS k)) ∧ Below w.heap.size w wr)
            (fun v35 _ => 256 - (intOf v35).toNat)
          case atStart =>
            refine ⟨0, by omega, rfl, ?_, hbel⟩
            rw [tabS_zero]
            exact hb0
          case round =>
            clear hb0 hbel hsz
            obtain ⟨k, hk, rfl, hb0, hbel⟩ := hrel
            have hsz := hbel.size
            have hiv := invP_lt k
            by_cases hlt : k < 256
            · have ht := hb0.byte (256 + k) (by omega)
              have hf := hb0.frozen (256 + k)
              have hx : (row 256 invP)[k]? = some (.int .u8 ((invP k : Nat) : Int)) := row_get 256 invP k hlt
              have HX := Lib.hid hx
              have H0 := Lib.hid hb0
              clear hb0 hx
              go_wp2_with (first | (refine wl_indexA rfl 52 _ _ rfl 5 256 Try.underlying52 nagg5 sz5 _ rfl .i64 k rfl hlt _ HX.out ?_) | (go_at_call 68; refine (turn_int _ _ hiv (by omega) (by omega) _).mono ?_; rintro e w' ⟨rfl, nd, rfl⟩))
              go_roundw
              case rel =>
                rw [boxA_bits _ hiv]
                refine ⟨k + 1, by omega, by go_num, ?_, (hbel.trans (Below.mono (Ext.drewN _ _) hbel.size)).setCell (by simp) _⟩
                rw [tabS_succ k hlt]
                exact (H0.out.drewN _).setB _ _
              case measure => simp [intOf]; omega
            · obtain rfl : k = 256 := by omega
              have H0 := Lib.hid hb0
              clear hb0 hiv hlt hk
              go_wp2_with (first | (refine wl_loadA rfl 71 _ rfl _ 0 512 rfl agg71 sz71 _ _ H0.out (by simp [row_size]) (row 512 tabP) ?e3 ?_) | (refine wl_storeA rfl 71 _ _ rfl _ 0 512 rfl (row 512 tabP) rfl sz71 (row_size _ _) _ _ H0.out (by simp [row_size]) (row_one _ _) (row 512 tabP) (lay_all _ _ (by simp [row_size])) ?_))
              case e3 => rw [show 512 = 0 + 512 from rfl, row_part 512 0 512 _ (by omega)]; rw [← tabS_end]; exact row_congr fun j hj => by simp
              refine bodyPost_ret (results_blk rfl _ _ w.heap.size 512 71 (row 512 tabP) rfl (H0.out.setRow _) agg71 sz71 (row_size _ _).symm) rfl ?_
              exact ⟨rfl, below_setRow hbel (by simp) _⟩

end Go.Proofs.Ytnigpobbckampaa
