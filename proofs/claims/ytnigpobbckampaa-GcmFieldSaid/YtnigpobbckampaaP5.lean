/- AesApart, walked. -/
import Derived.Test.YtnigpobbckampaaW0
import Derived.Test.YtnigpobbckampaaP3
import Derived.Test.YtnigpobbckampaaN
import Derived.Deep.DeepCutAuto
import Derived.Test.YtnigpobbckampaaL
import Derived.Test.YtnigpobbckampaaR1
namespace Go.Proofs.Ytnigpobbckampaa
set_option linter.unusedSimpArgs false
set_option linter.unusedVariables false
open Go.RowKit

/-- The first n of f, then 0. -/
def keyF (n : Nat) (f : Nat → Nat) : Nat → Nat := fun i => if i < n then f i else 0

theorem keyF_lt {n : Nat} {f : Nat → Nat} (h : ∀ i, i < n → f i < 256) (N : Nat) : ∀ i, i < N → keyF n f i < 256 := by
  intro i _
  unfold keyF
  split
  · exact h i (by assumption)
  · omega
theorem rd_of_blk {w : World} {g n : Nat} {t : TypeId} {f : Nat → Nat} (h : Blk w g t (row n f)) (hf : ∀ i, i < n → f i < 256) : RdF w (.slice (some ⟨g, 0, none⟩) n n) n f := by
  refine ⟨_, _, rfl, Nat.le_refl _, fun h => (by cases h), fun i hi => ⟨hf i hi, _, rfl, ?_⟩⟩
  rw [Addr.add_lit, Nat.zero_add]
  exact h.byte i hi

theorem wpE_neq23 {ops : Array Oper} {w0 : World} {T : Act → List (Tmp × (World → Prop)) → Prop} {o : Oper} {l : List Oper} {es : List Ent} {a : Act} {F : List (Tmp × (World → Prop))}
    (hw : Region.wanted o (yielded ops a.tmps) = true) (x y : Operand) (ho : o.op = .binOp .neq 23 x y 23) (f g : Nat → Nat) (hx : a.eval x = .agg (row 16 f)) (hy : a.eval y = .agg (row 16 g))
    (h : wpE Try.prog ops w0 T l es (a.put o.dst (.bool (!eqN 16 f g))) F) : wpE Try.prog ops w0 T (o :: l) (.det (.bool (!eqN 16 f g)) :: es) a F :=
  wpE_val hw (fun w _ _ => by
    have hg : Try.prog.eqGuardType Try.prog.depth 23 = false := by kernel_rfl
    have h := run_eqA 16 23 Try.underlying23 f g w
    unfold execOp
    rw [ho]
    simp [hx, hy, run_eqGuard_agg w .neq 23 x y _ _ hg, run_neq_struct w 23 (row 16 f) (row 16 g), h]) h
theorem apart_eq {n : Nat} {ks : Nat → Nat → Nat} {x y : Nat → Nat} (hn : 1 ≤ n) (hk : ∀ i, i < n → ∀ j, j < 16 → ks i j < 256) (hx : ∀ i, i < 16 → x i < 256) (hy : ∀ i, i < 16 → y i < 256) : (eqN 16 (blockP n ks x) (blockP n ks y) == eqN 16 x y) = true := by
  by_cases h : ∀ i, i < 16 → x i = y i
  · rw [eqN_iff.2 h, eqN_iff.2 (blockP_congr n ks ks x y hn h (fun _ _ _ _ => rfl))]
    rfl
  · rw [eqN_false.2 h, eqN_false.2 (fun h2 => h (blockP_inj n ks hn hk hx hy h2))]
    rfl
theorem apart_ne {n : Nat} {ks : Nat → Nat → Nat} {x y : Nat → Nat} (hn : 1 ≤ n) (hk : ∀ i, i < n → ∀ j, j < 16 → ks i j < 256) (hx : ∀ i, i < 16 → x i < 256) (hy : ∀ i, i < 16 → y i < 256) (q : Nat) (hq : q < 16) (h : x q ≠ y q) : eqN 16 (blockP n ks x) (blockP n ks y) = false :=
  eqN_false.2 fun h2 => h (blockP_inj n ks hn hk hx hy h2 q hq)

set_option maxRecDepth 100000 in
set_option maxHeartbeats 1000000 in
theorem apart_any (v : Value) (n : Nat) (f X : Nat → Nat) (at' : Int) (w : World) (hn : n ≤ 9223372036854775807) (hv : RdF w v n f) (hX : ∀ j, j < 32 → X j < 256) :
    Calls Try.prog 8 #[v, .agg (row 32 X), .int .i64 at'] w fun e w' => e = .returned (.bool true) ∧ Ext w w' := by
  obtain ⟨ao, cap, rfl, hcap⟩ := hv.len
  have HV := Lib.hid hv
  clear hv
  have hr0 : 0 ≤ at' % 2 := Int.emod_nonneg _ (by omega)
  have hr1 : at' % 2 < 2 := Int.emod_lt_of_pos _ (by omega)
  go_enter Try.func8, Try.ntmps8
  go_wp2_with (refine wl_boxA rfl 43 _ rfl _ rfl ?_)
  have hBX : Blk (w.alloc (.cells (row 32 X) 43)) w.heap.size 43 (row 32 X) := Blk.new _ _ _
  refine (works_any _).mono ?_
  rintro e w1 ⟨rfl, hx1⟩
  have hB1 := hBX.ext hx1
  have hx01 : Ext w w1 := (Ext.alloc _ _).trans hx1
  clear hBX hx1
  go_wp2_with fail
  refine (bring_any at' 2 (by omega) (by omega) _).mono ?_
  rintro e w2 ⟨rfl, rfl⟩
  rcases (by omega : (at' % ((2 : Nat) : Int)).toNat = 0 ∨ (at' % ((2 : Nat) : Int)).toNat = 1) with h | h
  · rw [h]
    clear h hr0 hr1
    go_wp2_with (refine wl_makeF rfl _ _ rfl 16 16 rfl rfl (by omega) (by omega) ?_)
    have hK0 : Blk (w1.alloc (.cells (row 16 fun _ => 0) 5)) w1.heap.size 5 (row 16 fun _ => 0) := Blk.new _ _ _
    have hxk : Ext w (w1.alloc (.cells (row 16 fun _ => 0) 5)) := hx01.trans (Ext.alloc _ _)
    have hBk : Blk (w1.alloc (.cells (row 16 fun _ => 0) 5)) w.heap.size 43 (row 32 X) := hB1.alloc _
    have hgk : w.heap.size < w1.heap.size := hB1.lt
    generalize w1.heap.size = gk at hK0 hgk ⊢
    generalize w1.alloc (.cells (row 16 fun _ => 0) 5) = w3 at hK0 hxk hBk ⊢
    clear hB1 hx01
    go_loopw [8] (fun v8 wr => ∃ k : Nat, k ≤ 16 ∧ k ≤ n ∧ v8 = .int .i64 k ∧ Blk wr gk 5 (row 16 (mixF k f fun _ => 0)) ∧ Blk wr w.heap.size 43 (row 32 X) ∧ Ext w wr) (fun v8 _ => 16 - (intOf v8).toNat)
    case atStart => exact ⟨0, by omega, by omega, rfl, by rw [mixF_zero]; exact hK0, hBk, hxk⟩
    case round =>
      clear hK0 hxk hBk
      obtain ⟨k, hk, hkn, rfl, hK, hB, hx⟩ := hrel
      have HB := Lib.hid hB
      have HK := Lib.hid hK
      clear hB
      by_cases hgo : k < 16 ∧ k < n
      · have h1' : (k : Int) < 16 := by omega
        have h2' : (k : Int) < (n : Int) := by omega
        obtain ⟨g, off, cap', hs, _, hf⟩ := (HV.out.ext hx).form (by omega)
        obtain ⟨rfl, rfl⟩ : ao = some ⟨g, off, none⟩ ∧ cap = cap' := by cases hs; exact ⟨rfl, rfl⟩
        have hc := (hf k hgo.2).2
        have ht := hK.byte k hgo.1
        have hfr := hK.frozen k
        clear hf hs hK
        go_wp2_with fail
        go_roundw
        case rel =>
          refine ⟨k + 1, by omega, by omega, by go_num, ?_, HB.out.other _ (by simp; omega), hx.setCell (by simp; omega) _⟩
          rw [← mixF_upd]
          exact HK.out.setB k _
        case measure => simp [intOf]; omega
      · have hkf : row 16 (mixF k f fun _ => 0) = row 16 (keyF n f) := row_congr fun j hj => by
          simp only [mixF, keyF]
          by_cases h1 : j < k
          · rw [if_pos h1, if_pos (by omega)]
          · rw [if_neg h1, if_neg (by omega)]
        clear hK
        go_upto_region 5 with fail
        go_cut [32] from 23 to 31 (fun v32 wx => v32 = .bool false ∧ wx = wr)
        case first =>
          by_cases h1 : k < 16
          · have h1' : (k : Int) < 16 := by omega
            have h2' : ¬ (k : Int) < (n : Int) := by omega
            go_wp2_with fail
            go_meet
            case rel => exact ⟨rfl, rfl⟩
          · have h1' : ¬ (k : Int) < 16 := by omega
            go_wp2_with fail
            go_meet
            case rel => exact ⟨rfl, rfl⟩
        case rest =>
          obtain ⟨rfl, rfl⟩ := hcut
          have hkl : ∀ i, i < 16 → keyF n f i < 256 := keyF_lt HV.out.lt 16
          have hkb := HK.out
          rw [hkf] at hkb
          have HR := Lib.hid (rd_of_blk hkb hkl)
          clear HK hkf hkb
          go_wp2_with fail
          refine (new4_any _ _ _ HR.out).mono ?_
          rintro e w4 ⟨b, rfl, hC, hb, hx4⟩
          have HC := Lib.hid hC
          have hB4 := HB.out.ext hx4
          have hX4 := Lib.hid (hx.trans hx4)
          clear hC HB hx hx4 HR
          go_wp2_with fail
          generalize wrap64 (at'.tdiv 2) = Y
          refine (bring_any Y 128 (by omega) (by omega) _).mono ?_
          rintro e w5 ⟨rfl, rfl⟩
          obtain ⟨q, hq⟩ : ∃ q : Nat, q = (Y % ((128 : Nat) : Int)).toNat := ⟨_, rfl⟩
          have hq128 : q < 128 := by
            have h1 := Int.emod_lt_of_pos Y (show (0 : Int) < ((128 : Nat) : Int) by omega)
            have h2 := Int.emod_nonneg Y (show ((128 : Nat) : Int) ≠ 0 by omega)
            omega
          rw [← hq]
          clear hq
          have HB4 := Lib.hid hB4
          clear hB4
          go_upto_region 13 with (first | (refine wl_loadA rfl 23 _ rfl _ 0 16 rfl agg23 sz23 _ _ HB4.out (by simp [row_size]) (row 16 X) (row_part 32 0 16 X (by omega) |>.trans (row_congr fun j _ => by rw [Nat.zero_add])) ?_) | (refine wl_allocA rfl 23 rfl _ zero23 ?_) | (refine wl_storeA rfl 23 (.tmp 12) _ rfl _ 0 16 rfl (row 16 X) rfl sz23 (row_size _ _) _ _ (Blk.new _ _ _) (by simp [row_size]) (row_one _ _) (row 16 X) (lay_all _ _ (by simp [row_size])) ?_))
          simp only [put_no, put_lit, List.set_cons_succ, List.set_cons_zero]
          have hz0 : Blk ((w4.alloc (.cells (row 16 fun _ => 0) 23)).setRow w4.heap.size (row 16 X)) w4.heap.size 23 (row 16 X) := (Blk.new _ _ _).setRow _
          have hgz : w.heap.size < w4.heap.size := HB4.out.lt
          have hB6 : Blk ((w4.alloc (.cells (row 16 fun _ => 0) 23)).setRow w4.heap.size (row 16 X)) w.heap.size 43 (row 32 X) := (HB4.out.alloc _).setRow_other _ (by omega)
          have hX6 : Ext w4 ((w4.alloc (.cells (row 16 fun _ => 0) 23)).setRow w4.heap.size (row 16 X)) := below_setRow (g := w4.heap.size) (Ext.alloc _ _) (Nat.le_refl _) _
          have hX4' := hX4.out
          clear HB4 hX4
          obtain ⟨gz, hge⟩ : ∃ g, w4.heap.size = g := ⟨_, rfl⟩
          rw [hge] at hz0 hgz hB6 hX6 ⊢
          generalize (w4.alloc (.cells (row 16 fun _ => 0) 23)).setRow gz (row 16 X) = w6 at hz0 hB6 hX6 ⊢
          have hE6 := Lib.hid hX6
          have hE4 := Lib.hid hX4'
          clear hX6 hX4'
          have q0 := hz0.byte (q / 8) (by omega)
          obtain ⟨Bq, hBe⟩ : ∃ B : Nat, B = 2 ^ (q % 8) := ⟨_, rfl⟩
          have hBq : Bq < 256 := by rw [hBe]; exact pow_lt256 (by omega)
          have hB0 : 0 < Bq := by rw [hBe]; exact Nat.two_pow_pos _
          have hsh : (2 : Int) ^ (q % 8) % 256 = ((Bq : Nat) : Int) := by
            have e : (2 : Int) ^ (q % 8) = ((Bq : Nat) : Int) := by rw [hBe]; simp
            rw [e]
            omega
          have hXq : X (q / 8) < 256 := hX _ (by omega)
          clear hBe
          have HZ := Lib.hid hz0
          have HB := Lib.hid hB6
          clear hz0 hB6
          apply wp_region_mid 11 [.det _, .det _, .det _, .det _, .det _, .det _, .det _, .det _, .det _, .det _, .det _] (by kernel_rfl) rfl (by kernel_rfl)
          · (first | (refine wpE_move rfl rfl rfl ?_; simp only [put_lit, eval_lit, BigFrame.eval_const, List.set_cons_succ, List.set_cons_zero, List.getD_cons_succ, List.getD_cons_zero]) | (refine wpE_run rfl rfl (by simp) (fun w1 hx1 _ K hK => by go_step; exact hK _ (Ext.refl _)) ?_; simp only [put_lit, List.set_cons_succ, List.set_cons_zero]))
            (first | (refine wpE_move rfl rfl rfl ?_; simp only [put_lit, eval_lit, BigFrame.eval_const, List.set_cons_succ, List.set_cons_zero, List.getD_cons_succ, List.getD_cons_zero]) | (refine wpE_run rfl rfl (by simp) (fun w1 hx1 _ K hK => by go_step; exact hK _ (Ext.refl _)) ?_; simp only [put_lit, List.set_cons_succ, List.set_cons_zero]))
            (first | (refine wpE_move rfl rfl rfl ?_; simp only [put_lit, eval_lit, BigFrame.eval_const, List.set_cons_succ, List.set_cons_zero, List.getD_cons_succ, List.getD_cons_zero]) | (refine wpE_run rfl rfl (by simp) (fun w1 hx1 _ K hK => by go_step; exact hK _ (Ext.refl _)) ?_; simp only [put_lit, List.set_cons_succ, List.set_cons_zero]))
            (first | (refine wpE_move rfl rfl rfl ?_; simp only [put_lit, eval_lit, BigFrame.eval_const, List.set_cons_succ, List.set_cons_zero, List.getD_cons_succ, List.getD_cons_zero]) | (refine wpE_run rfl rfl (by simp) (fun w1 hx1 _ K hK => by go_step; exact hK _ (Ext.refl _)) ?_; simp only [put_lit, List.set_cons_succ, List.set_cons_zero]))
            (first | (refine wpE_move rfl rfl rfl ?_; simp only [put_lit, eval_lit, BigFrame.eval_const, List.set_cons_succ, List.set_cons_zero, List.getD_cons_succ, List.getD_cons_zero]) | (refine wpE_run rfl rfl (by simp) (fun w1 hx1 _ K hK => by go_step; exact hK _ (Ext.refl _)) ?_; simp only [put_lit, List.set_cons_succ, List.set_cons_zero]))
            (refine wpE_run rfl rfl (by simp) (fun w1 hx1 _ K hK => by have hc := hx1.cell q0; go_step; exact hK _ (Ext.refl _)) ?_); simp only [put_lit, List.set_cons_succ, List.set_cons_zero]
            (first | (refine wpE_move rfl rfl rfl ?_; simp only [put_lit, eval_lit, BigFrame.eval_const, List.set_cons_succ, List.set_cons_zero, List.getD_cons_succ, List.getD_cons_zero]) | (refine wpE_run rfl rfl (by simp) (fun w1 hx1 _ K hK => by go_step; exact hK _ (Ext.refl _)) ?_; simp only [put_lit, List.set_cons_succ, List.set_cons_zero]))
            (first | (refine wpE_move rfl rfl rfl ?_; simp only [put_lit, eval_lit, BigFrame.eval_const, List.set_cons_succ, List.set_cons_zero, List.getD_cons_succ, List.getD_cons_zero]) | (refine wpE_run rfl rfl (by simp) (fun w1 hx1 _ K hK => by go_step; exact hK _ (Ext.refl _)) ?_; simp only [put_lit, List.set_cons_succ, List.set_cons_zero]))
            (first | (refine wpE_move rfl rfl rfl ?_; simp only [put_lit, eval_lit, BigFrame.eval_const, List.set_cons_succ, List.set_cons_zero, List.getD_cons_succ, List.getD_cons_zero]) | (refine wpE_run rfl rfl (by simp) (fun w1 hx1 _ K hK => by go_step; exact hK _ (Ext.refl _)) ?_; simp only [put_lit, List.set_cons_succ, List.set_cons_zero]))
            rw [hsh]
            (first | (refine wpE_move rfl rfl rfl ?_; simp only [put_lit, eval_lit, BigFrame.eval_const, List.set_cons_succ, List.set_cons_zero, List.getD_cons_succ, List.getD_cons_zero]) | (refine wpE_run rfl rfl (by simp) (fun w1 hx1 _ K hK => by go_step; exact hK _ (Ext.refl _)) ?_; simp only [put_lit, List.set_cons_succ, List.set_cons_zero]))
            rw [u8_xor_nat _ _ hXq hBq]
            (first | (refine wpE_move rfl rfl rfl ?_; simp only [put_lit, eval_lit, BigFrame.eval_const, List.set_cons_succ, List.set_cons_zero, List.getD_cons_succ, List.getD_cons_zero]) | (refine wpE_run rfl rfl (by simp) (fun w1 hx1 _ K hK => by go_step; exact hK _ (Ext.refl _)) ?_; simp only [put_lit, List.set_cons_succ, List.set_cons_zero]))
            (refine wpE_nil ?_; intro w2 hw2 hF; simp only [List.drop_succ_cons, List.drop_zero])
            have hcc := hw2.cell q0
            have hff := (HZ.out.ext hw2).frozen (q / 8)
            clear hF q0 hsh
            go_upto_region 14 with fail
            obtain ⟨Z, hZ⟩ : ∃ Z : Nat → Nat, Z = upd X (q / 8) (X (q / 8) ^^^ Bq) := ⟨_, rfl⟩
            have hz1 : Blk (w2.setCell ⟨gz, q / 8, none⟩ (.int .u8 ((X (q / 8) ^^^ Bq : Nat) : Int))) gz 23 (row 16 Z) := by rw [hZ]; exact (HZ.out.ext hw2).setB _ _
            have hb1 : Blk (w2.setCell ⟨gz, q / 8, none⟩ (.int .u8 ((X (q / 8) ^^^ Bq : Nat) : Int))) w.heap.size 43 (row 32 X) := (HB.out.ext hw2).other _ (by simp; omega)
            have hxz := Lib.hid ((hE6.out.trans hw2).setCell (p := ⟨gz, q / 8, none⟩) (Nat.le_of_eq hge) (.int .u8 ((X (q / 8) ^^^ Bq : Nat) : Int)))
            have hZl : ∀ i, i < 16 → Z i < 256 := fun i hi => by
              rw [hZ]
              unfold upd
              split
              · exact xor_lt hXq hBq
              · exact hX i (by omega)
            have hZq : Z (q / 8) ≠ X (q / 8) := by
              rw [hZ, upd_same]
              intro h
              have h2 : (X (q / 8) ^^^ Bq) ^^^ X (q / 8) = X (q / 8) ^^^ X (q / 8) := by rw [h]
              rw [Nat.xor_comm (X (q / 8)) Bq, xor_xor_self, Nat.xor_self] at h2
              omega
            generalize w2.setCell ⟨gz, q / 8, none⟩ (.int .u8 ((X (q / 8) ^^^ Bq : Nat) : Int)) = w7 at hz1 hb1 hxz ⊢
            have HC7 := Lib.hid (HC.out.ext hxz.out)
            have HX7 := Lib.hid (hE4.out.trans hxz.out)
            clear HZ HB HC hE6 hE4 hcc hff hw2 hZ hxz
            have HZ := Lib.hid hz1
            have HB := Lib.hid hb1
            clear hz1 hb1
            have hX0l : ∀ i, i < 16 → X i < 256 := fun i hi => hX i (by omega)
            have hX1l : ∀ i, i < 16 → (fun j => X (16 + j)) i < 256 := fun i hi => hX (16 + i) (by omega)
            apply wp_region_midN 14 [.det _, .det _, .det _, .det _, .det _, .det _, .det _, .det _, .det _, .det _, .det _, .any (Fresh w7 23 (row 16 fun _ => 0)), .any (Fresh w7 23 (row 16 fun _ => 0)), .any (Fresh w7 23 (row 16 fun _ => 0))] [11, 12, 13] (fun k hk => by
              simp only [List.mem_cons, List.not_mem_nil, or_false] at hk
              rcases hk with rfl | rfl | rfl <;> exact ⟨_, rfl, rfl, newOp_alloc rfl zero23⟩) (by kernel_rfl) rfl (by kernel_rfl)
            · (first | (refine wpE_move rfl rfl rfl ?_; simp only [put_lit, eval_lit, BigFrame.eval_const, List.set_cons_succ, List.set_cons_zero, List.getD_cons_succ, List.getD_cons_zero]) | (refine wpE_run rfl rfl (by simp) (fun w1 hx1 _ K hK => by go_step; exact hK _ (Ext.refl _)) ?_; simp only [put_lit, List.set_cons_succ, List.set_cons_zero]))
              (first | (refine wpE_move rfl rfl rfl ?_; simp only [put_lit, eval_lit, BigFrame.eval_const, List.set_cons_succ, List.set_cons_zero, List.getD_cons_succ, List.getD_cons_zero]) | (refine wpE_run rfl rfl (by simp) (fun w1 hx1 _ K hK => by go_step; exact hK _ (Ext.refl _)) ?_; simp only [put_lit, List.set_cons_succ, List.set_cons_zero]))
              refine wpE_run rfl rfl (by simp) (fun w' hx' _ K hK => wp_loadA 23 _ rfl _ 0 16 rfl agg23 sz23 _ _ (HB.out.ext hx') (by simp [row_size]) (row 16 X) ((row_part 32 0 16 X (by omega)).trans (row_congr fun j _ => by rw [Nat.zero_add])) (hK _ (Ext.refl _))) ?_
              simp only [put_lit, List.set_cons_succ, List.set_cons_zero]
              (refine wpE_run rfl rfl (by simp) (fun w1 hx1 _ K hK => by go_wp2_with (go_at_call 21; refine (block_any b (4 + 7) _ (by omega) (by omega) X hX0l _ (HC7.out.ext hx1)).mono ?_; rintro e w2 ⟨rfl, hx2⟩; exact hK _ hx2)) ?_); simp only [put_lit, List.set_cons_succ, List.set_cons_zero]
              (first | (refine wpE_move rfl rfl rfl ?_; simp only [put_lit, eval_lit, BigFrame.eval_const, List.set_cons_succ, List.set_cons_zero, List.getD_cons_succ, List.getD_cons_zero]) | (refine wpE_run rfl rfl (by simp) (fun w1 hx1 _ K hK => by go_step; exact hK _ (Ext.refl _)) ?_; simp only [put_lit, List.set_cons_succ, List.set_cons_zero]))
              (first | (refine wpE_move rfl rfl rfl ?_; simp only [put_lit, eval_lit, BigFrame.eval_const, List.set_cons_succ, List.set_cons_zero, List.getD_cons_succ, List.getD_cons_zero]) | (refine wpE_run rfl rfl (by simp) (fun w1 hx1 _ K hK => by go_step; exact hK _ (Ext.refl _)) ?_; simp only [put_lit, List.set_cons_succ, List.set_cons_zero]))
              refine wpE_run rfl rfl (by simp) (fun w' hx' _ K hK => wp_loadA 23 _ rfl _ 16 16 rfl agg23 sz23 _ _ (HB.out.ext hx') (by simp [row_size]) (row 16 fun j => X (16 + j)) (row_part 32 16 16 X (by omega)) (hK _ (Ext.refl _))) ?_
              simp only [put_lit, List.set_cons_succ, List.set_cons_zero]
              (refine wpE_run rfl rfl (by simp) (fun w1 hx1 _ K hK => by go_wp2_with (go_at_call 21; refine (block_any b (4 + 7) _ (by omega) (by omega) (fun j => X (16 + j)) hX1l _ (HC7.out.ext hx1)).mono ?_; rintro e w2 ⟨rfl, hx2⟩; exact hK _ hx2)) ?_); simp only [put_lit, List.set_cons_succ, List.set_cons_zero]
              (first | (refine wpE_move rfl rfl rfl ?_; simp only [put_lit, eval_lit, BigFrame.eval_const, List.set_cons_succ, List.set_cons_zero, List.getD_cons_succ, List.getD_cons_zero]) | (refine wpE_run rfl rfl (by simp) (fun w1 hx1 _ K hK => by go_step; exact hK _ (Ext.refl _)) ?_; simp only [put_lit, List.set_cons_succ, List.set_cons_zero]))
              refine wpE_run rfl rfl (by simp) (fun w' hx' _ K hK => wp_loadA 23 _ rfl _ 0 16 rfl agg23 sz23 _ _ (HZ.out.ext hx') (by simp [row_size]) (row 16 Z) (row_whole _ _) (hK _ (Ext.refl _))) ?_
              simp only [put_lit, List.set_cons_succ, List.set_cons_zero]
              (refine wpE_run rfl rfl (by simp) (fun w1 hx1 _ K hK => by go_wp2_with (go_at_call 21; refine (block_any b (4 + 7) _ (by omega) (by omega) Z hZl _ (HC7.out.ext hx1)).mono ?_; rintro e w2 ⟨rfl, hx2⟩; exact hK _ hx2)) ?_); simp only [put_lit, List.set_cons_succ, List.set_cons_zero]
              refine wpE_alloc rfl zero23 rfl (by simp) rfl (fun u13 => ?_)
              simp only [put_lit, List.set_cons_succ, List.set_cons_zero]
              refine wpE_alloc rfl zero23 rfl (by simp) rfl (fun u14 => ?_)
              simp only [put_lit, List.set_cons_succ, List.set_cons_zero]
              refine wpE_alloc rfl zero23 rfl (by simp) rfl (fun u15 => ?_)
              simp only [put_lit, List.set_cons_succ, List.set_cons_zero]
              refine wpE_nil ?_
              intro w8 hw8 hF hD
              simp only [List.drop_succ_cons, List.drop_zero]
              obtain ⟨g15, rfl, hg15, hb15⟩ := hF _ (List.mem_cons_self ..)
              obtain ⟨g14, rfl, hg14, hb14⟩ := hF _ (List.mem_cons_of_mem _ (List.mem_cons_self ..))
              obtain ⟨g13, rfl, hg13, hb13⟩ := hF _ (List.mem_cons_of_mem _ (List.mem_cons_of_mem _ (List.mem_cons_self ..)))
              have d1 : g13 ≠ g14 := fun e => hD 11 (by decide) 12 (by decide) (by decide) 13 14 (by kernel_rfl) (by kernel_rfl) (congrArg some e)
              have d2 : g13 ≠ g15 := fun e => hD 11 (by decide) 13 (by decide) (by decide) 13 15 (by kernel_rfl) (by kernel_rfl) (congrArg some e)
              have d3 : g14 ≠ g15 := fun e => hD 12 (by decide) 13 (by decide) (by decide) 14 15 (by kernel_rfl) (by kernel_rfl) (congrArg some e)
              clear hF hD
              have hb5 : ∀ (g : Nat) (F : Nat → Nat), row 16 F = row 16 F := fun _ _ => rfl
              clear hb5
              generalize hA : blockP (4 + 7) (keysP 4 (keyF n f)) X = A
              generalize hBB : blockP (4 + 7) (keysP 4 (keyF n f)) (fun j => X (16 + j)) = BB
              generalize hDD : blockP (4 + 7) (keysP 4 (keyF n f)) Z = DD
              have EA := Lib.hid hA
              have EB := Lib.hid hBB
              have ED := Lib.hid hDD
              clear hA hBB hDD
              refine wl_storeA rfl 23 _ _ rfl g13 0 16 rfl (row 16 A) rfl sz23 (row_size _ _) _ _ hb13 (by simp [row_size]) (row_one _ _) (row 16 A) (lay_all _ _ (by simp [row_size])) ?_
              refine wl_storeA rfl 23 _ _ rfl g14 0 16 rfl (row 16 BB) rfl sz23 (row_size _ _) _ _ (hb14.setRow_other _ (Ne.symm d1)) (by simp [row_size]) (row_one _ _) (row 16 BB) (lay_all _ _ (by simp [row_size])) ?_
              refine wl_storeA rfl 23 _ _ rfl g15 0 16 rfl (row 16 DD) rfl sz23 (row_size _ _) _ _ ((hb15.setRow_other _ (Ne.symm d2)).setRow_other _ (Ne.symm d3)) (by simp [row_size]) (row_one _ _) (row 16 DD) (lay_all _ _ (by simp [row_size])) ?_
              have hgz7 := HZ.out.lt
              have hgw7 := HB.out.lt
              have hw8s := hw8.size
              have h13 := (((hb13.setRow (row 16 A)).setRow_other (row 16 BB) d1).setRow_other (row 16 DD) d2)
              have h14 := (((hb14.setRow_other (row 16 A) (Ne.symm d1)).setRow (row 16 BB)).setRow_other (row 16 DD) d3)
              have h15 := ((hb15.setRow_other (row 16 A) (Ne.symm d2)).setRow_other (row 16 BB) (Ne.symm d3)).setRow (row 16 DD)
              have hx9 : Ext w7 (((w8.setRow g13 (row 16 A)).setRow g14 (row 16 BB)).setRow g15 (row 16 DD)) := below_setRow (below_setRow (below_setRow hw8 hg13 _) hg14 _) hg15 _
              generalize ((w8.setRow g13 (row 16 A)).setRow g14 (row 16 BB)).setRow g15 (row 16 DD) = w9 at h13 h14 h15 hx9 ⊢
              clear hb13 hb14 hb15 hw8
              have HC9 := Lib.hid (HC7.out.ext hx9)
              have HX9 := Lib.hid (HX7.out.trans hx9)
              have HB9 := Lib.hid (HB.out.ext hx9)
              clear HC7 HX7 HB HZ hx9
              go_upto_region 15 with fail
              simp only [put_no, put_lit, List.set_cons_succ, List.set_cons_zero]
              have hkk : ∀ i, i < 4 + 7 → ∀ j, j < 16 → keysP 4 (keyF n f) i j < 256 := fun i hi j hj => keysP_lt 4 (by omega) (keyF n f) hkl i j hi hj
              have E1 := Lib.hid (show (eqN 16 A BB == eqN 16 X (fun j => X (16 + j))) = true by
                rw [← EA.out, ← EB.out]
                exact apart_eq (by omega) hkk hX0l hX1l)
              have E2 := Lib.hid (show eqN 16 A DD = false by
                rw [← EA.out, ← ED.out]
                exact apart_ne (by omega) hkk hX0l hZl (q / 8) (by omega) (Ne.symm hZq))
              have E0 := Lib.hid (congrArg (row 16) EA.out)
              have H13 := Lib.hid h13
              have H14 := Lib.hid h14
              have H15 := Lib.hid h15
              clear h13 h14 h15 hkk EA EB ED
              apply wp_region_mid 22 [.det _, .det _, .det _, .det _, .det _, .det _, .det _, .det _, .det _, .det _, .det _, .det _, .det _, .det _, .det _, .det _, .det _, .det _, .det _, .det _, .det _, .det _] (by kernel_rfl) rfl (by kernel_rfl)
              · skip
                refine wpE_run rfl rfl (by simp) (fun w' hx' _ K hK => wp_loadA 23 _ rfl _ 0 16 rfl agg23 sz23 _ _ (H13.out.ext hx') (by simp [row_size]) (row 16 A) (row_whole _ _) (hK _ (Ext.refl _))) ?_
                simp only [put_lit, List.set_cons_succ, List.set_cons_zero]
                refine wpE_run rfl rfl (by simp) (fun w' hx' _ K hK => wp_loadA 23 _ rfl _ 0 16 rfl agg23 sz23 _ _ (H14.out.ext hx') (by simp [row_size]) (row 16 BB) (row_whole _ _) (hK _ (Ext.refl _))) ?_
                simp only [put_lit, List.set_cons_succ, List.set_cons_zero]
                refine wpE_eql23 rfl (.tmp 76) (.tmp 77) rfl A BB rfl rfl ?_
                simp only [put_lit, List.set_cons_succ, List.set_cons_zero]
                (first | (refine wpE_move rfl rfl rfl ?_; simp only [put_lit, eval_lit, BigFrame.eval_const, List.set_cons_succ, List.set_cons_zero, List.getD_cons_succ, List.getD_cons_zero]) | (refine wpE_run rfl rfl (by simp) (fun w1 hx1 _ K hK => by go_step; exact hK _ (Ext.refl _)) ?_; simp only [put_lit, List.set_cons_succ, List.set_cons_zero]))
                refine wpE_run rfl rfl (by simp) (fun w' hx' _ K hK => wp_loadA 23 _ rfl _ 0 16 rfl agg23 sz23 _ _ (HB9.out.ext hx') (by simp [row_size]) (row 16 X) ((row_part 32 0 16 X (by omega)).trans (row_congr fun j _ => by rw [Nat.zero_add])) (hK _ (Ext.refl _))) ?_
                simp only [put_lit, List.set_cons_succ, List.set_cons_zero]
                (first | (refine wpE_move rfl rfl rfl ?_; simp only [put_lit, eval_lit, BigFrame.eval_const, List.set_cons_succ, List.set_cons_zero, List.getD_cons_succ, List.getD_cons_zero]) | (refine wpE_run rfl rfl (by simp) (fun w1 hx1 _ K hK => by go_step; exact hK _ (Ext.refl _)) ?_; simp only [put_lit, List.set_cons_succ, List.set_cons_zero]))
                refine wpE_run rfl rfl (by simp) (fun w' hx' _ K hK => wp_loadA 23 _ rfl _ 16 16 rfl agg23 sz23 _ _ (HB9.out.ext hx') (by simp [row_size]) (row 16 fun j => X (16 + j)) (row_part 32 16 16 X (by omega)) (hK _ (Ext.refl _))) ?_
                simp only [put_lit, List.set_cons_succ, List.set_cons_zero]
                refine wpE_eql23 rfl (.tmp 80) (.tmp 82) rfl X (fun j => X (16 + j)) rfl rfl ?_
                simp only [put_lit, List.set_cons_succ, List.set_cons_zero]
                (first | (refine wpE_move rfl rfl rfl ?_; simp only [put_lit, eval_lit, BigFrame.eval_const, List.set_cons_succ, List.set_cons_zero, List.getD_cons_succ, List.getD_cons_zero]) | (refine wpE_run rfl rfl (by simp) (fun w1 hx1 _ K hK => by go_step; exact hK _ (Ext.refl _)) ?_; simp only [put_lit, List.set_cons_succ, List.set_cons_zero]))
                rw [E1.out]
                (first | (refine wpE_move rfl rfl rfl ?_; simp only [put_lit, eval_lit, BigFrame.eval_const, List.set_cons_succ, List.set_cons_zero, List.getD_cons_succ, List.getD_cons_zero]) | (refine wpE_run rfl rfl (by simp) (fun w1 hx1 _ K hK => by go_step; exact hK _ (Ext.refl _)) ?_; simp only [put_lit, List.set_cons_succ, List.set_cons_zero]))
                refine wpE_run rfl rfl (by simp) (fun w' hx' _ K hK => wp_loadA 23 _ rfl _ 0 16 rfl agg23 sz23 _ _ (H13.out.ext hx') (by simp [row_size]) (row 16 A) (row_whole _ _) (hK _ (Ext.refl _))) ?_
                simp only [put_lit, List.set_cons_succ, List.set_cons_zero]
                refine wpE_run rfl rfl (by simp) (fun w' hx' _ K hK => wp_loadA 23 _ rfl _ 0 16 rfl agg23 sz23 _ _ (H15.out.ext hx') (by simp [row_size]) (row 16 DD) (row_whole _ _) (hK _ (Ext.refl _))) ?_
                simp only [put_lit, List.set_cons_succ, List.set_cons_zero]
                refine wpE_neq23 rfl (.tmp 86) (.tmp 87) rfl A DD rfl rfl ?_
                rw [E2.out]
                simp only [put_lit, List.set_cons_succ, List.set_cons_zero]
                (first | (refine wpE_move rfl rfl rfl ?_; simp only [put_lit, eval_lit, BigFrame.eval_const, List.set_cons_succ, List.set_cons_zero, List.getD_cons_succ, List.getD_cons_zero]) | (refine wpE_run rfl rfl (by simp) (fun w1 hx1 _ K hK => by go_step; exact hK _ (Ext.refl _)) ?_; simp only [put_lit, List.set_cons_succ, List.set_cons_zero]))
                (first | (refine wpE_move rfl rfl rfl ?_; simp only [put_lit, eval_lit, BigFrame.eval_const, List.set_cons_succ, List.set_cons_zero, List.getD_cons_succ, List.getD_cons_zero]) | (refine wpE_run rfl rfl (by simp) (fun w1 hx1 _ K hK => by go_step; exact hK _ (Ext.refl _)) ?_; simp only [put_lit, List.set_cons_succ, List.set_cons_zero]))
                refine wpE_run rfl rfl (by simp) (fun w' hx' _ K hK => wp_loadA 23 _ rfl _ 0 16 rfl agg23 sz23 _ _ (H13.out.ext hx') (by simp [row_size]) (row 16 A) (row_whole _ _) (hK _ (Ext.refl _))) ?_
                simp only [put_lit, List.set_cons_succ, List.set_cons_zero]
                (first | (refine wpE_move rfl rfl rfl ?_; simp only [put_lit, eval_lit, BigFrame.eval_const, List.set_cons_succ, List.set_cons_zero, List.getD_cons_succ, List.getD_cons_zero]) | (refine wpE_run rfl rfl (by simp) (fun w1 hx1 _ K hK => by go_step; exact hK _ (Ext.refl _)) ?_; simp only [put_lit, List.set_cons_succ, List.set_cons_zero]))
                (first | (refine wpE_move rfl rfl rfl ?_; simp only [put_lit, eval_lit, BigFrame.eval_const, List.set_cons_succ, List.set_cons_zero, List.getD_cons_succ, List.getD_cons_zero]) | (refine wpE_run rfl rfl (by simp) (fun w1 hx1 _ K hK => by go_step; exact hK _ (Ext.refl _)) ?_; simp only [put_lit, List.set_cons_succ, List.set_cons_zero]))
                refine wpE_run rfl rfl (by simp) (fun w' hx' _ K hK => wp_loadA 23 _ rfl _ 0 16 rfl agg23 sz23 _ _ (HB9.out.ext hx') (by simp [row_size]) (row 16 X) ((row_part 32 0 16 X (by omega)).trans (row_congr fun j _ => by rw [Nat.zero_add])) (hK _ (Ext.refl _))) ?_
                simp only [put_lit, List.set_cons_succ, List.set_cons_zero]
                (refine wpE_run rfl rfl (by simp) (fun w1 hx1 _ K hK => by go_wp2_with (go_at_call 21; refine (block_any b (4 + 7) _ (by omega) (by omega) X hX0l _ (HC9.out.ext hx1)).mono ?_; rintro e w2 ⟨rfl, hx2⟩; exact hK _ hx2)) ?_); simp only [put_lit, List.set_cons_succ, List.set_cons_zero]
                rw [E0.out]
                refine wpE_eql23 rfl (.tmp 91) (.tmp 95) rfl A A rfl rfl ?_
                rw [eqN_refl]
                simp only [put_lit, List.set_cons_succ, List.set_cons_zero]
                (first | (refine wpE_move rfl rfl rfl ?_; simp only [put_lit, eval_lit, BigFrame.eval_const, List.set_cons_succ, List.set_cons_zero, List.getD_cons_succ, List.getD_cons_zero]) | (refine wpE_run rfl rfl (by simp) (fun w1 hx1 _ K hK => by go_step; exact hK _ (Ext.refl _)) ?_; simp only [put_lit, List.set_cons_succ, List.set_cons_zero]))
                (refine wpE_nil ?_; intro w2 hw2 hF; simp only [List.drop_succ_cons, List.drop_zero])
                go_wp2_with fail
                go_ret
                exact ⟨rfl, HX9.out.trans hw2⟩
  · rw [h]
    clear h hr0 hr1
    go_wp2_with (refine wl_makeF rfl _ _ rfl 32 32 rfl rfl (by omega) (by omega) ?_)
    have hK0 : Blk (w1.alloc (.cells (row 32 fun _ => 0) 5)) w1.heap.size 5 (row 32 fun _ => 0) := Blk.new _ _ _
    have hxk : Ext w (w1.alloc (.cells (row 32 fun _ => 0) 5)) := hx01.trans (Ext.alloc _ _)
    have hBk : Blk (w1.alloc (.cells (row 32 fun _ => 0) 5)) w.heap.size 43 (row 32 X) := hB1.alloc _
    have hgk : w.heap.size < w1.heap.size := hB1.lt
    generalize w1.heap.size = gk at hK0 hgk ⊢
    generalize w1.alloc (.cells (row 32 fun _ => 0) 5) = w3 at hK0 hxk hBk ⊢
    clear hB1 hx01
    go_loopw [8] (fun v8 wr => ∃ k : Nat, k ≤ 32 ∧ k ≤ n ∧ v8 = .int .i64 k ∧ Blk wr gk 5 (row 32 (mixF k f fun _ => 0)) ∧ Blk wr w.heap.size 43 (row 32 X) ∧ Ext w wr) (fun v8 _ => 32 - (intOf v8).toNat)
    case atStart => exact ⟨0, by omega, by omega, rfl, by rw [mixF_zero]; exact hK0, hBk, hxk⟩
    case round =>
      clear hK0 hxk hBk
      obtain ⟨k, hk, hkn, rfl, hK, hB, hx⟩ := hrel
      have HB := Lib.hid hB
      have HK := Lib.hid hK
      clear hB
      by_cases hgo : k < 32 ∧ k < n
      · have h1' : (k : Int) < 32 := by omega
        have h2' : (k : Int) < (n : Int) := by omega
        obtain ⟨g, off, cap', hs, _, hf⟩ := (HV.out.ext hx).form (by omega)
        obtain ⟨rfl, rfl⟩ : ao = some ⟨g, off, none⟩ ∧ cap = cap' := by cases hs; exact ⟨rfl, rfl⟩
        have hc := (hf k hgo.2).2
        have ht := hK.byte k hgo.1
        have hfr := hK.frozen k
        clear hf hs hK
        go_wp2_with fail
        go_roundw
        case rel =>
          refine ⟨k + 1, by omega, by omega, by go_num, ?_, HB.out.other _ (by simp; omega), hx.setCell (by simp; omega) _⟩
          rw [← mixF_upd]
          exact HK.out.setB k _
        case measure => simp [intOf]; omega
      · have hkf : row 32 (mixF k f fun _ => 0) = row 32 (keyF n f) := row_congr fun j hj => by
          simp only [mixF, keyF]
          by_cases h1 : j < k
          · rw [if_pos h1, if_pos (by omega)]
          · rw [if_neg h1, if_neg (by omega)]
        clear hK
        go_upto_region 5 with fail
        go_cut [32] from 23 to 31 (fun v32 wx => v32 = .bool false ∧ wx = wr)
        case first =>
          by_cases h1 : k < 32
          · have h1' : (k : Int) < 32 := by omega
            have h2' : ¬ (k : Int) < (n : Int) := by omega
            go_wp2_with fail
            go_meet
            case rel => exact ⟨rfl, rfl⟩
          · have h1' : ¬ (k : Int) < 32 := by omega
            go_wp2_with fail
            go_meet
            case rel => exact ⟨rfl, rfl⟩
        case rest =>
          obtain ⟨rfl, rfl⟩ := hcut
          have hkl : ∀ i, i < 32 → keyF n f i < 256 := keyF_lt HV.out.lt 32
          have hkb := HK.out
          rw [hkf] at hkb
          have HR := Lib.hid (rd_of_blk hkb hkl)
          clear HK hkf hkb
          go_wp2_with fail
          refine (new8_any _ _ _ HR.out).mono ?_
          rintro e w4 ⟨b, rfl, hC, hb, hx4⟩
          have HC := Lib.hid hC
          have hB4 := HB.out.ext hx4
          have hX4 := Lib.hid (hx.trans hx4)
          clear hC HB hx hx4 HR
          go_wp2_with fail
          generalize wrap64 (at'.tdiv 2) = Y
          refine (bring_any Y 128 (by omega) (by omega) _).mono ?_
          rintro e w5 ⟨rfl, rfl⟩
          obtain ⟨q, hq⟩ : ∃ q : Nat, q = (Y % ((128 : Nat) : Int)).toNat := ⟨_, rfl⟩
          have hq128 : q < 128 := by
            have h1 := Int.emod_lt_of_pos Y (show (0 : Int) < ((128 : Nat) : Int) by omega)
            have h2 := Int.emod_nonneg Y (show ((128 : Nat) : Int) ≠ 0 by omega)
            omega
          rw [← hq]
          clear hq
          have HB4 := Lib.hid hB4
          clear hB4
          go_upto_region 13 with (first | (refine wl_loadA rfl 23 _ rfl _ 0 16 rfl agg23 sz23 _ _ HB4.out (by simp [row_size]) (row 16 X) (row_part 32 0 16 X (by omega) |>.trans (row_congr fun j _ => by rw [Nat.zero_add])) ?_) | (refine wl_allocA rfl 23 rfl _ zero23 ?_) | (refine wl_storeA rfl 23 (.tmp 12) _ rfl _ 0 16 rfl (row 16 X) rfl sz23 (row_size _ _) _ _ (Blk.new _ _ _) (by simp [row_size]) (row_one _ _) (row 16 X) (lay_all _ _ (by simp [row_size])) ?_))
          simp only [put_no, put_lit, List.set_cons_succ, List.set_cons_zero]
          have hz0 : Blk ((w4.alloc (.cells (row 16 fun _ => 0) 23)).setRow w4.heap.size (row 16 X)) w4.heap.size 23 (row 16 X) := (Blk.new _ _ _).setRow _
          have hgz : w.heap.size < w4.heap.size := HB4.out.lt
          have hB6 : Blk ((w4.alloc (.cells (row 16 fun _ => 0) 23)).setRow w4.heap.size (row 16 X)) w.heap.size 43 (row 32 X) := (HB4.out.alloc _).setRow_other _ (by omega)
          have hX6 : Ext w4 ((w4.alloc (.cells (row 16 fun _ => 0) 23)).setRow w4.heap.size (row 16 X)) := below_setRow (g := w4.heap.size) (Ext.alloc _ _) (Nat.le_refl _) _
          have hX4' := hX4.out
          clear HB4 hX4
          obtain ⟨gz, hge⟩ : ∃ g, w4.heap.size = g := ⟨_, rfl⟩
          rw [hge] at hz0 hgz hB6 hX6 ⊢
          generalize (w4.alloc (.cells (row 16 fun _ => 0) 23)).setRow gz (row 16 X) = w6 at hz0 hB6 hX6 ⊢
          have hE6 := Lib.hid hX6
          have hE4 := Lib.hid hX4'
          clear hX6 hX4'
          have q0 := hz0.byte (q / 8) (by omega)
          obtain ⟨Bq, hBe⟩ : ∃ B : Nat, B = 2 ^ (q % 8) := ⟨_, rfl⟩
          have hBq : Bq < 256 := by rw [hBe]; exact pow_lt256 (by omega)
          have hB0 : 0 < Bq := by rw [hBe]; exact Nat.two_pow_pos _
          have hsh : (2 : Int) ^ (q % 8) % 256 = ((Bq : Nat) : Int) := by
            have e : (2 : Int) ^ (q % 8) = ((Bq : Nat) : Int) := by rw [hBe]; simp
            rw [e]
            omega
          have hXq : X (q / 8) < 256 := hX _ (by omega)
          clear hBe
          have HZ := Lib.hid hz0
          have HB := Lib.hid hB6
          clear hz0 hB6
          apply wp_region_mid 11 [.det _, .det _, .det _, .det _, .det _, .det _, .det _, .det _, .det _, .det _, .det _] (by kernel_rfl) rfl (by kernel_rfl)
          · (first | (refine wpE_move rfl rfl rfl ?_; simp only [put_lit, eval_lit, BigFrame.eval_const, List.set_cons_succ, List.set_cons_zero, List.getD_cons_succ, List.getD_cons_zero]) | (refine wpE_run rfl rfl (by simp) (fun w1 hx1 _ K hK => by go_step; exact hK _ (Ext.refl _)) ?_; simp only [put_lit, List.set_cons_succ, List.set_cons_zero]))
            (first | (refine wpE_move rfl rfl rfl ?_; simp only [put_lit, eval_lit, BigFrame.eval_const, List.set_cons_succ, List.set_cons_zero, List.getD_cons_succ, List.getD_cons_zero]) | (refine wpE_run rfl rfl (by simp) (fun w1 hx1 _ K hK => by go_step; exact hK _ (Ext.refl _)) ?_; simp only [put_lit, List.set_cons_succ, List.set_cons_zero]))
            (first | (refine wpE_move rfl rfl rfl ?_; simp only [put_lit, eval_lit, BigFrame.eval_const, List.set_cons_succ, List.set_cons_zero, List.getD_cons_succ, List.getD_cons_zero]) | (refine wpE_run rfl rfl (by simp) (fun w1 hx1 _ K hK => by go_step; exact hK _ (Ext.refl _)) ?_; simp only [put_lit, List.set_cons_succ, List.set_cons_zero]))
            (first | (refine wpE_move rfl rfl rfl ?_; simp only [put_lit, eval_lit, BigFrame.eval_const, List.set_cons_succ, List.set_cons_zero, List.getD_cons_succ, List.getD_cons_zero]) | (refine wpE_run rfl rfl (by simp) (fun w1 hx1 _ K hK => by go_step; exact hK _ (Ext.refl _)) ?_; simp only [put_lit, List.set_cons_succ, List.set_cons_zero]))
            (first | (refine wpE_move rfl rfl rfl ?_; simp only [put_lit, eval_lit, BigFrame.eval_const, List.set_cons_succ, List.set_cons_zero, List.getD_cons_succ, List.getD_cons_zero]) | (refine wpE_run rfl rfl (by simp) (fun w1 hx1 _ K hK => by go_step; exact hK _ (Ext.refl _)) ?_; simp only [put_lit, List.set_cons_succ, List.set_cons_zero]))
            (refine wpE_run rfl rfl (by simp) (fun w1 hx1 _ K hK => by have hc := hx1.cell q0; go_step; exact hK _ (Ext.refl _)) ?_); simp only [put_lit, List.set_cons_succ, List.set_cons_zero]
            (first | (refine wpE_move rfl rfl rfl ?_; simp only [put_lit, eval_lit, BigFrame.eval_const, List.set_cons_succ, List.set_cons_zero, List.getD_cons_succ, List.getD_cons_zero]) | (refine wpE_run rfl rfl (by simp) (fun w1 hx1 _ K hK => by go_step; exact hK _ (Ext.refl _)) ?_; simp only [put_lit, List.set_cons_succ, List.set_cons_zero]))
            (first | (refine wpE_move rfl rfl rfl ?_; simp only [put_lit, eval_lit, BigFrame.eval_const, List.set_cons_succ, List.set_cons_zero, List.getD_cons_succ, List.getD_cons_zero]) | (refine wpE_run rfl rfl (by simp) (fun w1 hx1 _ K hK => by go_step; exact hK _ (Ext.refl _)) ?_; simp only [put_lit, List.set_cons_succ, List.set_cons_zero]))
            (first | (refine wpE_move rfl rfl rfl ?_; simp only [put_lit, eval_lit, BigFrame.eval_const, List.set_cons_succ, List.set_cons_zero, List.getD_cons_succ, List.getD_cons_zero]) | (refine wpE_run rfl rfl (by simp) (fun w1 hx1 _ K hK => by go_step; exact hK _ (Ext.refl _)) ?_; simp only [put_lit, List.set_cons_succ, List.set_cons_zero]))
            rw [hsh]
            (first | (refine wpE_move rfl rfl rfl ?_; simp only [put_lit, eval_lit, BigFrame.eval_const, List.set_cons_succ, List.set_cons_zero, List.getD_cons_succ, List.getD_cons_zero]) | (refine wpE_run rfl rfl (by simp) (fun w1 hx1 _ K hK => by go_step; exact hK _ (Ext.refl _)) ?_; simp only [put_lit, List.set_cons_succ, List.set_cons_zero]))
            rw [u8_xor_nat _ _ hXq hBq]
            (first | (refine wpE_move rfl rfl rfl ?_; simp only [put_lit, eval_lit, BigFrame.eval_const, List.set_cons_succ, List.set_cons_zero, List.getD_cons_succ, List.getD_cons_zero]) | (refine wpE_run rfl rfl (by simp) (fun w1 hx1 _ K hK => by go_step; exact hK _ (Ext.refl _)) ?_; simp only [put_lit, List.set_cons_succ, List.set_cons_zero]))
            (refine wpE_nil ?_; intro w2 hw2 hF; simp only [List.drop_succ_cons, List.drop_zero])
            have hcc := hw2.cell q0
            have hff := (HZ.out.ext hw2).frozen (q / 8)
            clear hF q0 hsh
            go_upto_region 14 with fail
            obtain ⟨Z, hZ⟩ : ∃ Z : Nat → Nat, Z = upd X (q / 8) (X (q / 8) ^^^ Bq) := ⟨_, rfl⟩
            have hz1 : Blk (w2.setCell ⟨gz, q / 8, none⟩ (.int .u8 ((X (q / 8) ^^^ Bq : Nat) : Int))) gz 23 (row 16 Z) := by rw [hZ]; exact (HZ.out.ext hw2).setB _ _
            have hb1 : Blk (w2.setCell ⟨gz, q / 8, none⟩ (.int .u8 ((X (q / 8) ^^^ Bq : Nat) : Int))) w.heap.size 43 (row 32 X) := (HB.out.ext hw2).other _ (by simp; omega)
            have hxz := Lib.hid ((hE6.out.trans hw2).setCell (p := ⟨gz, q / 8, none⟩) (Nat.le_of_eq hge) (.int .u8 ((X (q / 8) ^^^ Bq : Nat) : Int)))
            have hZl : ∀ i, i < 16 → Z i < 256 := fun i hi => by
              rw [hZ]
              unfold upd
              split
              · exact xor_lt hXq hBq
              · exact hX i (by omega)
            have hZq : Z (q / 8) ≠ X (q / 8) := by
              rw [hZ, upd_same]
              intro h
              have h2 : (X (q / 8) ^^^ Bq) ^^^ X (q / 8) = X (q / 8) ^^^ X (q / 8) := by rw [h]
              rw [Nat.xor_comm (X (q / 8)) Bq, xor_xor_self, Nat.xor_self] at h2
              omega
            generalize w2.setCell ⟨gz, q / 8, none⟩ (.int .u8 ((X (q / 8) ^^^ Bq : Nat) : Int)) = w7 at hz1 hb1 hxz ⊢
            have HC7 := Lib.hid (HC.out.ext hxz.out)
            have HX7 := Lib.hid (hE4.out.trans hxz.out)
            clear HZ HB HC hE6 hE4 hcc hff hw2 hZ hxz
            have HZ := Lib.hid hz1
            have HB := Lib.hid hb1
            clear hz1 hb1
            have hX0l : ∀ i, i < 16 → X i < 256 := fun i hi => hX i (by omega)
            have hX1l : ∀ i, i < 16 → (fun j => X (16 + j)) i < 256 := fun i hi => hX (16 + i) (by omega)
            apply wp_region_midN 14 [.det _, .det _, .det _, .det _, .det _, .det _, .det _, .det _, .det _, .det _, .det _, .any (Fresh w7 23 (row 16 fun _ => 0)), .any (Fresh w7 23 (row 16 fun _ => 0)), .any (Fresh w7 23 (row 16 fun _ => 0))] [11, 12, 13] (fun k hk => by
              simp only [List.mem_cons, List.not_mem_nil, or_false] at hk
              rcases hk with rfl | rfl | rfl <;> exact ⟨_, rfl, rfl, newOp_alloc rfl zero23⟩) (by kernel_rfl) rfl (by kernel_rfl)
            · (first | (refine wpE_move rfl rfl rfl ?_; simp only [put_lit, eval_lit, BigFrame.eval_const, List.set_cons_succ, List.set_cons_zero, List.getD_cons_succ, List.getD_cons_zero]) | (refine wpE_run rfl rfl (by simp) (fun w1 hx1 _ K hK => by go_step; exact hK _ (Ext.refl _)) ?_; simp only [put_lit, List.set_cons_succ, List.set_cons_zero]))
              (first | (refine wpE_move rfl rfl rfl ?_; simp only [put_lit, eval_lit, BigFrame.eval_const, List.set_cons_succ, List.set_cons_zero, List.getD_cons_succ, List.getD_cons_zero]) | (refine wpE_run rfl rfl (by simp) (fun w1 hx1 _ K hK => by go_step; exact hK _ (Ext.refl _)) ?_; simp only [put_lit, List.set_cons_succ, List.set_cons_zero]))
              refine wpE_run rfl rfl (by simp) (fun w' hx' _ K hK => wp_loadA 23 _ rfl _ 0 16 rfl agg23 sz23 _ _ (HB.out.ext hx') (by simp [row_size]) (row 16 X) ((row_part 32 0 16 X (by omega)).trans (row_congr fun j _ => by rw [Nat.zero_add])) (hK _ (Ext.refl _))) ?_
              simp only [put_lit, List.set_cons_succ, List.set_cons_zero]
              (refine wpE_run rfl rfl (by simp) (fun w1 hx1 _ K hK => by go_wp2_with (go_at_call 21; refine (block_any b (8 + 7) _ (by omega) (by omega) X hX0l _ (HC7.out.ext hx1)).mono ?_; rintro e w2 ⟨rfl, hx2⟩; exact hK _ hx2)) ?_); simp only [put_lit, List.set_cons_succ, List.set_cons_zero]
              (first | (refine wpE_move rfl rfl rfl ?_; simp only [put_lit, eval_lit, BigFrame.eval_const, List.set_cons_succ, List.set_cons_zero, List.getD_cons_succ, List.getD_cons_zero]) | (refine wpE_run rfl rfl (by simp) (fun w1 hx1 _ K hK => by go_step; exact hK _ (Ext.refl _)) ?_; simp only [put_lit, List.set_cons_succ, List.set_cons_zero]))
              (first | (refine wpE_move rfl rfl rfl ?_; simp only [put_lit, eval_lit, BigFrame.eval_const, List.set_cons_succ, List.set_cons_zero, List.getD_cons_succ, List.getD_cons_zero]) | (refine wpE_run rfl rfl (by simp) (fun w1 hx1 _ K hK => by go_step; exact hK _ (Ext.refl _)) ?_; simp only [put_lit, List.set_cons_succ, List.set_cons_zero]))
              refine wpE_run rfl rfl (by simp) (fun w' hx' _ K hK => wp_loadA 23 _ rfl _ 16 16 rfl agg23 sz23 _ _ (HB.out.ext hx') (by simp [row_size]) (row 16 fun j => X (16 + j)) (row_part 32 16 16 X (by omega)) (hK _ (Ext.refl _))) ?_
              simp only [put_lit, List.set_cons_succ, List.set_cons_zero]
              (refine wpE_run rfl rfl (by simp) (fun w1 hx1 _ K hK => by go_wp2_with (go_at_call 21; refine (block_any b (8 + 7) _ (by omega) (by omega) (fun j => X (16 + j)) hX1l _ (HC7.out.ext hx1)).mono ?_; rintro e w2 ⟨rfl, hx2⟩; exact hK _ hx2)) ?_); simp only [put_lit, List.set_cons_succ, List.set_cons_zero]
              (first | (refine wpE_move rfl rfl rfl ?_; simp only [put_lit, eval_lit, BigFrame.eval_const, List.set_cons_succ, List.set_cons_zero, List.getD_cons_succ, List.getD_cons_zero]) | (refine wpE_run rfl rfl (by simp) (fun w1 hx1 _ K hK => by go_step; exact hK _ (Ext.refl _)) ?_; simp only [put_lit, List.set_cons_succ, List.set_cons_zero]))
              refine wpE_run rfl rfl (by simp) (fun w' hx' _ K hK => wp_loadA 23 _ rfl _ 0 16 rfl agg23 sz23 _ _ (HZ.out.ext hx') (by simp [row_size]) (row 16 Z) (row_whole _ _) (hK _ (Ext.refl _))) ?_
              simp only [put_lit, List.set_cons_succ, List.set_cons_zero]
              (refine wpE_run rfl rfl (by simp) (fun w1 hx1 _ K hK => by go_wp2_with (go_at_call 21; refine (block_any b (8 + 7) _ (by omega) (by omega) Z hZl _ (HC7.out.ext hx1)).mono ?_; rintro e w2 ⟨rfl, hx2⟩; exact hK _ hx2)) ?_); simp only [put_lit, List.set_cons_succ, List.set_cons_zero]
              refine wpE_alloc rfl zero23 rfl (by simp) rfl (fun u13 => ?_)
              simp only [put_lit, List.set_cons_succ, List.set_cons_zero]
              refine wpE_alloc rfl zero23 rfl (by simp) rfl (fun u14 => ?_)
              simp only [put_lit, List.set_cons_succ, List.set_cons_zero]
              refine wpE_alloc rfl zero23 rfl (by simp) rfl (fun u15 => ?_)
              simp only [put_lit, List.set_cons_succ, List.set_cons_zero]
              refine wpE_nil ?_
              intro w8 hw8 hF hD
              simp only [List.drop_succ_cons, List.drop_zero]
              obtain ⟨g15, rfl, hg15, hb15⟩ := hF _ (List.mem_cons_self ..)
              obtain ⟨g14, rfl, hg14, hb14⟩ := hF _ (List.mem_cons_of_mem _ (List.mem_cons_self ..))
              obtain ⟨g13, rfl, hg13, hb13⟩ := hF _ (List.mem_cons_of_mem _ (List.mem_cons_of_mem _ (List.mem_cons_self ..)))
              have d1 : g13 ≠ g14 := fun e => hD 11 (by decide) 12 (by decide) (by decide) 13 14 (by kernel_rfl) (by kernel_rfl) (congrArg some e)
              have d2 : g13 ≠ g15 := fun e => hD 11 (by decide) 13 (by decide) (by decide) 13 15 (by kernel_rfl) (by kernel_rfl) (congrArg some e)
              have d3 : g14 ≠ g15 := fun e => hD 12 (by decide) 13 (by decide) (by decide) 14 15 (by kernel_rfl) (by kernel_rfl) (congrArg some e)
              clear hF hD
              have hb5 : ∀ (g : Nat) (F : Nat → Nat), row 16 F = row 16 F := fun _ _ => rfl
              clear hb5
              generalize hA : blockP (8 + 7) (keysP 8 (keyF n f)) X = A
              generalize hBB : blockP (8 + 7) (keysP 8 (keyF n f)) (fun j => X (16 + j)) = BB
              generalize hDD : blockP (8 + 7) (keysP 8 (keyF n f)) Z = DD
              have EA := Lib.hid hA
              have EB := Lib.hid hBB
              have ED := Lib.hid hDD
              clear hA hBB hDD
              refine wl_storeA rfl 23 _ _ rfl g13 0 16 rfl (row 16 A) rfl sz23 (row_size _ _) _ _ hb13 (by simp [row_size]) (row_one _ _) (row 16 A) (lay_all _ _ (by simp [row_size])) ?_
              refine wl_storeA rfl 23 _ _ rfl g14 0 16 rfl (row 16 BB) rfl sz23 (row_size _ _) _ _ (hb14.setRow_other _ (Ne.symm d1)) (by simp [row_size]) (row_one _ _) (row 16 BB) (lay_all _ _ (by simp [row_size])) ?_
              refine wl_storeA rfl 23 _ _ rfl g15 0 16 rfl (row 16 DD) rfl sz23 (row_size _ _) _ _ ((hb15.setRow_other _ (Ne.symm d2)).setRow_other _ (Ne.symm d3)) (by simp [row_size]) (row_one _ _) (row 16 DD) (lay_all _ _ (by simp [row_size])) ?_
              have hgz7 := HZ.out.lt
              have hgw7 := HB.out.lt
              have hw8s := hw8.size
              have h13 := (((hb13.setRow (row 16 A)).setRow_other (row 16 BB) d1).setRow_other (row 16 DD) d2)
              have h14 := (((hb14.setRow_other (row 16 A) (Ne.symm d1)).setRow (row 16 BB)).setRow_other (row 16 DD) d3)
              have h15 := ((hb15.setRow_other (row 16 A) (Ne.symm d2)).setRow_other (row 16 BB) (Ne.symm d3)).setRow (row 16 DD)
              have hx9 : Ext w7 (((w8.setRow g13 (row 16 A)).setRow g14 (row 16 BB)).setRow g15 (row 16 DD)) := below_setRow (below_setRow (below_setRow hw8 hg13 _) hg14 _) hg15 _
              generalize ((w8.setRow g13 (row 16 A)).setRow g14 (row 16 BB)).setRow g15 (row 16 DD) = w9 at h13 h14 h15 hx9 ⊢
              clear hb13 hb14 hb15 hw8
              have HC9 := Lib.hid (HC7.out.ext hx9)
              have HX9 := Lib.hid (HX7.out.trans hx9)
              have HB9 := Lib.hid (HB.out.ext hx9)
              clear HC7 HX7 HB HZ hx9
              go_upto_region 15 with fail
              simp only [put_no, put_lit, List.set_cons_succ, List.set_cons_zero]
              have hkk : ∀ i, i < 8 + 7 → ∀ j, j < 16 → keysP 8 (keyF n f) i j < 256 := fun i hi j hj => keysP_lt 8 (by omega) (keyF n f) hkl i j hi hj
              have E1 := Lib.hid (show (eqN 16 A BB == eqN 16 X (fun j => X (16 + j))) = true by
                rw [← EA.out, ← EB.out]
                exact apart_eq (by omega) hkk hX0l hX1l)
              have E2 := Lib.hid (show eqN 16 A DD = false by
                rw [← EA.out, ← ED.out]
                exact apart_ne (by omega) hkk hX0l hZl (q / 8) (by omega) (Ne.symm hZq))
              have E0 := Lib.hid (congrArg (row 16) EA.out)
              have H13 := Lib.hid h13
              have H14 := Lib.hid h14
              have H15 := Lib.hid h15
              clear h13 h14 h15 hkk EA EB ED
              apply wp_region_mid 22 [.det _, .det _, .det _, .det _, .det _, .det _, .det _, .det _, .det _, .det _, .det _, .det _, .det _, .det _, .det _, .det _, .det _, .det _, .det _, .det _, .det _, .det _] (by kernel_rfl) rfl (by kernel_rfl)
              · skip
                refine wpE_run rfl rfl (by simp) (fun w' hx' _ K hK => wp_loadA 23 _ rfl _ 0 16 rfl agg23 sz23 _ _ (H13.out.ext hx') (by simp [row_size]) (row 16 A) (row_whole _ _) (hK _ (Ext.refl _))) ?_
                simp only [put_lit, List.set_cons_succ, List.set_cons_zero]
                refine wpE_run rfl rfl (by simp) (fun w' hx' _ K hK => wp_loadA 23 _ rfl _ 0 16 rfl agg23 sz23 _ _ (H14.out.ext hx') (by simp [row_size]) (row 16 BB) (row_whole _ _) (hK _ (Ext.refl _))) ?_
                simp only [put_lit, List.set_cons_succ, List.set_cons_zero]
                refine wpE_eql23 rfl (.tmp 76) (.tmp 77) rfl A BB rfl rfl ?_
                simp only [put_lit, List.set_cons_succ, List.set_cons_zero]
                (first | (refine wpE_move rfl rfl rfl ?_; simp only [put_lit, eval_lit, BigFrame.eval_const, List.set_cons_succ, List.set_cons_zero, List.getD_cons_succ, List.getD_cons_zero]) | (refine wpE_run rfl rfl (by simp) (fun w1 hx1 _ K hK => by go_step; exact hK _ (Ext.refl _)) ?_; simp only [put_lit, List.set_cons_succ, List.set_cons_zero]))
                refine wpE_run rfl rfl (by simp) (fun w' hx' _ K hK => wp_loadA 23 _ rfl _ 0 16 rfl agg23 sz23 _ _ (HB9.out.ext hx') (by simp [row_size]) (row 16 X) ((row_part 32 0 16 X (by omega)).trans (row_congr fun j _ => by rw [Nat.zero_add])) (hK _ (Ext.refl _))) ?_
                simp only [put_lit, List.set_cons_succ, List.set_cons_zero]
                (first | (refine wpE_move rfl rfl rfl ?_; simp only [put_lit, eval_lit, BigFrame.eval_const, List.set_cons_succ, List.set_cons_zero, List.getD_cons_succ, List.getD_cons_zero]) | (refine wpE_run rfl rfl (by simp) (fun w1 hx1 _ K hK => by go_step; exact hK _ (Ext.refl _)) ?_; simp only [put_lit, List.set_cons_succ, List.set_cons_zero]))
                refine wpE_run rfl rfl (by simp) (fun w' hx' _ K hK => wp_loadA 23 _ rfl _ 16 16 rfl agg23 sz23 _ _ (HB9.out.ext hx') (by simp [row_size]) (row 16 fun j => X (16 + j)) (row_part 32 16 16 X (by omega)) (hK _ (Ext.refl _))) ?_
                simp only [put_lit, List.set_cons_succ, List.set_cons_zero]
                refine wpE_eql23 rfl (.tmp 80) (.tmp 82) rfl X (fun j => X (16 + j)) rfl rfl ?_
                simp only [put_lit, List.set_cons_succ, List.set_cons_zero]
                (first | (refine wpE_move rfl rfl rfl ?_; simp only [put_lit, eval_lit, BigFrame.eval_const, List.set_cons_succ, List.set_cons_zero, List.getD_cons_succ, List.getD_cons_zero]) | (refine wpE_run rfl rfl (by simp) (fun w1 hx1 _ K hK => by go_step; exact hK _ (Ext.refl _)) ?_; simp only [put_lit, List.set_cons_succ, List.set_cons_zero]))
                rw [E1.out]
                (first | (refine wpE_move rfl rfl rfl ?_; simp only [put_lit, eval_lit, BigFrame.eval_const, List.set_cons_succ, List.set_cons_zero, List.getD_cons_succ, List.getD_cons_zero]) | (refine wpE_run rfl rfl (by simp) (fun w1 hx1 _ K hK => by go_step; exact hK _ (Ext.refl _)) ?_; simp only [put_lit, List.set_cons_succ, List.set_cons_zero]))
                refine wpE_run rfl rfl (by simp) (fun w' hx' _ K hK => wp_loadA 23 _ rfl _ 0 16 rfl agg23 sz23 _ _ (H13.out.ext hx') (by simp [row_size]) (row 16 A) (row_whole _ _) (hK _ (Ext.refl _))) ?_
                simp only [put_lit, List.set_cons_succ, List.set_cons_zero]
                refine wpE_run rfl rfl (by simp) (fun w' hx' _ K hK => wp_loadA 23 _ rfl _ 0 16 rfl agg23 sz23 _ _ (H15.out.ext hx') (by simp [row_size]) (row 16 DD) (row_whole _ _) (hK _ (Ext.refl _))) ?_
                simp only [put_lit, List.set_cons_succ, List.set_cons_zero]
                refine wpE_neq23 rfl (.tmp 86) (.tmp 87) rfl A DD rfl rfl ?_
                rw [E2.out]
                simp only [put_lit, List.set_cons_succ, List.set_cons_zero]
                (first | (refine wpE_move rfl rfl rfl ?_; simp only [put_lit, eval_lit, BigFrame.eval_const, List.set_cons_succ, List.set_cons_zero, List.getD_cons_succ, List.getD_cons_zero]) | (refine wpE_run rfl rfl (by simp) (fun w1 hx1 _ K hK => by go_step; exact hK _ (Ext.refl _)) ?_; simp only [put_lit, List.set_cons_succ, List.set_cons_zero]))
                (first | (refine wpE_move rfl rfl rfl ?_; simp only [put_lit, eval_lit, BigFrame.eval_const, List.set_cons_succ, List.set_cons_zero, List.getD_cons_succ, List.getD_cons_zero]) | (refine wpE_run rfl rfl (by simp) (fun w1 hx1 _ K hK => by go_step; exact hK _ (Ext.refl _)) ?_; simp only [put_lit, List.set_cons_succ, List.set_cons_zero]))
                refine wpE_run rfl rfl (by simp) (fun w' hx' _ K hK => wp_loadA 23 _ rfl _ 0 16 rfl agg23 sz23 _ _ (H13.out.ext hx') (by simp [row_size]) (row 16 A) (row_whole _ _) (hK _ (Ext.refl _))) ?_
                simp only [put_lit, List.set_cons_succ, List.set_cons_zero]
                (first | (refine wpE_move rfl rfl rfl ?_; simp only [put_lit, eval_lit, BigFrame.eval_const, List.set_cons_succ, List.set_cons_zero, List.getD_cons_succ, List.getD_cons_zero]) | (refine wpE_run rfl rfl (by simp) (fun w1 hx1 _ K hK => by go_step; exact hK _ (Ext.refl _)) ?_; simp only [put_lit, List.set_cons_succ, List.set_cons_zero]))
                (first | (refine wpE_move rfl rfl rfl ?_; simp only [put_lit, eval_lit, BigFrame.eval_const, List.set_cons_succ, List.set_cons_zero, List.getD_cons_succ, List.getD_cons_zero]) | (refine wpE_run rfl rfl (by simp) (fun w1 hx1 _ K hK => by go_step; exact hK _ (Ext.refl _)) ?_; simp only [put_lit, List.set_cons_succ, List.set_cons_zero]))
                refine wpE_run rfl rfl (by simp) (fun w' hx' _ K hK => wp_loadA 23 _ rfl _ 0 16 rfl agg23 sz23 _ _ (HB9.out.ext hx') (by simp [row_size]) (row 16 X) ((row_part 32 0 16 X (by omega)).trans (row_congr fun j _ => by rw [Nat.zero_add])) (hK _ (Ext.refl _))) ?_
                simp only [put_lit, List.set_cons_succ, List.set_cons_zero]
                (refine wpE_run rfl rfl (by simp) (fun w1 hx1 _ K hK => by go_wp2_with (go_at_call 21; refine (block_any b (8 + 7) _ (by omega) (by omega) X hX0l _ (HC9.out.ext hx1)).mono ?_; rintro e w2 ⟨rfl, hx2⟩; exact hK _ hx2)) ?_); simp only [put_lit, List.set_cons_succ, List.set_cons_zero]
                rw [E0.out]
                refine wpE_eql23 rfl (.tmp 91) (.tmp 95) rfl A A rfl rfl ?_
                rw [eqN_refl]
                simp only [put_lit, List.set_cons_succ, List.set_cons_zero]
                (first | (refine wpE_move rfl rfl rfl ?_; simp only [put_lit, eval_lit, BigFrame.eval_const, List.set_cons_succ, List.set_cons_zero, List.getD_cons_succ, List.getD_cons_zero]) | (refine wpE_run rfl rfl (by simp) (fun w1 hx1 _ K hK => by go_step; exact hK _ (Ext.refl _)) ?_; simp only [put_lit, List.set_cons_succ, List.set_cons_zero]))
                (refine wpE_nil ?_; intro w2 hw2 hF; simp only [List.drop_succ_cons, List.drop_zero])
                go_wp2_with fail
                go_ret
                exact ⟨rfl, HX9.out.trans hw2⟩

end Go.Proofs.Ytnigpobbckampaa
