/- AesKnown, walked. -/
import Derived.Test.YtnigpobbckampaaP8
import Derived.Test.YtnigpobbckampaaP1
import Derived.Test.YtnigpobbckampaaP4
import Derived.Test.YtnigpobbckampaaW0
namespace Go.Proofs.Ytnigpobbckampaa
open Go.RowKit
set_option linter.unusedSimpArgs false
set_option linter.unusedVariables false

theorem run_build23z (w : World) : (Instr.build 23 #[]).run Try.prog w = .ok (.agg (row 16 fun _ => 0)) w := by kernel_rfl
def zero54 : Array Value := #[.slice none 0 0] ++ row 256 fun _ => 0
theorem run_build54z (w : World) : (Instr.build 54 #[]).run Try.prog w = .ok (.agg zero54) w := by kernel_rfl
section
variable {ops : Array Oper} {rest : List Oper} {o : Oper} {a : Act} {w : World} {Q : Exit → Act → World → Prop}
theorem wl_build23z (hgd : o.guard = none) (ho : o.op = .build 23 #[]) (h : wpList Try.prog ops Q rest (a.put o.dst (.agg (row 16 fun _ => 0))) w) : wpList Try.prog ops Q (o :: rest) a w :=
  wpList_plain hgd fun _ hK => by
    unfold Oper.wp execOp
    simp only [ho, List.map_toArray, List.map_nil, Sem.run_bind, run_build23z, Result.andThen_ok]
    exact hK _ _ h
theorem wl_build54z (hgd : o.guard = none) (ho : o.op = .build 54 #[]) (h : wpList Try.prog ops Q rest (a.put o.dst (.agg zero54)) w) : wpList Try.prog ops Q (o :: rest) a w :=
  wpList_plain hgd fun _ hK => by
    unfold Oper.wp execOp
    simp only [ho, List.map_toArray, List.map_nil, Sem.run_bind, run_build54z, Result.andThen_ok]
    exact hK _ _ h
end

theorem wp_eql23 {o : Oper} {a : Act} {w : World} {K : Act → World → Prop} {Q : Exit → Act → World → Prop} (x y : Operand) (ho : o.op = .binOp .eql 23 x y 23) (f g : Nat → Nat) (hx : a.eval x = .agg (row 16 f)) (hy : a.eval y = .agg (row 16 g))
    (h : K (a.put o.dst (.bool (eqN 16 f g))) w) : o.wp Try.prog a w K Q := by
  unfold Oper.wp
  rw [run_eql23 x y ho f g hx hy w]
  exact h
theorem wpList_wanted {P : Program} {ops : Array Oper} {rest : List Oper} {o : Oper} {a : Act} {w : World} {Q : Exit → Act → World → Prop} (hw : Region.wanted o (yielded ops a.tmps) = true)
    (h : ∀ K : Act → World → Prop, (∀ a w, wpList P ops Q rest a w → K a w) → o.wp P a w K Q) : wpList P ops Q (o :: rest) a w :=
  wpList_step fun K hK => by rw [if_pos hw]; exact h K hK
/-- A cipher that is none. -/
def NoC (w : World) (v : Value) : Prop := v = .pointer none ∨ ∃ b, v = .pointer (some ⟨b, 0, none⟩) ∧ Blk w b 54 zero54
theorem NoC.ext {w w' : World} {v : Value} (h : NoC w v) (hx : Ext w w') : NoC w' v := by
  rcases h with h | ⟨b, hv, hb⟩
  · exact .inl h
  · exact .inr ⟨b, hv, hb.ext hx⟩

set_option maxRecDepth 100000 in
set_option maxHeartbeats 1000000 in
theorem rounds_no (v : Value) (w : World) (h : NoC w v) : Calls Try.prog 23 #[v] w fun e w' => e = .returned (.int .i64 0) ∧ w = w' := by
  rcases h with rfl | ⟨b, rfl, hb⟩
  · go_enter Try.func23, Try.ntmps23
    go_wp2_with fail
    go_ret
    exact ⟨rfl, rfl⟩
  · have hc : w.cell? ⟨b, 0, none⟩ = some (.slice none 0 0) := (hb.cell 0).trans (by kernel_rfl)
    clear hb
    go_enter Try.func23, Try.ntmps23
    go_wp2_with fail
    go_ret
    exact ⟨rfl, rfl⟩

set_option maxRecDepth 100000 in
set_option maxHeartbeats 1000000 in
theorem block_no (v : Value) (x : Nat → Nat) (w : World) (h : NoC w v) : Calls Try.prog 21 #[v, .agg (row 16 x)] w fun e w' => e = .returned (.agg (row 16 x)) ∧ Ext w w' := by
  have HN := Lib.hid h
  clear h
  go_enter Try.func21, Try.ntmps21
  go_upto_region 1 with (first | (refine wl_allocA rfl 23 rfl _ zero23 ?_) | (refine wl_boxA rfl 23 _ rfl _ rfl ?_))
  have hA : Blk ((w.alloc (.cells (row 16 x) 23)).alloc (.cells (row 16 fun _ => 0) 23)) w.heap.size 23 (row 16 x) := (Blk.new _ _ _).alloc _
  have hR : Blk ((w.alloc (.cells (row 16 x) 23)).alloc (.cells (row 16 fun _ => 0) 23)) (w.heap.size + 1) 23 (row 16 fun _ => 0) := by
    have := Blk.new (w.alloc (.cells (row 16 x) 23)) 23 (row 16 fun _ => 0)
    simpa only [World.size_alloc] using this
  have hx : Ext w ((w.alloc (.cells (row 16 x) 23)).alloc (.cells (row 16 fun _ => 0) 23)) := (Ext.alloc _ _).trans (Ext.alloc _ _)
  simp only [put_lit, List.set_cons_succ, List.set_cons_zero]
  rw [World.size_alloc]
  generalize (w.alloc (.cells (row 16 x) 23)).alloc (.cells (row 16 fun _ => 0) 23) = w1 at hA hR hx ⊢
  have HA := Lib.hid hA
  have HR := Lib.hid hR
  have HX := Lib.hid hx
  clear hA hR hx
  go_wp2_with fail
  refine (rounds_no v _ (HN.out.ext HX.out)).mono ?_
  rintro e w2 ⟨rfl, rfl⟩
  go_wp2_with (first | (refine wl_loadA rfl 23 _ rfl _ 0 16 rfl agg23 sz23 _ _ HA.out (by simp [row_size]) (row 16 x) (row_whole _ _) ?_) | (refine wl_storeA rfl 23 _ _ rfl _ 0 16 rfl (row 16 x) rfl sz23 (row_size _ _) _ _ HR.out (by simp [row_size]) (row_one _ _) (row 16 x) (lay_all _ _ (by simp [row_size])) ?_))
  refine bodyPost_ret (results_blk rfl _ _ (w.heap.size + 1) 16 23 (row 16 x) rfl (HR.out.setRow _) agg23 sz23 (row_size _ _).symm) rfl ?_
  exact ⟨rfl, below_setRow (g := w.heap.size + 1) HX.out (by omega) _⟩

theorem fixF_lt {n : Nat} {f : Nat → Nat} (h : ∀ i, i < n → f i < 256) : ∀ j, j < 16 → fixF n f j < 256 := by
  intro j _
  unfold fixF
  split
  · exact h j (by assumption)
  · omega

set_option maxRecDepth 100000 in
set_option maxHeartbeats 1000000 in
theorem known_any (w : World) : Calls Try.prog 11 #[] w fun e w' => e = .returned (.bool true) ∧ Ext w w' := by
  go_enter Try.func11, Try.ntmps11
  go_wp2_with fail
  go_loopw [1] (fun v1 wr => ∃ a : Nat, a ≤ 256 ∧ v1 = .int .i64 a ∧ Ext w wr) (fun v1 _ => 256 - (intOf v1).toNat)
  case atStart => exact ⟨0, by omega, rfl, Ext.refl _⟩
  case round =>
    obtain ⟨a, ha, rfl, hx⟩ := hrel
    by_cases ha2 : a < 256
    · have ha' : (a : Int) < 256 := by omega
      go_wp2_with fail
      rw [show (((a : Int) * 7 + 1) % 256) = (((a * 7 + 1) % 256 : Nat) : Int) by omega]
      refine (bytes_any a _ ha2 (Nat.mod_lt _ (by omega)) _).mono ?_
      rintro e w1 ⟨rfl, hx1⟩
      go_wp2_with fail
      rw [show (((a : Int) * 31 + 5) % 256) = (((a * 31 + 5) % 256 : Nat) : Int) by omega, show (((a : Int) * 3) % 256) = (((a * 3) % 256 : Nat) : Int) by omega]
      refine (field_any a _ _ ha2 (Nat.mod_lt _ (by omega)) (Nat.mod_lt _ (by omega)) _).mono ?_
      rintro e w2 ⟨rfl, hx2⟩
      have hxx := (hx.trans hx1).trans hx2
      go_wp2_with fail
      go_roundw
      case rel => exact ⟨a + 1, by omega, by go_num, hxx⟩
      case measure => simp [intOf]; omega
    · obtain rfl : a = 256 := by omega
      clear ha ha2
      simp only [show ((256 : Nat) : Int) = 256 from rfl]
      go_wp2_with fail
      go_loopw [2] (fun v2 wr => ∃ n : Nat, n ≤ 40 ∧ v2 = .int .i64 n ∧ Ext w wr) (fun v2 _ => 40 - (intOf v2).toNat)
      case atStart => exact ⟨0, by omega, rfl, hx⟩
      case round =>
        clear hx
        obtain ⟨n, hn, rfl, hx⟩ := hrel
        by_cases hn2 : n < 40
        · have hn' : (n : Int) < 40 := by omega
          go_wp2_with fail
          refine (counting_any n 9 _ (by omega) (by omega)).mono ?_
          rintro e w1 ⟨v39, rfl, h39, hx1⟩
          go_wp2_with fail
          refine (counting_any 16 n _ (by omega) (by omega)).mono ?_
          rintro e w2 ⟨v41, rfl, h41, hx2⟩
          go_wp2_with fail
          refine (fixed_any v41 16 _ _ (by omega) h41.rd).mono ?_
          rintro e w3 ⟨rfl, hx3⟩
          have HR := Lib.hid (h39.rd.ext (hx2.trans hx3))
          have hfl := fixF_lt h41.lt
          have HX := Lib.hid (((hx.trans hx1).trans hx2).trans hx3)
          clear h39 h41 hx hx1 hx2 hx3
          go_wp2_with fail
          refine (blocks_any v39 n _ _ _ (by omega) HR.out hfl).mono ?_
          rintro e w4 ⟨rfl, hx4⟩
          have hxx := HX.out.trans hx4
          go_wp2_with fail
          go_roundw
          case rel => exact ⟨n + 1, by omega, by go_num, hxx⟩
          case measure => simp [intOf]; omega
        · obtain rfl : n = 40 := by omega
          clear hn hn2
          simp only [show ((40 : Nat) : Int) = 40 from rfl]
          go_wp2_with fail
          refine (counting_any 16 5 _ (by omega) (by omega)).mono ?_
          rintro e w1 ⟨v45, rfl, h45, hx1⟩
          go_wp2_with fail
          refine (fixed_any v45 16 _ _ (by omega) h45.rd).mono ?_
          rintro e w2 ⟨rfl, hx2⟩
          obtain ⟨X, hX⟩ : ∃ X, X = fixF 16 fun i => i * 5 % 256 := ⟨_, rfl⟩
          rw [← hX]
          clear hX h45
          have HX := Lib.hid ((hx.trans hx1).trans hx2)
          clear hx hx1 hx2
          go_upto_region 13 with (first | (refine wl_allocA rfl 23 rfl _ zero23 ?_) | (refine wl_storeA rfl 23 _ _ rfl _ 0 16 rfl (row 16 X) rfl sz23 (row_size _ _) _ _ (Blk.new _ _ _) (by simp [row_size]) (row_one _ _) (row 16 X) (lay_all _ _ (by simp [row_size])) ?_))
          have hy0 : Blk ((w2.alloc (.cells (row 16 fun _ => 0) 23)).setRow w2.heap.size (row 16 X)) w2.heap.size 23 (row 16 X) := (Blk.new _ _ _).setRow _
          have hX7 : Ext w2 ((w2.alloc (.cells (row 16 fun _ => 0) 23)).setRow w2.heap.size (row 16 X)) := below_setRow (g := w2.heap.size) (Ext.alloc _ _) (Nat.le_refl _) _
          generalize w2.heap.size = gy at hy0 hX7 ⊢
          generalize (w2.alloc (.cells (row 16 fun _ => 0) 23)).setRow gy (row 16 X) = w3 at hy0 hX7 ⊢
          have hxw := HX.out.trans hX7
          clear HX hX7
          go_wp2_with fail
          go_loopw [3, 5] (fun v3 v5 wr => ∃ i : Nat, i ≤ 2 ∧ v5 = .int .i64 i ∧ NoC wr v3 ∧ Blk wr gy 23 (row 16 X) ∧ Ext w wr) (fun _ v5 _ => 2 - (intOf v5).toNat)
          case atStart => exact ⟨0, by omega, rfl, .inl rfl, hy0, hxw⟩
          case round =>
            clear hy0 hxw
            obtain ⟨i, hi, rfl, hN, hB, hx⟩ := hrel
            have HN := Lib.hid hN
            have HB := Lib.hid hB
            have HX := Lib.hid hx
            clear hN hB hx
            by_cases hi2 : i < 2
            · have hi' : (i : Int) < 2 := by omega
              go_upto_region 16 with fail
              apply wp_region_mid 10 [.det _, .det _, .det _, .det _, .det _, .det _, .det _, .det _, .det _, .det _] (by kernel_rfl) rfl (by kernel_rfl)
              · (first | (refine wpE_move rfl rfl rfl ?_; simp only [put_lit, eval_lit, BigFrame.eval_const, List.set_cons_succ, List.set_cons_zero, List.getD_cons_succ, List.getD_cons_zero]) | (refine wpE_run rfl rfl (by simp) (fun w1 hx1 _ K hK => by go_step; exact hK _ (Ext.refl _)) ?_; simp only [put_lit, List.set_cons_succ, List.set_cons_zero]))
                refine wpE_run rfl rfl (by simp) (fun w' hx' _ K hK => wp_loadA 23 _ rfl _ 0 16 rfl agg23 sz23 _ _ (HB.out.ext hx') (by simp [row_size]) (row 16 X) (row_whole _ _) (hK _ (Ext.refl _))) ?_
                simp only [put_lit, List.set_cons_succ, List.set_cons_zero]
                (refine wpE_run rfl rfl (by simp) (fun w1 hx1 _ K hK => by go_wp2_with (go_at_call 21; refine (block_no _ X _ (HN.out.ext hx1)).mono ?_; rintro e w2 ⟨rfl, hx2⟩; exact hK _ hx2)) ?_); simp only [put_lit, List.set_cons_succ, List.set_cons_zero]
                refine wpE_run rfl rfl (by simp) (fun w' hx' _ K hK => wp_loadA 23 _ rfl _ 0 16 rfl agg23 sz23 _ _ (HB.out.ext hx') (by simp [row_size]) (row 16 X) (row_whole _ _) (hK _ (Ext.refl _))) ?_
                simp only [put_lit, List.set_cons_succ, List.set_cons_zero]
                refine wpE_neq23 rfl (.tmp 53) (.tmp 54) rfl X X rfl rfl ?_
                rw [eqN_refl]
                simp only [put_lit, List.set_cons_succ, List.set_cons_zero]
                (first | (refine wpE_move rfl rfl rfl ?_; simp only [put_lit, eval_lit, BigFrame.eval_const, List.set_cons_succ, List.set_cons_zero, List.getD_cons_succ, List.getD_cons_zero]) | (refine wpE_run rfl rfl (by simp) (fun w1 hx1 _ K hK => by go_step; exact hK _ (Ext.refl _)) ?_; simp only [put_lit, List.set_cons_succ, List.set_cons_zero]))
                (first | (refine wpE_move rfl rfl rfl ?_; simp only [put_lit, eval_lit, BigFrame.eval_const, List.set_cons_succ, List.set_cons_zero, List.getD_cons_succ, List.getD_cons_zero]) | (refine wpE_run rfl rfl (by simp) (fun w1 hx1 _ K hK => by go_step; exact hK _ (Ext.refl _)) ?_; simp only [put_lit, List.set_cons_succ, List.set_cons_zero]))
                (refine wpE_run rfl rfl (by simp) (fun w1 hx1 _ K hK => by go_wp2_with (go_at_call 23; refine (rounds_no _ _ (HN.out.ext hx1)).mono ?_; rintro e w2 ⟨rfl, rfl⟩; exact hK _ (Ext.refl _))) ?_)
                simp only [put_lit, List.set_cons_succ, List.set_cons_zero]
                (first | (refine wpE_move rfl rfl rfl ?_; simp only [put_lit, eval_lit, BigFrame.eval_const, List.set_cons_succ, List.set_cons_zero, List.getD_cons_succ, List.getD_cons_zero]) | (refine wpE_run rfl rfl (by simp) (fun w1 hx1 _ K hK => by go_step; exact hK _ (Ext.refl _)) ?_; simp only [put_lit, List.set_cons_succ, List.set_cons_zero]))
                (first | (refine wpE_move rfl rfl rfl ?_; simp only [put_lit, eval_lit, BigFrame.eval_const, List.set_cons_succ, List.set_cons_zero, List.getD_cons_succ, List.getD_cons_zero]) | (refine wpE_run rfl rfl (by simp) (fun w1 hx1 _ K hK => by go_step; exact hK _ (Ext.refl _)) ?_; simp only [put_lit, List.set_cons_succ, List.set_cons_zero]))
                (refine wpE_nil ?_; intro w2 hw2 hF; simp only [List.drop_succ_cons, List.drop_zero])
                have hb2 := Lib.hid (HB.out.ext hw2)
                have hx2 := Lib.hid (HX.out.trans hw2)
                clear hF HN HB HX hw2
                go_wp2_with (first | (refine wl_build54z rfl rfl ?_) | (refine wl_boxA rfl 54 _ rfl _ rfl ?_))
                go_roundw
                case rel => exact ⟨i + 1, by omega, by go_num, .inr ⟨_, rfl, Blk.new _ _ _⟩, hb2.out.alloc _, hx2.out.trans (Ext.alloc _ _)⟩
                case measure => simp [intOf]; omega
            · obtain rfl : i = 2 := by omega
              go_wp2_with (refine wl_makeF rfl _ _ rfl 16 16 rfl rfl (by omega) (by omega) ?_)
              have hK0 : Blk (wr.alloc (.cells (row 16 fun _ => 0) 5)) wr.heap.size 5 (row 16 fun _ => 0) := Blk.new _ _ _
              have hxk := HX.out.trans (Ext.alloc wr (.cells (row 16 fun _ => 0) 5))
              generalize wr.heap.size = gk at hK0 ⊢
              generalize wr.alloc (.cells (row 16 fun _ => 0) 5) = w4 at hK0 hxk ⊢
              have HR := Lib.hid (rd_of_blk hK0 (fun _ _ => by omega))
              have HX4 := Lib.hid hxk
              clear hK0 hxk HN HB HX
              refine (new4_any _ _ _ HR.out).mono ?_
              rintro e w5 ⟨b, rfl, hC, _, hx5⟩
              have HC := Lib.hid hC
              have HX5 := Lib.hid (HX4.out.trans hx5)
              clear hC hx5 HX4 HR
              go_wp2_with (refine wl_build23z rfl rfl ?_)
              refine (block_any b (4 + 7) _ (by omega) (by omega) (fun _ => 0) (fun _ _ => by omega) _ HC.out).mono ?_
              rintro e w6 ⟨rfl, hx6⟩
              have hk0 := row_congr (n := 16) (fun j hj => knownZ (fun _ => 0) (fun _ => 0) (fun m _ => rfl) (fun j _ => rfl) j hj)
              obtain ⟨Z, hZ⟩ : ∃ Z : Nat → Nat, Z = look (sz.getD 10 []) := ⟨_, rfl⟩
              have hL : ∀ (A : Array Value), A = row 16 (look (sz.getD 10 [])) → A = row 16 Z := fun A h => by rw [h, hZ]
              rw [← hZ] at hk0
              rw [show row 16 (blockP (4 + 7) (keysP 4 fun _ => 0) fun _ => 0) = row 16 Z from hk0]
              have HL := Lib.hid hL
              have HX6 := Lib.hid (HX5.out.trans hx6)
              clear hk0 hZ hL hx6 HX5
              go_upto_region 23 with (first | (refine wl_allocA rfl 23 rfl _ zero23 ?_) | (refine wl_storeA rfl 23 _ _ rfl _ 0 16 rfl (row 16 Z) rfl sz23 (row_size _ _) _ _ (Blk.new _ _ _) (by simp [row_size]) (row_one _ _) (row 16 Z) (lay_all _ _ (by simp [row_size])) ?_))
              have hy0 : Blk ((w6.alloc (.cells (row 16 fun _ => 0) 23)).setRow w6.heap.size (row 16 Z)) w6.heap.size 23 (row 16 Z) := (Blk.new _ _ _).setRow _
              have hX7 : Ext w6 ((w6.alloc (.cells (row 16 fun _ => 0) 23)).setRow w6.heap.size (row 16 Z)) := below_setRow (g := w6.heap.size) (Ext.alloc _ _) (Nat.le_refl _) _
              generalize w6.heap.size = gz at hy0 hX7 ⊢
              generalize (w6.alloc (.cells (row 16 fun _ => 0) 23)).setRow gz (row 16 Z) = w7 at hy0 hX7 ⊢
              have HY := Lib.hid hy0
              have HX7 := Lib.hid (HX6.out.trans hX7)
              clear hy0 hX7 HX6
              go_wp2_with fail
              refine (works_any _).mono ?_
              rintro e w8 ⟨rfl, hx8⟩
              have HY8 := Lib.hid (HY.out.ext hx8)
              have HX8 := Lib.hid (HX7.out.trans hx8)
              clear hx8 HY HX7
              go_wp2_with (first | (refine wpList_wanted rfl fun K hK => wp_loadA 23 _ rfl _ 0 16 rfl agg23 sz23 _ _ HY8.out (by simp [row_size]) (row 16 Z) (row_whole _ _) (hK _ _ ?_)) | (refine wpList_wanted rfl fun K hK => wp_eql23 (.tmp 77) (.tmp 78) rfl Z Z rfl (congrArg Value.agg (HL.out _ (by kernel_rfl))) (hK _ _ ?_); rw [eqN_refl]))
              go_ret
              exact ⟨rfl, HX8.out⟩
end Go.Proofs.Ytnigpobbckampaa
