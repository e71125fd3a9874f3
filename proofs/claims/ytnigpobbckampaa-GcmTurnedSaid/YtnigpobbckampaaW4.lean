/- GcmTurned, walked. -/
import Derived.Test.YtnigpobbckampaaW3
import Derived.Test.YtnigpobbckampaaZ2
import Derived.Deep.DeepCutAuto
import Derived.Deep.CutBlock
namespace Go.Proofs.Ytnigpobbckampaa
open Go.RowKit
set_option linter.unusedSimpArgs false
set_option linter.unusedVariables false

theorem agg64 (w : World) : (isAgg 64).run Try.prog w = .ok true w := by kernel_rfl
theorem OwnT.mono {w : World} {b b' n : Nat} {v : Value} {f : Nat → Nat} (h : OwnT w b v n f) (hb : b' ≤ b) : OwnT w b' v n f := by
  rcases h with h | ⟨g, cap, cur, hv, hg, rest⟩
  · exact .inl h
  · exact .inr ⟨g, cap, cur, hv, Nat.le_trans hb hg, rest⟩
section
variable {ops : Array Oper} {rest : List Oper} {o : Oper} {a : Act} {w : World} {Q : Exit → Act → World → Prop}
theorem wlg_build23z8 (hw : Region.wanted o (yielded ops a.tmps) = true) (ho : o.op = .build 23 #[]) (h : wpList Try.prog ops Q rest (a.put o.dst (.agg (row 16 fun _ => 0))) w) : wpList Try.prog ops Q (o :: rest) a w :=
  BigFrame.wpList_want hw fun _ hK => by
    unfold Oper.wp execOp
    simp only [ho, List.map_toArray, List.map_nil, Sem.run_bind, run_build23z8, Result.andThen_ok]
    exact hK _ _ h
theorem wlg_eql23 (hw : Region.wanted o (yielded ops a.tmps) = true) (x y : Operand) (ho : o.op = .binOp .eql 23 x y 23) (f g : Nat → Nat) (hx : a.eval x = .agg (row 16 f)) (hy : a.eval y = .agg (row 16 g))
    (h : wpList Try.prog ops Q rest (a.put o.dst (.bool (eqN 16 f g))) w) : wpList Try.prog ops Q (o :: rest) a w :=
  BigFrame.wpList_want hw fun _ hK => by
    have h1 := hK _ _ h
    unfold Oper.wp
    rw [run_eql23 x y ho f g hx hy w]
    exact h1
theorem run_neq55 (x y : Operand) (ho : o.op = .binOp .neq 55 x y 55) (f g : Nat → Nat) (hx : a.eval x = .agg (row 12 f)) (hy : a.eval y = .agg (row 12 g)) (w : World) : (execOp a.eval o).run Try.prog w = .ok (.value (.bool (!eqN 12 f g))) w := by
  have hg : Try.prog.eqGuardType Try.prog.depth 55 = false := by kernel_rfl
  have h := run_eqA 12 55 Try.underlying55 f g w
  unfold execOp
  rw [ho]
  simp [hx, hy, run_eqGuard_agg w .neq 55 x y _ _ hg, run_neq_struct w 55 (row 12 f) (row 12 g), h]
theorem wl_neq55 (hgd : o.guard = none) (x y : Operand) (ho : o.op = .binOp .neq 55 x y 55) (f g : Nat → Nat) (hx : a.eval x = .agg (row 12 f)) (hy : a.eval y = .agg (row 12 g))
    (h : wpList Try.prog ops Q rest (a.put o.dst (.bool (!eqN 12 f g))) w) : wpList Try.prog ops Q (o :: rest) a w :=
  wpList_plain hgd fun _ hK => by
    have h1 := hK _ _ h
    unfold Oper.wp
    rw [run_neq55 x y ho f g hx hy w]
    exact h1
end

/-- What is known when something was turned, or nothing. -/
def CutR (w6 wx : World) (gn p q K : Nat) (ks : Nat → Nat → Nat) (N g e : Nat → Nat) (v8 v14 v15 v17 : Value) : Prop := ∃ (fs ft fh N' : Nat → Nat) (s : Bool),
  v17 = .bool s ∧ RdF wx v14 p fs ∧ RdF wx v15 16 ft ∧ RdF wx v8 q fh ∧ Blk wx gn 55 (row 12 N') ∧ (∀ j, j < 12 → N' j < 256) ∧ Ext w6 wx ∧
  (s = false → (∀ i, i < p → fs i = hideP K ks N g i) ∧ (∀ i, i < 16 → ft i = byP (tagN K ks N p q (hideP K ks N g) e) i) ∧ (∀ i, i < q → fh i = e i) ∧ ∀ j, j < 12 → N' j = N j) ∧
  (s = true → ¬ WholeP K ks N' (p + 16) q (joinF p fs ft) fh)

set_option maxRecDepth 100000 in
set_option maxHeartbeats 1000000 in
theorem gcmturned_any (v : Value) (n : Nat) (f : Nat → Nat) (u t : Value) (m : Nat) (g : Nat → Nat) (l : Nat) (e : Nat → Nat) (N B : Nat → Nat) (wh at' : Int) (w : World) (hn : n ≤ 9223372036854775807) (hv : RdF w v n f)
    (hm : m ≤ 9223372036854775807) (hu : RdF w u m g) (hl : l ≤ 9223372036854775807) (ht : RdF w t l e) (hX : ∀ j, j < 12 → N j < 256) (hB : ∀ j, j < 16 → B j < 256) :
    Calls Try.prog 15 #[v, .agg #[u, t], .agg (turnA N wh at' B)] w fun e w' => e = .returned (.bool true) ∧ Ext w w' := by
  obtain ⟨uo, uc, rfl, huc⟩ := hu.len
  obtain ⟨so, tc, rfl, htc⟩ := ht.len
  have HV := Lib.hid hv
  have HU := Lib.hid hu
  have HT := Lib.hid ht
  have HBL := Lib.hid hB
  have HKS := Lib.hid (ksn_lt n _ (keyF_lt hv.lt (16 + 16 * (n % 2))))
  clear hv hu ht hB
  go_enter Try.func15, Try.ntmps15
  go_upto_region 1 with (first | (refine wl_boxA rfl 56 _ rfl _ rfl ?_) | (refine wl_boxA rfl 64 _ rfl _ rfl ?_))
  have hA : Blk ((w.alloc (.cells #[.slice uo m uc, .slice so l tc] 56)).alloc (.cells (turnA N wh at' B) 64)) w.heap.size 56 #[.slice uo m uc, .slice so l tc] := (Blk.new w _ _).alloc _
  have hT : Blk ((w.alloc (.cells #[.slice uo m uc, .slice so l tc] 56)).alloc (.cells (turnA N wh at' B) 64)) (w.heap.size + 1) 64 (turnA N wh at' B) := by
    have := Blk.new (w.alloc (.cells #[.slice uo m uc, .slice so l tc] 56)) 64 (turnA N wh at' B)
    simpa only [World.size_alloc] using this
  have hx : Ext w ((w.alloc (.cells #[.slice uo m uc, .slice so l tc] 56)).alloc (.cells (turnA N wh at' B) 64)) := (Ext.alloc _ _).trans (Ext.alloc _ _)
  try simp only [put_lit, put_nil7, List.set_cons_succ, List.set_cons_zero, World.size_alloc]
  generalize (w.alloc (.cells #[.slice uo m uc, .slice so l tc] 56)).alloc (.cells (turnA N wh at' B) 64) = w1 at hA hT hx ⊢
  have HTU := Lib.hid hT
  have HX := Lib.hid hx
  have HA := Lib.hid hA
  clear hT hx hA
  go_wp2_with fail
  refine (works34_any _).mono ?_
  rintro e0 w01 ⟨rfl, hx01⟩
  have hc0 : w01.cell? ⟨w.heap.size, 0, none⟩ = some (.slice uo m uc) := ((HA.out.ext hx01).cell 0).trans rfl
  have hc1 : w01.cell? ⟨w.heap.size, 1, none⟩ = some (.slice so l tc) := ((HA.out.ext hx01).cell 1).trans rfl
  have HTU1 := Lib.hid (HTU.out.ext hx01)
  have HX1 := Lib.hid (HX.out.trans hx01)
  clear HTU HX hx01 HA
  obtain ⟨p, hp⟩ : ∃ p, p = min m 200 := ⟨_, rfl⟩
  obtain ⟨q, hq⟩ : ∃ q, q = min l 200 := ⟨_, rfl⟩
  have hpm : p ≤ m := by omega
  have hp5 : p ≤ 200 := by omega
  have hql : q ≤ l := by omega
  have hq5 : q ≤ 200 := by omega
  have e1 : (if 200 < (m : Int) then 200 else (m : Int)) = (p : Int) := by split <;> omega
  have e2 : (if 200 < (l : Int) then 200 else (l : Int)) = (q : Int) := by split <;> omega
  have E1 := Lib.hid e1
  have E2 := Lib.hid e2
  clear hp hq e1 e2
  go_upto_region 3 with fail
  apply wp_region_mid 16 [.det _, .det _, .det _, .det _, .det _, .det _, .det _, .det _, .det _, .det _, .det _, .det _, .det _, .det _, .det _, .det _] (by kernel_rfl) rfl (by kernel_rfl)
  · (first | (refine wpE_move rfl rfl rfl ?_; simp only [put_lit, eval_lit, BigFrame.eval_const, List.set_cons_succ, List.set_cons_zero, List.getD_cons_succ, List.getD_cons_zero]) | (refine wpE_run rfl rfl (by simp) (fun w1 hx1 _ K hK => by go_step; exact hK _ (Ext.refl _)) ?_; simp only [put_lit, List.set_cons_succ, List.set_cons_zero]))
    (refine wpE_run rfl rfl (by simp) (fun w1 hx1 _ K hK => by have hc := hx1.cell hc0; go_step; exact hK _ (Ext.refl _)) ?_); simp only [put_lit, List.set_cons_succ, List.set_cons_zero]
    (first | (refine wpE_move rfl rfl rfl ?_; simp only [put_lit, eval_lit, BigFrame.eval_const, List.set_cons_succ, List.set_cons_zero, List.getD_cons_succ, List.getD_cons_zero]) | (refine wpE_run rfl rfl (by simp) (fun w1 hx1 _ K hK => by go_step; exact hK _ (Ext.refl _)) ?_; simp only [put_lit, List.set_cons_succ, List.set_cons_zero]))
    (refine wpE_run rfl rfl (by simp) (fun w1 hx1 _ K hK => by have hc := hx1.cell hc0; go_step; exact hK _ (Ext.refl _)) ?_); simp only [put_lit, List.set_cons_succ, List.set_cons_zero]
    (first | (refine wpE_move rfl rfl rfl ?_; simp only [put_lit, eval_lit, BigFrame.eval_const, List.set_cons_succ, List.set_cons_zero, List.getD_cons_succ, List.getD_cons_zero]) | (refine wpE_run rfl rfl (by simp) (fun w1 hx1 _ K hK => by go_step; exact hK _ (Ext.refl _)) ?_; simp only [put_lit, List.set_cons_succ, List.set_cons_zero]))
    (first | (refine wpE_move rfl rfl rfl ?_; simp only [put_lit, eval_lit, BigFrame.eval_const, List.set_cons_succ, List.set_cons_zero, List.getD_cons_succ, List.getD_cons_zero]) | (refine wpE_run rfl rfl (by simp) (fun w1 hx1 _ K hK => by go_step; exact hK _ (Ext.refl _)) ?_; simp only [put_lit, List.set_cons_succ, List.set_cons_zero]))
    rw [E1.out]
    (first | (refine wpE_move rfl rfl rfl ?_; simp only [put_lit, eval_lit, BigFrame.eval_const, List.set_cons_succ, List.set_cons_zero, List.getD_cons_succ, List.getD_cons_zero]) | (refine wpE_run rfl rfl (by simp) (fun w1 hx1 _ K hK => by go_step; exact hK _ (Ext.refl _)) ?_; simp only [put_lit, List.set_cons_succ, List.set_cons_zero]))
    (first | (refine wpE_move rfl rfl rfl ?_; simp only [put_lit, eval_lit, BigFrame.eval_const, List.set_cons_succ, List.set_cons_zero, List.getD_cons_succ, List.getD_cons_zero]) | (refine wpE_run rfl rfl (by simp) (fun w1 hx1 _ K hK => by go_step; exact hK _ (Ext.refl _)) ?_; simp only [put_lit, List.set_cons_succ, List.set_cons_zero]))
    (refine wpE_run rfl rfl (by simp) (fun w1 hx1 _ K hK => by have hc := hx1.cell hc1; go_step; exact hK _ (Ext.refl _)) ?_); simp only [put_lit, List.set_cons_succ, List.set_cons_zero]
    (first | (refine wpE_move rfl rfl rfl ?_; simp only [put_lit, eval_lit, BigFrame.eval_const, List.set_cons_succ, List.set_cons_zero, List.getD_cons_succ, List.getD_cons_zero]) | (refine wpE_run rfl rfl (by simp) (fun w1 hx1 _ K hK => by go_step; exact hK _ (Ext.refl _)) ?_; simp only [put_lit, List.set_cons_succ, List.set_cons_zero]))
    (refine wpE_run rfl rfl (by simp) (fun w1 hx1 _ K hK => by have hc := hx1.cell hc1; go_step; exact hK _ (Ext.refl _)) ?_); simp only [put_lit, List.set_cons_succ, List.set_cons_zero]
    (first | (refine wpE_move rfl rfl rfl ?_; simp only [put_lit, eval_lit, BigFrame.eval_const, List.set_cons_succ, List.set_cons_zero, List.getD_cons_succ, List.getD_cons_zero]) | (refine wpE_run rfl rfl (by simp) (fun w1 hx1 _ K hK => by go_step; exact hK _ (Ext.refl _)) ?_; simp only [put_lit, List.set_cons_succ, List.set_cons_zero]))
    (first | (refine wpE_move rfl rfl rfl ?_; simp only [put_lit, eval_lit, BigFrame.eval_const, List.set_cons_succ, List.set_cons_zero, List.getD_cons_succ, List.getD_cons_zero]) | (refine wpE_run rfl rfl (by simp) (fun w1 hx1 _ K hK => by go_step; exact hK _ (Ext.refl _)) ?_; simp only [put_lit, List.set_cons_succ, List.set_cons_zero]))
    rw [E2.out]
    (first | (refine wpE_move rfl rfl rfl ?_; simp only [put_lit, eval_lit, BigFrame.eval_const, List.set_cons_succ, List.set_cons_zero, List.getD_cons_succ, List.getD_cons_zero]) | (refine wpE_run rfl rfl (by simp) (fun w1 hx1 _ K hK => by go_step; exact hK _ (Ext.refl _)) ?_; simp only [put_lit, List.set_cons_succ, List.set_cons_zero]))
    (first | (refine wpE_move rfl rfl rfl ?_; simp only [put_lit, eval_lit, BigFrame.eval_const, List.set_cons_succ, List.set_cons_zero, List.getD_cons_succ, List.getD_cons_zero]) | (refine wpE_run rfl rfl (by simp) (fun w1 hx1 _ K hK => by go_step; exact hK _ (Ext.refl _)) ?_; simp only [put_lit, List.set_cons_succ, List.set_cons_zero]))
    (first | (refine wpE_move rfl rfl rfl ?_; simp only [put_lit, eval_lit, BigFrame.eval_const, List.set_cons_succ, List.set_cons_zero, List.getD_cons_succ, List.getD_cons_zero]) | (refine wpE_run rfl rfl (by simp) (fun w1 hx1 _ K hK => by go_step; exact hK _ (Ext.refl _)) ?_; simp only [put_lit, List.set_cons_succ, List.set_cons_zero]))
    refine wpE_nil ?_
    intro w2 hw2 hF
    simp only [List.drop_succ_cons, List.drop_zero]
    clear hF
    have HT2 := Lib.hid (HTU1.out.ext hw2)
    have HX2 := Lib.hid (HX1.out.trans hw2)
    have HP := Lib.hid (HU.out.head p hpm)
    have HQ := Lib.hid (HT.out.head q hql)
    clear hw2 hc0 hc1 HTU1 HX1 HU HT E1 E2
    go_wp2_with fail
    refine (key38_any v n f _ hn (HV.out.ext HX2.out)).mono ?_
    rintro e3 w3 ⟨v3, rfl, ho3, hx3⟩
    have HO3 := Lib.hid ho3.rd
    have HX3 := Lib.hid (HX2.out.trans hx3)
    have HT3 := Lib.hid (HT2.out.ext hx3)
    clear ho3 hx3 HT2 HX2
    go_wp2_with fail
    refine (newk19_any v3 n _ _ HO3.out).mono ?_
    rintro e4 w4 ⟨b, rfl, hC, hx4⟩
    have HC4 := Lib.hid hC
    have HX4 := Lib.hid (HX3.out.trans hx4)
    have HT4 := Lib.hid (HT3.out.ext hx4)
    clear hC hx4 HT3 HX3 HO3
    go_wp2_with (refine wl_loadA rfl 55 _ rfl _ 0 12 rfl agg55 sz55 _ _ HT4.out (by rw [turnA_size]; omega) (row 12 N) (turnA_nonce _ _ _ _) ?_)
    refine (seal39_any _ _ p q b (Kn n) g e N (ksn n (keyF n f)) _ (by omega) (by omega) (HP.out.ext HX4.out) (HQ.out.ext HX4.out) hX HC4.out (Kn_ge n) (Kn_le n)).mono ?_
    rintro e5 w5 ⟨v5, rfl, ho5, hx5⟩
    obtain ⟨gb, ob, rc, rfl, hrc, _⟩ := ho5.rd.form (by omega)
    have HO5 := Lib.hid ho5.rd
    have HX5 := Lib.hid (HX4.out.trans hx5)
    have HT5 := Lib.hid (HT4.out.ext hx5)
    have HC5 := Lib.hid (HC4.out.ext hx5)
    clear ho5 hx5 HT4 HX4 HC4
    go_wp2_with (first | (refine wlg_build23z8 rfl rfl ?_))
    refine (block_any b (Kn n) _ (Kn_ge n) (Kn_le n) (fun _ => 0) (fun _ _ => by omega) _ HC5.out).mono ?_
    rintro e6 w6 ⟨rfl, hx6⟩
    have HO6 := Lib.hid (HO5.out.ext hx6)
    have HX6 := Lib.hid (HX5.out.trans hx6)
    have HT6 := Lib.hid (HT5.out.ext hx6)
    have HC6 := Lib.hid (HC5.out.ext hx6)
    clear hx6 HT5 HX5 HC5 HO5
    by_cases hz : eqN 16 (blockP (Kn n) (ksn n (keyF n f)) fun _ => 0) (fun _ => 0) = true
    · go_wp2_with (first | (refine wlg_build23z8 rfl rfl ?_) | (refine wlg_eql23 rfl (.tmp 59) (.tmp 60) rfl (blockP (Kn n) (ksn n (keyF n f)) fun _ => 0) (fun _ => 0) rfl rfl ?_))
      go_ret
      exact ⟨rfl, HX6.out⟩
    · have hz' : eqN 16 (blockP (Kn n) (ksn n (keyF n f)) fun _ => 0) (fun _ => 0) = false := by simpa using hz
      have HNE := Lib.hid (hk0_ne (Kn_ge1 n) HKS.out (fun h => eqN_false.1 hz' h))
      have hlen : ((p + 16 : Nat) : Int) = (p : Int) + 16 := by omega
      clear hz
      go_upto_region 13 with (first | (refine wlg_build23z8 rfl rfl ?_) | (refine wlg_eql23 rfl (.tmp 59) (.tmp 60) rfl (blockP (Kn n) (ksn n (keyF n f)) fun _ => 0) (fun _ => 0) rfl rfl ?_))
      have HS1 := Lib.hid (show RdF w6 (.slice (some ⟨gb, ob, none⟩) p rc) p (hideP (Kn n) (ksn n (keyF n f)) N g) from (HO6.out.head p (by omega)).congr (fun i hi => (sealP_lt i hi).symm))
      have HS2 := Lib.hid (show RdF w6 (.slice (some ⟨gb, ob + p, none⟩) 16 (rc - p)) 16 (byP (tagN (Kn n) (ksn n (keyF n f)) N p q (hideP (Kn n) (ksn n (keyF n f)) N g) e)) from (HO6.out.part p 16 (rc - p) (by omega) (by omega)).congr (fun j _ => (sealP_ge j).symm))
      clear hz' hlen HO6
      apply wp_region_mid 11 [.det _, .det _, .det _, .det _, .det _, .det _, .det _, .det _, .any (Fresh w6 55 (row 12 fun _ => 0)), .det _, .det _] (by kernel_rfl) rfl (by kernel_rfl)
      · skip
        (first | (refine wpE_move rfl rfl rfl ?_; simp only [put_lit, eval_lit, BigFrame.eval_const, List.set_cons_succ, List.set_cons_zero, List.getD_cons_succ, List.getD_cons_zero]) | (refine wpE_run rfl rfl (by simp) (fun w1 hx1 _ K hK => by go_step; exact hK _ (Ext.refl _)) ?_; simp only [put_lit, List.set_cons_succ, List.set_cons_zero]))
        (first | (refine wpE_move rfl rfl rfl ?_; simp only [put_lit, eval_lit, BigFrame.eval_const, List.set_cons_succ, List.set_cons_zero, List.getD_cons_succ, List.getD_cons_zero]) | (refine wpE_run rfl rfl (by simp) (fun w1 hx1 _ K hK => by go_step; exact hK _ (Ext.refl _)) ?_; simp only [put_lit, List.set_cons_succ, List.set_cons_zero]))
        (first | (refine wpE_move rfl rfl rfl ?_; simp only [put_lit, eval_lit, BigFrame.eval_const, List.set_cons_succ, List.set_cons_zero, List.getD_cons_succ, List.getD_cons_zero]) | (refine wpE_run rfl rfl (by simp) (fun w1 hx1 _ K hK => by go_step; exact hK _ (Ext.refl _)) ?_; simp only [put_lit, List.set_cons_succ, List.set_cons_zero]))
        (first | (refine wpE_move rfl rfl rfl ?_; simp only [put_lit, eval_lit, BigFrame.eval_const, List.set_cons_succ, List.set_cons_zero, List.getD_cons_succ, List.getD_cons_zero]) | (refine wpE_run rfl rfl (by simp) (fun w1 hx1 _ K hK => by go_step; exact hK _ (Ext.refl _)) ?_; simp only [put_lit, List.set_cons_succ, List.set_cons_zero]))
        (first | (refine wpE_move rfl rfl rfl ?_; simp only [put_lit, eval_lit, BigFrame.eval_const, List.set_cons_succ, List.set_cons_zero, List.getD_cons_succ, List.getD_cons_zero]) | (refine wpE_run rfl rfl (by simp) (fun w1 hx1 _ K hK => by go_step; exact hK _ (Ext.refl _)) ?_; simp only [put_lit, List.set_cons_succ, List.set_cons_zero]))
        (first | (refine wpE_move rfl rfl rfl ?_; simp only [put_lit, eval_lit, BigFrame.eval_const, List.set_cons_succ, List.set_cons_zero, List.getD_cons_succ, List.getD_cons_zero]) | (refine wpE_run rfl rfl (by simp) (fun w1 hx1 _ K hK => by go_step; exact hK _ (Ext.refl _)) ?_; simp only [put_lit, List.set_cons_succ, List.set_cons_zero]))
        (first | (refine wpE_move rfl rfl rfl ?_; simp only [put_lit, eval_lit, BigFrame.eval_const, List.set_cons_succ, List.set_cons_zero, List.getD_cons_succ, List.getD_cons_zero]) | (refine wpE_run rfl rfl (by simp) (fun w1 hx1 _ K hK => by go_step; exact hK _ (Ext.refl _)) ?_; simp only [put_lit, List.set_cons_succ, List.set_cons_zero]))
        refine wpE_run rfl rfl (by simp) (fun w' hx' _ K9 hK9 => wp_loadA 55 _ rfl _ 0 12 rfl agg55 sz55 _ _ (HT6.out.ext hx') (by rw [turnA_size]; omega) (row 12 N) (turnA_nonce _ _ _ _) (hK9 _ (Ext.refl _))) ?_
        simp only [put_lit, List.set_cons_succ, List.set_cons_zero]
        refine wpE_alloc rfl zero55 rfl (by simp) rfl (fun u16 => ?_)
        simp only [put_lit, List.set_cons_succ, List.set_cons_zero]
        (first | (refine wpE_move rfl rfl rfl ?_; simp only [put_lit, eval_lit, BigFrame.eval_const, List.set_cons_succ, List.set_cons_zero, List.getD_cons_succ, List.getD_cons_zero]) | (refine wpE_run rfl rfl (by simp) (fun w1 hx1 _ K hK => by go_step; exact hK _ (Ext.refl _)) ?_; simp only [put_lit, List.set_cons_succ, List.set_cons_zero]))
        (first | (refine wpE_move rfl rfl rfl ?_; simp only [put_lit, eval_lit, BigFrame.eval_const, List.set_cons_succ, List.set_cons_zero, List.getD_cons_succ, List.getD_cons_zero]) | (refine wpE_run rfl rfl (by simp) (fun w1 hx1 _ K hK => by go_step; exact hK _ (Ext.refl _)) ?_; simp only [put_lit, List.set_cons_succ, List.set_cons_zero]))
        refine wpE_nil ?_
        intro w7 hw7 hF
        simp only [List.drop_succ_cons, List.drop_zero]
        obtain ⟨gn, rfl, hgn, hbn⟩ := hF _ (List.mem_cons_self ..)
        clear hF
        refine wl_storeA rfl 55 _ _ rfl gn 0 12 rfl (row 12 N) rfl sz55 (row_size _ _) _ _ hbn (by simp [row_size]) (row_one _ _) (row 12 N) (lay_all _ _ (by simp [row_size])) ?_
        have hn8 := hbn.setRow (row 12 N)
        have hx8 : Ext w6 (w7.setRow gn (row 12 N)) := below_setRow hw7 hgn _
        generalize w7.setRow gn (row 12 N) = w8 at hn8 hx8 ⊢
        have HN8 := Lib.hid hn8
        have HX8 := Lib.hid hx8
        have HT8 := Lib.hid (HT6.out.ext hx8)
        have hcw : w8.cell? ⟨w.heap.size + 1, 12, none⟩ = some (.int .i64 wh) := (HT8.out.cell 12).trans (turnA_which _ _ _ _)
        have HGN := Lib.hid (show w6.heap.size ≤ gn from hgn)
        clear hn8 hx8 hbn hw7 hgn
        try simp only [put_lit, put_no, put_nil7, List.set_cons_succ, List.set_cons_zero]
        go_wp2_with fail
        refine (bring_any wh 4 (by omega) (by omega) _).mono ?_
        rintro e9 w9 ⟨rfl, rfl⟩
        clear hcw
        have hr4 : (wh % ((4 : Nat) : Int)).toNat < 4 := by omega
        generalize (wh % ((4 : Nat) : Int)).toNat = r at hr4 ⊢
        have hca : w8.cell? ⟨w.heap.size + 1, 13, none⟩ = some (.int .i64 at') := (HT8.out.cell 13).trans (turnA_at _ _ _ _)
        have HCA := Lib.hid hca
        clear hca
        have HP8 := Lib.hid (HP.out.ext (HX6.out.trans HX8.out))
        have HQ8 := Lib.hid (HQ.out.ext (HX6.out.trans HX8.out))
        have HS18 := Lib.hid (HS1.out.ext HX8.out)
        have HS28 := Lib.hid (HS2.out.ext HX8.out)
        have HGL := Lib.hid HS1.out.lt
        have HEL := Lib.hid HQ.out.lt
        go_upto_block 0 with fail
        go_cut [8, 14, 15, 17, 18] (fun v8 v14 v15 v17 _ wx => CutR w6 wx gn p q (Kn n) (ksn n (keyF n f)) N g e v8 v14 v15 v17)
        case first =>
          rcases (by omega : r = 0 ∨ r = 1 ∨ r = 2 ∨ r = 3) with rfl | rfl | rfl | rfl
          · skip
            have hca := HCA.out
            go_wp2_with (refine wl_loadA rfl 23 _ rfl _ 14 16 rfl agg23 sz23 _ _ HT8.out (by rw [turnA_size]; omega) (row 16 B) (turnA_bits _ _ _ _) ?_)
            refine (turned44_any _ p _ B at' _ (by omega) HS18.out HBL.out).mono ?_
            rintro e10 w10 ⟨v10, q0, k0, s, rfl, ho, hx10, hs1, hs2, hk0⟩
            have hlt10 := ho.lt
            have HR := Lib.hid (show CutR w6 w10 gn p q (Kn n) (ksn n (keyF n f)) N g e (.slice so q tc) v10 (.slice (some ⟨gb, ob + p, none⟩) 16 (rc - p)) (.bool s) from ⟨turnK q0 k0 (hideP (Kn n) (ksn n (keyF n f)) N g) B, (byP (tagN (Kn n) (ksn n (keyF n f)) N p q (hideP (Kn n) (ksn n (keyF n f)) N g) e)), e, N, s, rfl, ho.rd, HS28.out.ext hx10, HQ8.out.ext hx10, HN8.out.ext hx10, hX, HX8.out.trans hx10, fun hs => ⟨fun i _ => turn_same (hs2 hs) i, fun _ _ => rfl, fun _ _ => rfl, fun _ _ => rfl⟩, fun hs => by
              obtain ⟨j, hj, hjp, hb⟩ := hs1 hs
              exact nw_gen (Kn_ge1 n) HKS.out (by omega) (by omega) hX hX HGL.out HEL.out hlt10 HEL.out (Ne.symm (tag_text (Kn_ge1 n) HKS.out HNE.out (by omega) (by omega) HEL.out HGL.out hlt10 q0 (16 * q0 + j) hjp (turn_ne hj hb) (fun i _ hi => (turn_other hk0 i hi).symm)))⟩)
            clear ho hx10 hs1 hs2 hk0 hca hlt10
            go_wp2_with fail
            go_meet
            case rel => exact HR.out
          · skip
            have hca := HCA.out
            go_wp2_with (refine wl_loadA rfl 23 _ rfl _ 14 16 rfl agg23 sz23 _ _ HT8.out (by rw [turnA_size]; omega) (row 16 B) (turnA_bits _ _ _ _) ?_)
            refine (turned44_any _ 16 _ B 0 _ (by omega) HS28.out HBL.out).mono ?_
            rintro e10 w10 ⟨v10, q0, k0, s, rfl, ho, hx10, hs1, hs2, hk0⟩
            have hlt10 := ho.lt
            have HR := Lib.hid (show CutR w6 w10 gn p q (Kn n) (ksn n (keyF n f)) N g e (.slice so q tc) (.slice (some ⟨gb, ob, none⟩) p rc) v10 (.bool s) from ⟨(hideP (Kn n) (ksn n (keyF n f)) N g), turnK q0 k0 (byP (tagN (Kn n) (ksn n (keyF n f)) N p q (hideP (Kn n) (ksn n (keyF n f)) N g) e)) B, e, N, s, rfl, HS18.out.ext hx10, ho.rd, HQ8.out.ext hx10, HN8.out.ext hx10, hX, HX8.out.trans hx10, fun hs => ⟨fun _ _ => rfl, fun i _ => turn_same (hs2 hs) i, fun _ _ => rfl, fun _ _ => rfl⟩, fun hs => by
              obtain ⟨j, hj, hjp, hb⟩ := hs1 hs
              exact nw_tag (by omega) (16 * q0 + j) hjp (turn_ne hj hb)⟩)
            clear ho hx10 hs1 hs2 hk0 hca hlt10
            go_wp2_with fail
            go_meet
            case rel => exact HR.out
          · skip
            have hca := HCA.out
            go_wp2_with (refine wl_loadA rfl 23 _ rfl _ 14 16 rfl agg23 sz23 _ _ HT8.out (by rw [turnA_size]; omega) (row 16 B) (turnA_bits _ _ _ _) ?_)
            refine (turned44_any _ q _ B at' _ (by omega) HQ8.out HBL.out).mono ?_
            rintro e10 w10 ⟨v10, q0, k0, s, rfl, ho, hx10, hs1, hs2, hk0⟩
            have hlt10 := ho.lt
            have HR := Lib.hid (show CutR w6 w10 gn p q (Kn n) (ksn n (keyF n f)) N g e v10 (.slice (some ⟨gb, ob, none⟩) p rc) (.slice (some ⟨gb, ob + p, none⟩) 16 (rc - p)) (.bool s) from ⟨(hideP (Kn n) (ksn n (keyF n f)) N g), (byP (tagN (Kn n) (ksn n (keyF n f)) N p q (hideP (Kn n) (ksn n (keyF n f)) N g) e)), turnK q0 k0 e B, N, s, rfl, HS18.out.ext hx10, HS28.out.ext hx10, ho.rd, HN8.out.ext hx10, hX, HX8.out.trans hx10, fun hs => ⟨fun _ _ => rfl, fun _ _ => rfl, fun i _ => turn_same (hs2 hs) i, fun _ _ => rfl⟩, fun hs => by
              obtain ⟨j, hj, hjp, hb⟩ := hs1 hs
              exact nw_gen (Kn_ge1 n) HKS.out (by omega) (by omega) hX hX HGL.out HEL.out HGL.out hlt10 (Ne.symm (tag_head (Kn_ge1 n) HKS.out HNE.out (by omega) (by omega) HEL.out hlt10 HGL.out q0 (16 * q0 + j) hjp (turn_ne hj hb) (fun i _ hi => (turn_other hk0 i hi).symm)))⟩)
            clear ho hx10 hs1 hs2 hk0 hca hlt10
            go_wp2_with fail
            go_meet
            case rel => exact HR.out
          · skip
            go_wp2_with fail
            go_loopw [18] (fun v18 wr => ∃ i : Nat, i ≤ 12 ∧ v18 = .int .i64 i ∧ Blk wr gn 55 (row 12 (mixF i (fun j => N j ^^^ B j) N)) ∧ Ext w6 wr) (fun v18 _ => 12 - (intOf v18).toNat)
            case atStart => exact ⟨0, by omega, rfl, by rw [mixF_zero]; exact HN8.out, HX8.out⟩
            case round =>
              obtain ⟨i, hi, rfl, hbn, hx⟩ := hrel
              have HBN := Lib.hid hbn
              have HXR := Lib.hid hx
              clear hbn hx
              by_cases hi12 : i < 12
              · have hi' : (i : Int) < 12 := by omega
                have hi16 : (i : Int) < 16 := by omega
                have hnb := HBN.out.byte i hi12
                rw [mixF_at] at hnb
                have hbb := ((HT6.out.ext HXR.out).cell (14 + i)).trans (turnA_byte N wh at' B i (by omega))
                have HNB := Lib.hid hnb
                have HBB := Lib.hid hbb
                have l1 := hX i hi12
                have l2 := HBL.out i (by omega)
                clear hnb hbb
                go_upto_region 18 with fail
                apply wp_region_mid 10 [.det _, .det _, .det _, .det _, .det _, .det _, .det _, .det _, .det _, .det _] (by kernel_rfl) rfl (by kernel_rfl)
                · (first | (refine wpE_move rfl rfl rfl ?_; simp only [put_lit, eval_lit, BigFrame.eval_const, List.set_cons_succ, List.set_cons_zero, List.getD_cons_succ, List.getD_cons_zero]) | (refine wpE_run rfl rfl (by simp) (fun w1 hx1 _ K hK => by go_step; exact hK _ (Ext.refl _)) ?_; simp only [put_lit, List.set_cons_succ, List.set_cons_zero]))
                  (first | (refine wpE_move rfl rfl rfl ?_; simp only [put_lit, eval_lit, BigFrame.eval_const, List.set_cons_succ, List.set_cons_zero, List.getD_cons_succ, List.getD_cons_zero]) | (refine wpE_run rfl rfl (by simp) (fun w1 hx1 _ K hK => by go_step; exact hK _ (Ext.refl _)) ?_; simp only [put_lit, List.set_cons_succ, List.set_cons_zero]))
                  (first | (refine wpE_move rfl rfl rfl ?_; simp only [put_lit, eval_lit, BigFrame.eval_const, List.set_cons_succ, List.set_cons_zero, List.getD_cons_succ, List.getD_cons_zero]) | (refine wpE_run rfl rfl (by simp) (fun w1 hx1 _ K hK => by go_step; exact hK _ (Ext.refl _)) ?_; simp only [put_lit, List.set_cons_succ, List.set_cons_zero]))
                  (refine wpE_run rfl rfl (by simp) (fun w1 hx1 _ K hK => by have hc := hx1.cell HNB.out; go_step; exact hK _ (Ext.refl _)) ?_); simp only [put_lit, List.set_cons_succ, List.set_cons_zero]
                  (first | (refine wpE_move rfl rfl rfl ?_; simp only [put_lit, eval_lit, BigFrame.eval_const, List.set_cons_succ, List.set_cons_zero, List.getD_cons_succ, List.getD_cons_zero]) | (refine wpE_run rfl rfl (by simp) (fun w1 hx1 _ K hK => by go_step; exact hK _ (Ext.refl _)) ?_; simp only [put_lit, List.set_cons_succ, List.set_cons_zero]))
                  (first | (refine wpE_move rfl rfl rfl ?_; simp only [put_lit, eval_lit, BigFrame.eval_const, List.set_cons_succ, List.set_cons_zero, List.getD_cons_succ, List.getD_cons_zero]) | (refine wpE_run rfl rfl (by simp) (fun w1 hx1 _ K hK => by go_step; exact hK _ (Ext.refl _)) ?_; simp only [put_lit, List.set_cons_succ, List.set_cons_zero]))
                  (first | (refine wpE_move rfl rfl rfl ?_; simp only [put_lit, eval_lit, BigFrame.eval_const, List.set_cons_succ, List.set_cons_zero, List.getD_cons_succ, List.getD_cons_zero]) | (refine wpE_run rfl rfl (by simp) (fun w1 hx1 _ K hK => by go_step; exact hK _ (Ext.refl _)) ?_; simp only [put_lit, List.set_cons_succ, List.set_cons_zero]))
                  (refine wpE_run rfl rfl (by simp) (fun w1 hx1 _ K hK => by have hc := hx1.cell HBB.out; go_step; exact hK _ (Ext.refl _)) ?_); simp only [put_lit, List.set_cons_succ, List.set_cons_zero]
                  (first | (refine wpE_move rfl rfl rfl ?_; simp only [put_lit, eval_lit, BigFrame.eval_const, List.set_cons_succ, List.set_cons_zero, List.getD_cons_succ, List.getD_cons_zero]) | (refine wpE_run rfl rfl (by simp) (fun w1 hx1 _ K hK => by go_step; exact hK _ (Ext.refl _)) ?_; simp only [put_lit, List.set_cons_succ, List.set_cons_zero]))
                  rw [u8_xor_nat _ _ l1 l2]
                  (first | (refine wpE_move rfl rfl rfl ?_; simp only [put_lit, eval_lit, BigFrame.eval_const, List.set_cons_succ, List.set_cons_zero, List.getD_cons_succ, List.getD_cons_zero]) | (refine wpE_run rfl rfl (by simp) (fun w1 hx1 _ K hK => by go_step; exact hK _ (Ext.refl _)) ?_; simp only [put_lit, List.set_cons_succ, List.set_cons_zero]))
                  (refine wpE_nil ?_; intro w2 hw2 hF; simp only [List.drop_succ_cons, List.drop_zero])
                  clear hF
                  have hcc := hw2.cell HNB.out
                  have hff := (HBN.out.ext hw2).frozen i
                  have HW := Lib.hid hw2
                  clear hw2
                  go_wp2_with fail
                  go_roundw
                  case rel =>
                    refine ⟨i + 1, by omega, by go_num, ?_, (HXR.out.trans HW.out).setCell HGN.out _⟩
                    rw [← mixF_upd]
                    exact (HBN.out.ext HW.out).setB i _
                  case measure => simp [intOf]; omega
              · obtain rfl : i = 12 := by omega
                have hi' : ¬ ((12 : Nat) : Int) < 12 := by omega
                have hbn := HBN.out
                rw [show row 12 (mixF 12 (fun j => N j ^^^ B j) N) = row 12 (fun j => N j ^^^ B j) from row_congr fun j hj => by simp only [mixF]; rw [if_pos hj]] at hbn
                have HBX := Lib.hid hbn
                have HTX := Lib.hid (HT6.out.ext HXR.out)
                have hXl : ∀ j, j < 12 → N j ^^^ B j < 256 := fun j hj => xor_lt (hX j hj) (HBL.out j (by omega))
                have HR := Lib.hid (show CutR w6 wr gn p q (Kn n) (ksn n (keyF n f)) N g e (.slice so q tc) (.slice (some ⟨gb, ob, none⟩) p rc) (.slice (some ⟨gb, ob + p, none⟩) 16 (rc - p)) (.bool (!eqN 12 (fun j => N j ^^^ B j) N)) from
                  ⟨(hideP (Kn n) (ksn n (keyF n f)) N g), (byP (tagN (Kn n) (ksn n (keyF n f)) N p q (hideP (Kn n) (ksn n (keyF n f)) N g) e)), e, (fun j => N j ^^^ B j), _, rfl, HS1.out.ext HXR.out, HS2.out.ext HXR.out, HQ.out.ext (HX6.out.trans HXR.out), HBX.out, hXl, HXR.out,
                    fun hs => ⟨fun _ _ => rfl, fun _ _ => rfl, fun _ _ => rfl, fun j hj => eqN_iff.1 (by simpa using hs) j hj⟩, fun hs => by
                    have hs' : eqN 12 (fun j => N j ^^^ B j) N = false := by simpa using hs
                    have hd := eqN_false.1 hs'
                    have : ∃ i0, i0 < 12 ∧ N i0 ≠ N i0 ^^^ B i0 := by
                      refine Classical.byContradiction fun hno => hd fun i hi => ?_
                      refine Classical.byContradiction fun hne => hno ⟨i, hi, fun e => hne e.symm⟩
                    obtain ⟨i0, hi0, hd0⟩ := this
                    exact nw_gen (Kn_ge1 n) HKS.out (by omega) (by omega) hX hXl HGL.out HEL.out HGL.out HEL.out (Ne.symm (tag_nonce (Kn_ge1 n) HKS.out hX hXl i0 hi0 hd0))⟩)
                clear hbn HBN hXl
                go_wp2_with (first | (refine wl_loadA rfl 55 _ rfl _ 0 12 rfl agg55 sz55 _ _ HBX.out (by simp [row_size]) (row 12 (fun j => N j ^^^ B j)) (row_whole _ _) ?_) | (refine wl_loadA rfl 55 _ rfl _ 0 12 rfl agg55 sz55 _ _ HTX.out (by rw [turnA_size]; omega) (row 12 N) (turnA_nonce _ _ _ _) ?_) | (refine wl_neq55 rfl (.tmp 97) (.tmp 99) rfl (fun j => N j ^^^ B j) N rfl rfl ?_))
                go_meet
                case rel => exact HR.out
        case rest =>
          obtain ⟨fs, ft, fh, N', s, rfl, hfs, hft, hfh, hbn, hN', hxc, hs0, hs1⟩ := hcut
          have HXC := Lib.hid hxc
          have HCC := Lib.hid (HC6.out.ext hxc)
          cases s with
          | true =>
            have HFS := Lib.hid hfs
            have HFT := Lib.hid hft
            have HFH := Lib.hid hfh
            have HNC := Lib.hid hbn
            have HNL := Lib.hid hN'
            have HNW := Lib.hid (hs1 rfl)
            clear hfs hft hfh hbn hN' hs0 hs1 hxc
            go_upto_region 26 with fail
            apply wp_region_midS (B := wc.heap.size) (sp := 138) (Gs := Keep p) (Keep.refl p) 13 [.det _, .det _, .det _, .any (fun (u : Value) (w : World) => OwnT w wc.heap.size u p fs), .det _, .any (RdV (p + 16) (joinF p fs ft)), .det _, .det _, .det _, .det _, .det _, .det _, .det _] (by kernel_rfl) rfl (by kernel_rfl)
            · skip
              (first | (refine wpE_moveZ rfl rfl rfl (by simp) ?_; simp only [put_lit, eval_lit, BigFrame.eval_const, List.set_cons_succ, List.set_cons_zero, List.getD_cons_succ, List.getD_cons_zero]) | (refine wpE_runZ rfl rfl (by simp) (by simp) (Nat.le_refl _) (fun w1 hx1 _ K hK => by go_step; exact hK _ (Ext.refl _)) ?_; simp only [put_lit, List.set_cons_succ, List.set_cons_zero]))
              refine wpE_runZ rfl rfl (by simp) (by simp) (Nat.le_refl _) (fun w' hx' _ K9 hK9 => wp_loadA 55 _ rfl _ 0 12 rfl agg55 sz55 _ _ (Blk.ext HNC.out hx') (by simp [row_size]) (row 12 N') (row_whole _ _) (hK9 _ (Ext.refl _))) ?_
              simp only [put_lit, List.set_cons_succ, List.set_cons_zero]
              (first | (refine wpE_moveZ rfl rfl rfl (by simp) ?_; simp only [put_lit, eval_lit, BigFrame.eval_const, List.set_cons_succ, List.set_cons_zero, List.getD_cons_succ, List.getD_cons_zero]) | (refine wpE_runZ rfl rfl (by simp) (by simp) (Nat.le_refl _) (fun w1 hx1 _ K hK => by go_step; exact hK _ (Ext.refl _)) ?_; simp only [put_lit, List.set_cons_succ, List.set_cons_zero]))
              refine wpE_anyZ (V := (fun (u : Value) (w : World) => OwnT w wc.heap.size u p fs)) rfl (fun _ _ _ hx h => OwnT.ext h hx) (.inr (fun _ _ _ hk h => OwnT.keep h hk)) rfl (by simp) (by simp) (Nat.le_refl _) (fun w1 hx1 _ K9 hK9 => by have hxe : Ext wc w1 := hx1; go_wp2_with (go_at_call 18; refine (copyT_any _ p fs _ (by omega) (HFS.out.ext hxe)).mono ?_; rintro e2 w2 ⟨v2, rfl, ho2, hx2⟩; exact hK9 _ _ hx2 (OwnT.mono ho2 hxe.size))) ?_
              intro u136
              simp only [put_lit, List.set_cons_succ, List.set_cons_zero]
              (first | (refine wpE_moveZ rfl rfl rfl (by simp) ?_; simp only [put_lit, eval_lit, BigFrame.eval_const, List.set_cons_succ, List.set_cons_zero, List.getD_cons_succ, List.getD_cons_zero]) | (refine wpE_runZ rfl rfl (by simp) (by simp) (Nat.le_refl _) (fun w1 hx1 _ K hK => by go_step; exact hK _ (Ext.refl _)) ?_; simp only [put_lit, List.set_cons_succ, List.set_cons_zero]))
              refine wpE_writeZ (V := RdV (p + 16) (joinF p fs ft)) rfl (fun _ _ _ hx h => h.mono hx) rfl (by simp) (fun w1 hx1 hfc K9 hK9 => by have hxe : Ext wc w1 := hx1; have h136 : OwnT w1 wc.heap.size u136 p fs := hfc (136, (fun (u : Value) (w : World) => OwnT w wc.heap.size u p fs) u136) (by simp) (by show (136 : Nat) ∈ _; decide); exact wp_appendT (.tmp 136) (.tmp 137) rfl wc.heap.size _ _ p 16 fs ft (joinF p fs ft) rfl rfl h136 (HFT.out.ext hxe) hxe.size (by omega) (by omega) (fun i hi => joinF_lt i hi) (fun j _ => joinF_ge j) (fun v' w' hr hb hk => hK9 _ _ hb hk hr)) ?_
              intro u138
              simp only [put_lit, List.set_cons_succ, List.set_cons_zero]
              (first | (refine wpE_moveZ rfl rfl rfl (by simp) ?_; simp only [put_lit, eval_lit, BigFrame.eval_const, List.set_cons_succ, List.set_cons_zero, List.getD_cons_succ, List.getD_cons_zero]) | (refine wpE_runZ rfl rfl (by simp) (by simp) (Nat.le_refl _) (fun w1 hx1 _ K hK => by go_step; exact hK _ (Ext.refl _)) ?_; simp only [put_lit, List.set_cons_succ, List.set_cons_zero]))
              refine wpE_runZ rfl rfl (by simp) (by simp) (Nat.le_refl _) (fun w1 hx1 hfc K9 hK9 => by have h138 := Lib.hid (show RdF w1 u138 (p + 16) (joinF p fs ft) from hfc (138, RdV (p + 16) (joinF p fs ft) u138) (by simp) (by show (138 : Nat) ∈ _; decide)); clear hfc; have hxe : Ext wc w1 := hx1; go_wp2_with (go_at_call 42; refine (open42_any _ _ (p + 16) q b (Kn n) (joinF p fs ft) fh N' (ksn n (keyF n f)) _ (by omega) (by omega) h138.out (HFH.out.ext hxe) HNL.out (HCC.out.ext hxe) (Kn_ge n) (Kn_le n)).mono ?_; rintro e2 w2 ⟨hx2, h2⟩; rcases h2 with ⟨hw, _⟩ | ⟨_, rfl⟩; exact absurd hw HNW.out; exact hK9 _ hx2)) ?_
              simp only [put_lit, List.set_cons_succ, List.set_cons_zero]
              (first | (refine wpE_moveZ rfl rfl rfl (by simp) ?_; simp only [put_lit, eval_lit, BigFrame.eval_const, List.set_cons_succ, List.set_cons_zero, List.getD_cons_succ, List.getD_cons_zero]) | (refine wpE_runZ rfl rfl (by simp) (by simp) (Nat.le_refl _) (fun w1 hx1 _ K hK => by go_step; exact hK _ (Ext.refl _)) ?_; simp only [put_lit, List.set_cons_succ, List.set_cons_zero]))
              (first | (refine wpE_moveZ rfl rfl rfl (by simp) ?_; simp only [put_lit, eval_lit, BigFrame.eval_const, List.set_cons_succ, List.set_cons_zero, List.getD_cons_succ, List.getD_cons_zero]) | (refine wpE_runZ rfl rfl (by simp) (by simp) (Nat.le_refl _) (fun w1 hx1 _ K hK => by go_step; exact hK _ (Ext.refl _)) ?_; simp only [put_lit, List.set_cons_succ, List.set_cons_zero]))
              (first | (refine wpE_moveZ rfl rfl rfl (by simp) ?_; simp only [put_lit, eval_lit, BigFrame.eval_const, List.set_cons_succ, List.set_cons_zero, List.getD_cons_succ, List.getD_cons_zero]) | (refine wpE_runZ rfl rfl (by simp) (by simp) (Nat.le_refl _) (fun w1 hx1 _ K hK => by go_step; exact hK _ (Ext.refl _)) ?_; simp only [put_lit, List.set_cons_succ, List.set_cons_zero]))
              (first | (refine wpE_moveZ rfl rfl rfl (by simp) ?_; simp only [put_lit, eval_lit, BigFrame.eval_const, List.set_cons_succ, List.set_cons_zero, List.getD_cons_succ, List.getD_cons_zero]) | (refine wpE_runZ rfl rfl (by simp) (by simp) (Nat.le_refl _) (fun w1 hx1 _ K hK => by go_step; exact hK _ (Ext.refl _)) ?_; simp only [put_lit, List.set_cons_succ, List.set_cons_zero]))
              (first | (refine wpE_moveZ rfl rfl rfl (by simp) ?_; simp only [put_lit, eval_lit, BigFrame.eval_const, List.set_cons_succ, List.set_cons_zero, List.getD_cons_succ, List.getD_cons_zero]) | (refine wpE_runZ rfl rfl (by simp) (by simp) (Nat.le_refl _) (fun w1 hx1 _ K hK => by go_step; exact hK _ (Ext.refl _)) ?_; simp only [put_lit, List.set_cons_succ, List.set_cons_zero]))
              refine wpE_nilZ ?_
              intro w20 hw20 hF
              simp only [List.drop_succ_cons, List.drop_zero]
              have hx20 : Ext wc w20 := hw20
              have HXF := Lib.hid ((HX6.out.trans HXC.out).trans hx20)
              clear hF hw20 hx20
              go_wp2_with fail
              go_ret
              exact ⟨rfl, HXF.out⟩
          | false =>
            obtain ⟨s1, s2, s3, s4⟩ := hs0 rfl
            have HFS := Lib.hid (hfs.congr (h := (hideP (Kn n) (ksn n (keyF n f)) N g)) (fun i hi => (s1 i hi).symm))
            have HFT := Lib.hid (hft.congr (h := (byP (tagN (Kn n) (ksn n (keyF n f)) N p q (hideP (Kn n) (ksn n (keyF n f)) N g) e))) (fun i hi => (s2 i hi).symm))
            have HFH := Lib.hid (hfh.congr (h := e) (fun i hi => (s3 i hi).symm))
            have HNC := Lib.hid (show Blk wc gn 55 (row 12 N) from by rw [← row_congr s4]; exact hbn)
            clear hfs hft hfh hbn hN' hs0 hs1 hxc s1 s2 s3 s4
            go_upto_region 26 with fail
            apply wp_region_midS (B := wc.heap.size) (sp := 138) (Gs := Keep p) (Keep.refl p) 13 [.det _, .det _, .det _, .any (fun (u : Value) (w : World) => OwnT w wc.heap.size u p (hideP (Kn n) (ksn n (keyF n f)) N g)), .det _, .any (RdV (p + 16) (joinF p (hideP (Kn n) (ksn n (keyF n f)) N g) (byP (tagN (Kn n) (ksn n (keyF n f)) N p q (hideP (Kn n) (ksn n (keyF n f)) N g) e)))), .det _, .any (TupV p g), .any (TupV p g), .any (RdV p g), .det _, .any (RdV p g), .det _] (by kernel_rfl) rfl (by kernel_rfl)
            · skip
              (first | (refine wpE_moveZ rfl rfl rfl (by simp) ?_; simp only [put_lit, eval_lit, BigFrame.eval_const, List.set_cons_succ, List.set_cons_zero, List.getD_cons_succ, List.getD_cons_zero]) | (refine wpE_runZ rfl rfl (by simp) (by simp) (Nat.le_refl _) (fun w1 hx1 _ K hK => by go_step; exact hK _ (Ext.refl _)) ?_; simp only [put_lit, List.set_cons_succ, List.set_cons_zero]))
              refine wpE_runZ rfl rfl (by simp) (by simp) (Nat.le_refl _) (fun w' hx' _ K9 hK9 => wp_loadA 55 _ rfl _ 0 12 rfl agg55 sz55 _ _ (Blk.ext HNC.out hx') (by simp [row_size]) (row 12 N) (row_whole _ _) (hK9 _ (Ext.refl _))) ?_
              simp only [put_lit, List.set_cons_succ, List.set_cons_zero]
              (first | (refine wpE_moveZ rfl rfl rfl (by simp) ?_; simp only [put_lit, eval_lit, BigFrame.eval_const, List.set_cons_succ, List.set_cons_zero, List.getD_cons_succ, List.getD_cons_zero]) | (refine wpE_runZ rfl rfl (by simp) (by simp) (Nat.le_refl _) (fun w1 hx1 _ K hK => by go_step; exact hK _ (Ext.refl _)) ?_; simp only [put_lit, List.set_cons_succ, List.set_cons_zero]))
              refine wpE_anyZ (V := (fun (u : Value) (w : World) => OwnT w wc.heap.size u p (hideP (Kn n) (ksn n (keyF n f)) N g))) rfl (fun _ _ _ hx h => OwnT.ext h hx) (.inr (fun _ _ _ hk h => OwnT.keep h hk)) rfl (by simp) (by simp) (Nat.le_refl _) (fun w1 hx1 _ K9 hK9 => by have hxe : Ext wc w1 := hx1; go_wp2_with (go_at_call 18; refine (copyT_any _ p (hideP (Kn n) (ksn n (keyF n f)) N g) _ (by omega) (HFS.out.ext hxe)).mono ?_; rintro e2 w2 ⟨v2, rfl, ho2, hx2⟩; exact hK9 _ _ hx2 (OwnT.mono ho2 hxe.size))) ?_
              intro u136
              simp only [put_lit, List.set_cons_succ, List.set_cons_zero]
              (first | (refine wpE_moveZ rfl rfl rfl (by simp) ?_; simp only [put_lit, eval_lit, BigFrame.eval_const, List.set_cons_succ, List.set_cons_zero, List.getD_cons_succ, List.getD_cons_zero]) | (refine wpE_runZ rfl rfl (by simp) (by simp) (Nat.le_refl _) (fun w1 hx1 _ K hK => by go_step; exact hK _ (Ext.refl _)) ?_; simp only [put_lit, List.set_cons_succ, List.set_cons_zero]))
              refine wpE_writeZ (V := RdV (p + 16) (joinF p (hideP (Kn n) (ksn n (keyF n f)) N g) (byP (tagN (Kn n) (ksn n (keyF n f)) N p q (hideP (Kn n) (ksn n (keyF n f)) N g) e)))) rfl (fun _ _ _ hx h => h.mono hx) rfl (by simp) (fun w1 hx1 hfc K9 hK9 => by have hxe : Ext wc w1 := hx1; have h136 : OwnT w1 wc.heap.size u136 p (hideP (Kn n) (ksn n (keyF n f)) N g) := hfc (136, (fun (u : Value) (w : World) => OwnT w wc.heap.size u p (hideP (Kn n) (ksn n (keyF n f)) N g)) u136) (by simp) (by show (136 : Nat) ∈ _; decide); exact wp_appendT (.tmp 136) (.tmp 137) rfl wc.heap.size _ _ p 16 (hideP (Kn n) (ksn n (keyF n f)) N g) (byP (tagN (Kn n) (ksn n (keyF n f)) N p q (hideP (Kn n) (ksn n (keyF n f)) N g) e)) (joinF p (hideP (Kn n) (ksn n (keyF n f)) N g) (byP (tagN (Kn n) (ksn n (keyF n f)) N p q (hideP (Kn n) (ksn n (keyF n f)) N g) e))) rfl rfl h136 (HFT.out.ext hxe) hxe.size (by omega) (by omega) (fun i hi => joinF_lt i hi) (fun j _ => joinF_ge j) (fun v' w' hr hb hk => hK9 _ _ hb hk hr)) ?_
              intro u138
              simp only [put_lit, List.set_cons_succ, List.set_cons_zero]
              (first | (refine wpE_moveZ rfl rfl rfl (by simp) ?_; simp only [put_lit, eval_lit, BigFrame.eval_const, List.set_cons_succ, List.set_cons_zero, List.getD_cons_succ, List.getD_cons_zero]) | (refine wpE_runZ rfl rfl (by simp) (by simp) (Nat.le_refl _) (fun w1 hx1 _ K hK => by go_step; exact hK _ (Ext.refl _)) ?_; simp only [put_lit, List.set_cons_succ, List.set_cons_zero]))
              refine wpE_anyZ (V := TupV p g) rfl (fun _ _ _ hx h => h.mono hx) (.inl (by kernel_rfl)) rfl (by simp) (by simp) (Nat.le_refl _) (fun w1 hx1 hfc K9 hK9 => by have h138 := Lib.hid (show RdF w1 u138 (p + 16) (joinF p (hideP (Kn n) (ksn n (keyF n f)) N g) (byP (tagN (Kn n) (ksn n (keyF n f)) N p q (hideP (Kn n) (ksn n (keyF n f)) N g) e))) from hfc (138, RdV (p + 16) (joinF p (hideP (Kn n) (ksn n (keyF n f)) N g) (byP (tagN (Kn n) (ksn n (keyF n f)) N p q (hideP (Kn n) (ksn n (keyF n f)) N g) e))) u138) (by simp) (by show (138 : Nat) ∈ _; decide)); clear hfc; have hxe : Ext wc w1 := hx1; go_wp2_with (go_at_call 42; refine (opened42_any _ _ p q b (Kn n) g e N (ksn n (keyF n f)) _ (by omega) (by omega) h138.out (HFH.out.ext hxe) hX (HCC.out.ext hxe) (Kn_ge n) (Kn_le n)).mono ?_; rintro e2 w2 ⟨v2, rfl, ho2, hx2⟩; exact hK9 _ _ hx2 ⟨v2, rfl, ho2.rd⟩)) ?_
              intro u140
              simp only [put_lit, List.set_cons_succ, List.set_cons_zero]
              refine wpE_anyZ (V := TupV p g) rfl (fun _ _ _ hx h => h.mono hx) (.inl (by kernel_rfl)) rfl (by simp) (by simp) (Nat.le_refl _) (fun w1 hx1 hfc K9 hK9 => by have h47 := hfc (140, TupV p g u140) (by simp) (by show (140 : Nat) ∈ _; decide); go_step; exact hK9 _ _ (Ext.refl _) h47) ?_
              intro u132
              simp only [put_lit, List.set_cons_succ, List.set_cons_zero]
              refine wpE_anyZ (V := RdV p g) rfl (fun _ _ _ hx h => h.mono hx) (.inl (by kernel_rfl)) rfl (by simp) (by simp) (Nat.le_refl _) (fun w1 hx1 hfc K9 hK9 => by obtain ⟨v', rfl, hr⟩ := hfc (132, TupV p g u132) (by simp) (by show (132 : Nat) ∈ _; decide); go_step; exact hK9 _ _ (Ext.refl _) hr) ?_
              intro u141
              simp only [put_lit, List.set_cons_succ, List.set_cons_zero]
              refine wpE_runZ rfl rfl (by simp) (by simp) (Nat.le_refl _) (fun w1 hx1 hfc K9 hK9 => by obtain ⟨v', rfl, hr⟩ := hfc (132, TupV p g u132) (by simp) (by show (132 : Nat) ∈ _; decide); go_step; exact hK9 _ (Ext.refl _)) ?_
              simp only [put_lit, List.set_cons_succ, List.set_cons_zero]
              refine wpE_anyZ (V := RdV p g) rfl (fun _ _ _ hx h => h.mono hx) (.inl (by kernel_rfl)) rfl (by simp) (by simp) (Nat.le_refl _) (fun w1 hx1 hfc K9 hK9 => by have hr := hfc (141, RdV p g u141) (by simp) (by show (141 : Nat) ∈ _; decide); go_step; exact hK9 _ _ (Ext.refl _) hr) ?_
              intro u19
              simp only [put_lit, List.set_cons_succ, List.set_cons_zero]
              (first | (refine wpE_moveZ rfl rfl rfl (by simp) ?_; simp only [put_lit, eval_lit, BigFrame.eval_const, List.set_cons_succ, List.set_cons_zero, List.getD_cons_succ, List.getD_cons_zero]) | (refine wpE_runZ rfl rfl (by simp) (by simp) (Nat.le_refl _) (fun w1 hx1 _ K hK => by go_step; exact hK _ (Ext.refl _)) ?_; simp only [put_lit, List.set_cons_succ, List.set_cons_zero]))
              refine wpE_nilZ ?_
              intro w20 hw20 hF
              simp only [List.drop_succ_cons, List.drop_zero]
              have hx20 : Ext wc w20 := hw20
              have HXF := Lib.hid ((HX6.out.trans HXC.out).trans hx20)
              have H19 := Lib.hid (show RdF w20 u19 p g from hF (19, RdV p g u19) (by simp))
              clear hF hw20 hx20
              obtain ⟨ao, ac, rfl, _⟩ := H19.out.len
              go_wp2_with fail
              refine (eqb41_any _ _ p p _ _ _ H19.out (HP.out.ext HXF.out)).mono ?_
              rintro e21 w21 ⟨rfl, hx21⟩
              rw [eqU_true rfl (fun _ _ => rfl)]
              have HXG := Lib.hid (HXF.out.trans hx21)
              clear hx21
              go_wp2_with fail
              go_ret
              exact ⟨rfl, HXG.out⟩
end Go.Proofs.Ytnigpobbckampaa
