/- The law's turned; appending to a copy where it lies: walked. -/
import Derived.Test.YtnigpobbckampaaJ9
import Derived.Test.YtnigpobbckampaaR3
import Derived.Test.YtnigpobbckampaaP3
import Derived.Test.YtnigpobbckampaaP9
namespace Go.Proofs.Ytnigpobbckampaa
open Go.RowKit
set_option linter.unusedSimpArgs false
set_option linter.unusedVariables false

/-- The first L cells of each block stay. -/
def Keep (L : Nat) (w w' : World) : Prop := ∀ (j : Nat) (cs : Array Value) (t : TypeId) (fr : Nat × Nat), w.heap[j]? = some (Obj.cells cs t fr) → ∃ cs', w'.heap[j]? = some (Obj.cells cs' t fr) ∧ cs'.size = cs.size ∧ ∀ i, i < L → cs'[i]? = cs[i]?
theorem Keep.refl (L : Nat) (w : World) : Keep L w w := fun _ cs _ _ h => ⟨cs, h, rfl, fun _ _ => rfl⟩
theorem Keep.of_ext {L : Nat} {w w' : World} (hx : Ext w w') : Keep L w w' := fun _ cs _ _ h => ⟨cs, hx.heap h, rfl, fun _ _ => rfl⟩
theorem OwnT.keep {w w' : World} {b n : Nat} {v : Value} {f : Nat → Nat} (h : OwnT w b v n f) (hk : Keep n w w') : OwnT w' b v n f := by
  rcases h with h | ⟨g, cap, cur, hv, hb, hB, hc, hs, hf⟩
  · exact .inl h
  · obtain ⟨cs', hB', hsz, hcs⟩ := hk g cur 5 (0, 0) hB
    exact .inr ⟨g, cap, cs', hv, hb, hB', hc, by omega, fun i hi => ⟨(hf i hi).1, (hcs i hi).trans (hf i hi).2⟩⟩

theorem run_appendT (w : World) (base : Nat) (ty : TypeId) (v x : Value) (n m : Nat) (f s h : Nat → Nat) (ho : OwnT w base v n f) (hx : RdF w x m s) (hb : base ≤ w.heap.size) (hnm : n + m ≤ 140737488355328) (hm : 0 < m)
    (h1 : ∀ i, i < n → h i = f i) (h2 : ∀ j, j < m → h (n + j) = s j) :
    ∃ v' w', (Builtin.append_ #[22, 22] ty #[v, x]).run Try.prog w = .ok v' w' ∧ RdF w' v' (n + m) h ∧ Below base w w' ∧ Keep n w w' := by
  obtain ⟨i0, hi, hz0, hz1, hz2⟩ := info_parts info5
  have hlt : ∀ i, i < n + m → h i < 256 := by
    intro i hi
    by_cases hin : i < n
    · rw [h1 i hin]; exact ho.own.lt i hin
    · have := h2 (i - n) (by omega)
      rw [show n + (i - n) = i by omega] at this
      rw [this]; exact hx.lt _ (by omega)
  obtain ⟨gs, os, cs, rfl, hcs, hcell⟩ := hx.form hm
  have hnews : ∀ j u, (bs m s)[j]? = some u → w.cell? ((⟨gs, os, none⟩ : Addr).add j) = some u := by
    intro j u hj
    obtain ⟨hjm, rfl⟩ := bs_inv hj
    rw [Addr.add_lit]
    exact (hcell j hjm).2
  rcases ho with ⟨rfl, rfl⟩ | ⟨g, cap, cur, rfl, hg, hB, hc, hsz, hf⟩
  · obtain ⟨v', w', hr, hown, hgr, _⟩ := run_append_own (P := Try.prog) w base 22 ty 5 i0 (.int .u8 0) 1 1 Try.underlying22 hi hz0 hz1 hz2 rfl (by decide) (.slice none 0 0) 0 [] (World.ownsRow_nil _ _ _ _) ⟨gs, os, none⟩ m cs (bs m s) (by simp [bs_length]) hnews (bs_one _ _)
      (by unfold maxLen; omega) (by omega) hb
    have hxx : Ext w w' := Below.grownF hgr (Nat.le_refl _) (fun k hk => by cases hk)
    refine ⟨v', w', hr, ?_, Below.mono hxx hb, Keep.of_ext hxx⟩
    have e : ([] : List Value) ++ bs m s = bs (0 + m) h := bs_append 0 m f s h h1 h2
    rw [e] at hown
    exact (own_of_row hlt hown).rd
  · by_cases hroom : n + m ≤ cap
    · have hst := run_storeCells_at Try.prog g n 5 (bs m s) 0 cur w hB (by rw [bs_length]; omega) (bs_one _ _)
      simp only [Nat.add_zero] at hst
      have hfc := run_firstCells_some (P := Try.prog) w 1 m ⟨gs, os, none⟩ m cs (bs m s) (by simp [bs_length]) hnews
      have hr : (Builtin.append_ #[22, 22] ty #[.slice (some ⟨g, 0, none⟩) n cap, .slice (some ⟨gs, os, none⟩) m cs]).run Try.prog w = .ok (.slice (some ⟨g, 0, none⟩) (n + m) cap) (w.setRow g (cur.toList.take n ++ bs m s ++ cur.toList.drop (n + (bs m s).length)).toArray) := by
        simp [Builtin.append_, run_underlying Try.underlying22, sizeOf, typeInfo, hi, hz1, Builtin.lenOf, hroom, hfc, Addr.add_lit, hst]
      have hsize : (cur.toList.take n ++ bs m s ++ cur.toList.drop (n + (bs m s).length)).toArray.size = cur.size := by simp [bs_length]; omega
      have hget : ∀ i, (cur.toList.take n ++ bs m s ++ cur.toList.drop (n + (bs m s).length)).toArray[i]? = if i < n then cur[i]? else if i < n + m then (bs m s)[i - n]? else cur[i]? := by
        intro i
        have hl := lay_get cur n (bs m s).toArray (by simp [bs_length]; omega) i
        unfold lay at hl
        simp only [List.size_toArray, bs_length, List.getElem?_toArray] at hl ⊢
        exact hl
      refine ⟨_, _, hr, ?_, below_setRow (Below.refl _ _) hg _, ?_⟩
      · refine ⟨_, _, rfl, hroom, fun h => (by cases h), fun i hi' => ⟨hlt i hi', _, rfl, ?_⟩⟩
        rw [Addr.add_lit, Nat.zero_add, (hB.setRow _).cell, hget]
        by_cases hin : i < n
        · rw [if_pos hin, h1 i hin]; exact (hf i hin).2
        · rw [if_neg hin, if_pos hi', bs_get _ _ _ (by omega), ← h2 _ (by omega), show n + (i - n) = i by omega]
      · intro j cs0 t0 fr0 hj
        by_cases hjg : j = g
        · subst hjg
          have e0 := hj.symm.trans hB
          injection e0 with e0
          injection e0 with e1 e2 e3
          subst e1 e2 e3
          refine ⟨_, hB.setRow _, hsize, fun i hi' => ?_⟩
          rw [hget, if_pos hi']
        · exact ⟨cs0, (_root_.Go.setRow_other w g j _ hjg).trans hj, rfl, fun _ _ => rfl⟩
    · have holds : ∀ j u, (bs n f)[j]? = some u → w.cell? ((⟨g, 0, none⟩ : Addr).add j) = some u := by
        intro j u hj
        obtain ⟨hjn, rfl⟩ := bs_inv hj
        rw [Addr.add_lit, Nat.zero_add, hB.cell]
        exact (hf j hjn).2
      obtain ⟨v', w', hr, hown, hgr⟩ := run_append_arg_grows (P := Try.prog) w 22 ty 5 i0 (.int .u8 0) 1 1 Try.underlying22 hi hz0 hz1 hz2 rfl (by decide) ⟨g, 0, none⟩ n cap (bs n f) (by simp [bs_length]) holds ⟨gs, os, none⟩ m cs (bs m s) (by simp [bs_length]) hnews
        (by omega) (by unfold maxLen; omega) (by omega)
      have hxx : Ext w w' := Below.grownF hgr (Nat.le_refl _) (fun k hk => by cases hk)
      refine ⟨v', w', hr, ?_, Below.mono hxx hb, Keep.of_ext hxx⟩
      rw [bs_append n m f s h h1 h2] at hown
      exact ((own_of_row hlt hown).mono hb).rd
theorem wp_appendT {o : Oper} {a : Act} {w : World} {Q : Exit → Act → World → Prop} {K : Act → World → Prop} (s x : Operand) (hop : o.op = .call { callee := .builtin .append, args := #[s, x], argTypes := #[22, 22] }) (base : Nat) (v X : Value) (n m : Nat) (f sf h : Nat → Nat)
    (hs : a.eval s = v) (hx : a.eval x = X) (ho : OwnT w base v n f) (hX : RdF w X m sf) (hb : base ≤ w.heap.size) (hnm : n + m ≤ 140737488355328) (hm : 0 < m)
    (h1 : ∀ i, i < n → h i = f i) (h2 : ∀ j, j < m → h (n + j) = sf j)
    (hK : ∀ v' w', RdF w' v' (n + m) h → Below base w w' → Keep n w w' → K (a.put o.dst v') w') : o.wp Try.prog a w K Q := by
  obtain ⟨v', w', hr, ho', hb', hk'⟩ := run_appendT w base o.type v X n m f sf h ho hX hb hnm hm h1 h2
  have := hK v' w' ho' hb' hk'
  unfold Oper.wp
  simp [execOp, hop, resolve, invoke, builtin, hs, hx, hr, Result.andThen, Oper.upon]
  exact this

/-- Bits of the q-th block turned. -/
def turnK (q k : Nat) (f B : Nat → Nat) : Nat → Nat := fun i => if 16 * q ≤ i ∧ i < 16 * q + k then f i ^^^ B (i - 16 * q) else f i
theorem turnK_zero (q : Nat) (f B : Nat → Nat) : turnK q 0 f B = f := by funext i; unfold turnK; rw [if_neg (by omega)]
theorem turnK_at (q k : Nat) (f B : Nat → Nat) : turnK q k f B (16 * q + k) = f (16 * q + k) := by unfold turnK; rw [if_neg (by omega)]
theorem turnK_upd (q k : Nat) (f B : Nat → Nat) : upd (turnK q k f B) (16 * q + k) (f (16 * q + k) ^^^ B k) = turnK q (k + 1) f B := by
  funext i
  unfold upd turnK
  by_cases h : i = 16 * q + k
  · subst h; rw [if_pos rfl, if_pos (by omega), Nat.add_sub_cancel_left]
  · rw [if_neg h]
    by_cases h2 : 16 * q ≤ i ∧ i < 16 * q + k
    · rw [if_pos h2, if_pos (by omega)]
    · rw [if_neg h2, if_neg (by omega)]

/-- What turned answers. -/
def TurnedP (w : World) (n : Nat) (f B : Nat → Nat) (e : Ending) (w' : World) : Prop := ∃ v' q k s, e = .returned (.tuple #[v', .bool s]) ∧ OwnF w' w.heap.size v' n (turnK q k f B) ∧ Ext w w' ∧
  (s = true → ∃ j, j < k ∧ 16 * q + j < n ∧ B j ≠ 0) ∧ (s = false → ∀ j, j < k → B j = 0) ∧ k ≤ 16
set_option maxRecDepth 100000 in
set_option maxHeartbeats 1000000 in
theorem turned44_any (v : Value) (n : Nat) (f B : Nat → Nat) (at' : Int) (w : World) (hn : n ≤ 1000) (hv : RdF w v n f) (hB : ∀ j, j < 16 → B j < 256) :
    Calls Try.prog 44 #[v, .int .i64 at', .agg (row 16 B)] w fun e w' => TurnedP w n f B e w' := by
  obtain ⟨ao, cap, rfl, hcap⟩ := hv.len
  have HV := Lib.hid hv
  have HBL := Lib.hid hB
  clear hv hB
  go_enter Try.func44, Try.ntmps44
  go_upto_region 1 with (refine wl_boxA rfl 23 _ rfl _ rfl ?_)
  have hb0 : Blk (w.alloc (.cells (row 16 B) 23)) w.heap.size 23 (row 16 B) := Blk.new _ _ _
  have hx0 : Ext w (w.alloc (.cells (row 16 B) 23)) := Ext.alloc _ _
  try simp only [put_lit, put_nil7, List.set_cons_succ, List.set_cons_zero]
  generalize w.alloc (.cells (row 16 B) 23) = w1 at hb0 hx0 ⊢
  have HB := Lib.hid hb0
  have HX := Lib.hid hx0
  clear hb0 hx0
  go_wp2_with fail
  refine (copyT_any _ n f _ (by omega) (HV.out.ext HX.out)).mono ?_
  rintro e w2 ⟨v2, rfl, hk2, hx2⟩
  obtain ⟨ko, kc, rfl, hkc⟩ := hk2.len
  have HO := Lib.hid hk2
  have HX2 := Lib.hid hx2
  have HQD := Lib.hid (show ((n : Int) / 16 + 1) = ((n / 16 + 1 : Nat) : Int) from by omega)
  clear hk2 hx2
  go_wp2_with fail
  rw [HQD.out]
  refine (bring_any at' (n / 16 + 1) (by omega) (by omega) _).mono ?_
  rintro e w3 ⟨rfl, rfl⟩
  obtain ⟨q, hq⟩ : ∃ q : Nat, q = (at' % ((n / 16 + 1 : Nat) : Int)).toNat := ⟨_, rfl⟩
  have hqn : q ≤ n / 16 := by
    have h1 := Int.emod_lt_of_pos at' (show (0 : Int) < ((n / 16 + 1 : Nat) : Int) by omega)
    have h2 := Int.emod_nonneg at' (show ((n / 16 + 1 : Nat) : Int) ≠ 0 by omega)
    omega
  rw [← hq]
  clear hq HQD
  have hq16 : 16 * q ≤ n := by omega
  go_wp2_with fail
  go_loopw [9, 11] (fun v9 v11 wr => ∃ k s, k ≤ 16 ∧ 16 * q + k ≤ n ∧ v9 = .bool s ∧ v11 = .int .i64 ((16 * q + k : Nat) : Int) ∧ OwnT wr w1.heap.size (.slice ko n kc) n (turnK q k f B) ∧ (s = true → ∃ j, j < k ∧ B j ≠ 0) ∧ (s = false → ∀ j, j < k → B j = 0) ∧ Ext w1 wr) (fun _ v11 _ => 16 * q + 16 - (intOf v11).toNat)
  case atStart => exact ⟨0, false, by omega, by omega, rfl, by simp, by rw [turnK_zero]; exact HO.out, fun h => (by cases h), fun _ j hj => absurd hj (Nat.not_lt_zero _), HX2.out⟩
  case round =>
    clear HO HX2
    obtain ⟨k, s, hk, hkn, rfl, rfl, ho, hs1, hs2, hx⟩ := hrel
    have HO := Lib.hid ho
    have HX2 := Lib.hid hx
    have HS1 := Lib.hid hs1
    have HS2 := Lib.hid hs2
    clear ho hx hs1 hs2
    have HR := Lib.hid (HO.out.own.mono HX.out.size)
    have HEND := Lib.hid (show TurnedP w n f B (.returned (.tuple #[.slice ko n kc, .bool s])) wr from
      ⟨_, q, k, s, rfl, HR.out, HX.out.trans HX2.out, fun h => by obtain ⟨j, hj, hb⟩ := HS1.out h; exact ⟨j, hj, by omega, hb⟩, HS2.out, hk⟩)
    by_cases hgo : k < 16 ∧ 16 * q + k < n
    · have h1' : 16 * (q : Int) + (k : Int) < 16 * (q : Int) + 16 := by omega
      have h2' : 16 * (q : Int) + (k : Int) < (n : Int) := by omega
      have h3' : (k : Int) < 16 := by omega
      obtain ⟨g, kc', cur, he, hg, hK1, hc1, hc2, hf⟩ := HO.out.form (by omega)
      obtain ⟨rfl, rfl⟩ : ko = some ⟨g, 0, none⟩ ∧ kc = kc' := by cases he; exact ⟨rfl, rfl⟩
      obtain ⟨hfl, hcur⟩ := hf (16 * q + k) hgo.2
      rw [turnK_at] at hfl hcur
      have HC1 := Lib.hid (show wr.cell? ⟨g, 16 * q + k, none⟩ = some (.int .u8 ((f (16 * q + k) : Nat) : Int)) from (hK1.cell _).trans hcur)
      have HC2 := Lib.hid ((HB.out.ext HX2.out).byte k hgo.1)
      have hbl := HBL.out k hgo.1
      have HK := Lib.hid hK1
      have HGO := Lib.hid hgo
      have hne : w.heap.size ≠ g := by have := HB.out.lt; omega
      have HKI := Lib.hid (show (16 * (q : Int) + (k : Int) - 16 * (q : Int)) = (k : Int) from by omega)
      clear he hf hcur hK1 hgo HEND HR
      go_upto_region 7 with fail
      apply wp_region_mid 13 [.det _, .det _, .det _, .det _, .det _, .det _, .det _, .det _, .det _, .det _, .det _, .det _, .det _] (by kernel_rfl) rfl (by kernel_rfl)
      · (first | (refine wpE_move rfl rfl rfl ?_; simp only [put_lit, eval_lit, BigFrame.eval_const, List.set_cons_succ, List.set_cons_zero, List.getD_cons_succ, List.getD_cons_zero]) | (refine wpE_run rfl rfl (by simp) (fun w1 hx1 _ K hK => by go_step; exact hK _ (Ext.refl _)) ?_; simp only [put_lit, List.set_cons_succ, List.set_cons_zero]))
        (first | (refine wpE_move rfl rfl rfl ?_; simp only [put_lit, eval_lit, BigFrame.eval_const, List.set_cons_succ, List.set_cons_zero, List.getD_cons_succ, List.getD_cons_zero]) | (refine wpE_run rfl rfl (by simp) (fun w1 hx1 _ K hK => by go_step; exact hK _ (Ext.refl _)) ?_; simp only [put_lit, List.set_cons_succ, List.set_cons_zero]))
        (first | (refine wpE_move rfl rfl rfl ?_; simp only [put_lit, eval_lit, BigFrame.eval_const, List.set_cons_succ, List.set_cons_zero, List.getD_cons_succ, List.getD_cons_zero]) | (refine wpE_run rfl rfl (by simp) (fun w1 hx1 _ K hK => by go_step; exact hK _ (Ext.refl _)) ?_; simp only [put_lit, List.set_cons_succ, List.set_cons_zero]))
        (first | (refine wpE_move rfl rfl rfl ?_; simp only [put_lit, eval_lit, BigFrame.eval_const, List.set_cons_succ, List.set_cons_zero, List.getD_cons_succ, List.getD_cons_zero]) | (refine wpE_run rfl rfl (by simp) (fun w1 hx1 _ K hK => by go_step; exact hK _ (Ext.refl _)) ?_; simp only [put_lit, List.set_cons_succ, List.set_cons_zero]))
        (first | (refine wpE_move rfl rfl rfl ?_; simp only [put_lit, eval_lit, BigFrame.eval_const, List.set_cons_succ, List.set_cons_zero, List.getD_cons_succ, List.getD_cons_zero]) | (refine wpE_run rfl rfl (by simp) (fun w1 hx1 _ K hK => by go_step; exact hK _ (Ext.refl _)) ?_; simp only [put_lit, List.set_cons_succ, List.set_cons_zero]))
        (refine wpE_run rfl rfl (by simp) (fun w1 hx1 _ K hK => by have hc := hx1.cell HC1.out; go_step; exact hK _ (Ext.refl _)) ?_); simp only [put_lit, List.set_cons_succ, List.set_cons_zero]
        (first | (refine wpE_move rfl rfl rfl ?_; simp only [put_lit, eval_lit, BigFrame.eval_const, List.set_cons_succ, List.set_cons_zero, List.getD_cons_succ, List.getD_cons_zero]) | (refine wpE_run rfl rfl (by simp) (fun w1 hx1 _ K hK => by go_step; exact hK _ (Ext.refl _)) ?_; simp only [put_lit, List.set_cons_succ, List.set_cons_zero]))
        (first | (refine wpE_move rfl rfl rfl ?_; simp only [put_lit, eval_lit, BigFrame.eval_const, List.set_cons_succ, List.set_cons_zero, List.getD_cons_succ, List.getD_cons_zero]) | (refine wpE_run rfl rfl (by simp) (fun w1 hx1 _ K hK => by go_step; exact hK _ (Ext.refl _)) ?_; simp only [put_lit, List.set_cons_succ, List.set_cons_zero]))
        (first | (refine wpE_move rfl rfl rfl ?_; simp only [put_lit, eval_lit, BigFrame.eval_const, List.set_cons_succ, List.set_cons_zero, List.getD_cons_succ, List.getD_cons_zero]) | (refine wpE_run rfl rfl (by simp) (fun w1 hx1 _ K hK => by go_step; exact hK _ (Ext.refl _)) ?_; simp only [put_lit, List.set_cons_succ, List.set_cons_zero]))
        try rw [HKI.out]
        (first | (refine wpE_move rfl rfl rfl ?_; simp only [put_lit, eval_lit, BigFrame.eval_const, List.set_cons_succ, List.set_cons_zero, List.getD_cons_succ, List.getD_cons_zero]) | (refine wpE_run rfl rfl (by simp) (fun w1 hx1 _ K hK => by go_step; exact hK _ (Ext.refl _)) ?_; simp only [put_lit, List.set_cons_succ, List.set_cons_zero]))
        (refine wpE_run rfl rfl (by simp) (fun w1 hx1 _ K hK => by have hc := hx1.cell HC2.out; go_step; exact hK _ (Ext.refl _)) ?_); simp only [put_lit, List.set_cons_succ, List.set_cons_zero]
        (first | (refine wpE_move rfl rfl rfl ?_; simp only [put_lit, eval_lit, BigFrame.eval_const, List.set_cons_succ, List.set_cons_zero, List.getD_cons_succ, List.getD_cons_zero]) | (refine wpE_run rfl rfl (by simp) (fun w1 hx1 _ K hK => by go_step; exact hK _ (Ext.refl _)) ?_; simp only [put_lit, List.set_cons_succ, List.set_cons_zero]))
        rw [u8_xor_nat _ _ hfl hbl]
        (first | (refine wpE_move rfl rfl rfl ?_; simp only [put_lit, eval_lit, BigFrame.eval_const, List.set_cons_succ, List.set_cons_zero, List.getD_cons_succ, List.getD_cons_zero]) | (refine wpE_run rfl rfl (by simp) (fun w1 hx1 _ K hK => by go_step; exact hK _ (Ext.refl _)) ?_; simp only [put_lit, List.set_cons_succ, List.set_cons_zero]))
        (refine wpE_nil ?_; intro w2 hw2 hF; simp only [List.drop_succ_cons, List.drop_zero])
        clear hF
        have hcc := hw2.cell HC1.out
        have hff := (HK.out.ext hw2).frozen (16 * q + k)
        have hc4 : (w2.setCell ⟨g, 16 * q + k, none⟩ (.int .u8 ((f (16 * q + k) ^^^ B k : Nat) : Int))).cell? ⟨w.heap.size, k, none⟩ = some (.int .u8 ((B k : Nat) : Int)) :=
          (((HB.out.ext (HX2.out.trans hw2)).other (a := ⟨g, 16 * q + k, none⟩) (.int .u8 ((f (16 * q + k) ^^^ B k : Nat) : Int)) hne).byte k HGO.out.1)
        have ho4 := (HO.out.ext hw2).stored (16 * q + k) _ (xor_lt hfl hbl) HGO.out.2
        rw [turnK_upd] at ho4
        have hx4 : Ext w1 (w2.setCell ⟨g, 16 * q + k, none⟩ (.int .u8 ((f (16 * q + k) ^^^ B k : Nat) : Int))) := (HX2.out.trans hw2).setCell hg _
        have HC4 := Lib.hid hc4
        have HO4 := Lib.hid ho4
        have HX4 := Lib.hid hx4
        clear hc4 ho4 hx4
        go_upto_region 8 with fail
        generalize w2.setCell ⟨g, 16 * q + k, none⟩ (.int .u8 ((f (16 * q + k) ^^^ B k : Nat) : Int)) = w4 at HC4 HO4 HX4 ⊢
        clear hcc hff hw2 HC1 HC2 HK HO HX2
        cases s with
        | true =>
          go_wp2_with fail
          go_roundw
          case rel =>
            have hgo := HGO.out
            refine ⟨k + 1, true, by omega, by omega, rfl, by go_num, HO4.out, fun _ => ?_, fun h => (by cases h), HX4.out⟩
            obtain ⟨j, hj, hb⟩ := HS1.out rfl
            exact ⟨j, by omega, hb⟩
          case measure => have hgo := HGO.out; simp [intOf]; omega
        | false =>
          have hc5 := HC4.out
          by_cases hz : B k = 0
          · have hz' : (((B k : Nat) : Int) != 0) = false := by simp [hz]
            go_wp2_with fail
            go_roundw
            case rel =>
              have hgo := HGO.out
              refine ⟨k + 1, false, by omega, by omega, rfl, by go_num, HO4.out, fun h => (by cases h), fun _ j hj => ?_, HX4.out⟩
              rcases Nat.lt_or_ge j k with h | h
              · exact HS2.out rfl j h
              · obtain rfl : j = k := by omega
                exact hz
            case measure => have hgo := HGO.out; simp [intOf]; omega
          · have hz' : (((B k : Nat) : Int) != 0) = true := by simp; omega
            go_wp2_with fail
            go_roundw
            case rel =>
              have hgo := HGO.out
              exact ⟨k + 1, true, by omega, by omega, rfl, by go_num, HO4.out, fun _ => ⟨k, by omega, hz⟩, fun h => (by cases h), HX4.out⟩
            case measure => have hgo := HGO.out; simp [intOf]; omega
    · by_cases hk16 : k < 16
      · have h1' : 16 * (q : Int) + (k : Int) < 16 * (q : Int) + 16 := by omega
        have h2' : ¬ 16 * (q : Int) + (k : Int) < (n : Int) := by omega
        go_wp2_with fail
        refine bodyPost_ret (v := .tuple #[.slice ko n kc, .bool s]) (by kernel_rfl) rfl ?_
        exact HEND.out
      · have h1' : ¬ 16 * (q : Int) + (k : Int) < 16 * (q : Int) + 16 := by omega
        go_wp2_with fail
        refine bodyPost_ret (v := .tuple #[.slice ko n kc, .bool s]) (by kernel_rfl) rfl ?_
        exact HEND.out
end Go.Proofs.Ytnigpobbckampaa
