/- Seal and Open where they refuse; appending to what stays. -/
import Derived.Test.YtnigpobbckampaaY9
import Derived.Test.YtnigpobbckampaaW1
namespace Go.Proofs.Ytnigpobbckampaa
open Go.RowKit
set_option linter.unusedSimpArgs false
set_option linter.unusedVariables false

set_option maxRecDepth 100000 in
set_option maxHeartbeats 1000000 in
theorem asked_nil (ao ho : Option Addr) (n c nh hc : Nat) (many : Nat) (w : World) :
    Calls Try.prog 60 #[.pointer none, .slice ao n c, .slice ho nh hc, .int .i64 many] w fun e w' => e = .returned (.int .i64 1) ∧ w = w' := by
  go_enter Try.func60, Try.ntmps60
  go_wp2_with fail
  go_ret
  exact ⟨rfl, rfl⟩
set_option maxRecDepth 100000 in
set_option maxHeartbeats 1000000 in
theorem asked_limit (b : Nat) (ao ho : Option Addr) (n c nh hc : Nat) (many : Nat) (w : World) (h : many < n ∨ 65536 < nh) :
    Calls Try.prog 60 #[.pointer (some ⟨b, 0, none⟩), .slice ao n c, .slice ho nh hc, .int .i64 many] w fun e w' => e = .returned (.int .i64 5) ∧ w = w' := by
  by_cases h1 : many < n
  · have h1' : (many : Int) < (n : Int) := by omega
    clear h
    go_enter Try.func60, Try.ntmps60
    go_wp2_with fail
    go_ret
    exact ⟨rfl, rfl⟩
  · have h1' : ¬ (many : Int) < (n : Int) := by omega
    have h2' : (65536 : Int) < (nh : Int) := by omega
    clear h
    go_enter Try.func60, Try.ntmps60
    go_wp2_with fail
    go_ret
    exact ⟨rfl, rfl⟩
set_option maxRecDepth 100000 in
set_option maxHeartbeats 1000000 in
theorem seal39_nil (po ho : Option Addr) (n pc nh hc : Nat) (nonce : Nat → Nat) (w : World) :
    Calls Try.prog 39 #[.pointer none, .agg (row 12 nonce), .slice po n pc, .slice ho nh hc] w fun e w' => e = .returned (.tuple #[.slice none 0 0, .int .i64 1]) ∧ Ext w w' := by
  go_enter Try.func39, Try.ntmps39
  go_upto_region 1 with (refine wl_boxA rfl 55 _ rfl _ rfl ?_)
  have hx0 : Ext w (w.alloc (.cells (row 12 nonce) 55)) := Ext.alloc _ _
  try simp only [put_lit, put_nil7, List.set_cons_succ, List.set_cons_zero]
  generalize w.alloc (.cells (row 12 nonce) 55) = w0 at hx0 ⊢
  have HX0 := Lib.hid hx0
  clear hx0
  go_wp2_with fail
  refine (asked_nil po ho n pc nh hc 65536 _).mono ?_
  rintro e w1 ⟨rfl, rfl⟩
  go_wp2_with fail
  refine bodyPost_ret (v := .tuple #[.slice none 0 0, .int .i64 1]) (by kernel_rfl) rfl ?_
  exact ⟨rfl, HX0.out⟩
set_option maxRecDepth 100000 in
set_option maxHeartbeats 1000000 in
theorem seal39_limit (po ho : Option Addr) (n pc nh hc b : Nat) (nonce : Nat → Nat) (w : World) (h : 65536 < n ∨ 65536 < nh) :
    Calls Try.prog 39 #[.pointer (some ⟨b, 0, none⟩), .agg (row 12 nonce), .slice po n pc, .slice ho nh hc] w fun e w' => e = .returned (.tuple #[.slice none 0 0, .int .i64 5]) ∧ Ext w w' := by
  have H := Lib.hid h
  clear h
  go_enter Try.func39, Try.ntmps39
  go_upto_region 1 with (refine wl_boxA rfl 55 _ rfl _ rfl ?_)
  have hx0 : Ext w (w.alloc (.cells (row 12 nonce) 55)) := Ext.alloc _ _
  try simp only [put_lit, put_nil7, List.set_cons_succ, List.set_cons_zero]
  generalize w.alloc (.cells (row 12 nonce) 55) = w0 at hx0 ⊢
  have HX0 := Lib.hid hx0
  clear hx0
  go_wp2_with fail
  refine (asked_limit b po ho n pc nh hc 65536 _ H.out).mono ?_
  rintro e w1 ⟨rfl, rfl⟩
  go_wp2_with fail
  refine bodyPost_ret (v := .tuple #[.slice none 0 0, .int .i64 5]) (by kernel_rfl) rfl ?_
  exact ⟨rfl, HX0.out⟩
set_option maxRecDepth 100000 in
set_option maxHeartbeats 1000000 in
theorem open42_nil (po ho : Option Addr) (n pc nh hc : Nat) (nonce : Nat → Nat) (w : World) :
    Calls Try.prog 42 #[.pointer none, .agg (row 12 nonce), .slice po n pc, .slice ho nh hc] w fun e w' => e = .returned (.tuple #[.slice none 0 0, .int .i64 1]) ∧ Ext w w' := by
  go_enter Try.func42, Try.ntmps42
  go_upto_region 1 with (refine wl_boxA rfl 55 _ rfl _ rfl ?_)
  have hx0 : Ext w (w.alloc (.cells (row 12 nonce) 55)) := Ext.alloc _ _
  try simp only [put_lit, put_nil7, List.set_cons_succ, List.set_cons_zero]
  generalize w.alloc (.cells (row 12 nonce) 55) = w0 at hx0 ⊢
  have HX0 := Lib.hid hx0
  clear hx0
  go_wp2_with fail
  refine (asked_nil po ho n pc nh hc 65552 _).mono ?_
  rintro e w1 ⟨rfl, rfl⟩
  go_wp2_with fail
  refine bodyPost_ret (v := .tuple #[.slice none 0 0, .int .i64 1]) (by kernel_rfl) rfl ?_
  exact ⟨rfl, HX0.out⟩
set_option maxRecDepth 100000 in
set_option maxHeartbeats 1000000 in
theorem open42_limit (po ho : Option Addr) (n pc nh hc b : Nat) (nonce : Nat → Nat) (w : World) (h : 65552 < n ∨ 65536 < nh) :
    Calls Try.prog 42 #[.pointer (some ⟨b, 0, none⟩), .agg (row 12 nonce), .slice po n pc, .slice ho nh hc] w fun e w' => e = .returned (.tuple #[.slice none 0 0, .int .i64 5]) ∧ Ext w w' := by
  have H := Lib.hid h
  clear h
  go_enter Try.func42, Try.ntmps42
  go_upto_region 1 with (refine wl_boxA rfl 55 _ rfl _ rfl ?_)
  have hx0 : Ext w (w.alloc (.cells (row 12 nonce) 55)) := Ext.alloc _ _
  try simp only [put_lit, put_nil7, List.set_cons_succ, List.set_cons_zero]
  generalize w.alloc (.cells (row 12 nonce) 55) = w0 at hx0 ⊢
  have HX0 := Lib.hid hx0
  clear hx0
  go_wp2_with fail
  refine (asked_limit b po ho n pc nh hc 65552 _ H.out).mono ?_
  rintro e w1 ⟨rfl, rfl⟩
  go_wp2_with fail
  refine bodyPost_ret (v := .tuple #[.slice none 0 0, .int .i64 5]) (by kernel_rfl) rfl ?_
  exact ⟨rfl, HX0.out⟩

theorem run_appendO (w : World) (base : Nat) (ty : TypeId) (v x : Value) (n m : Nat) (f s h : Nat → Nat) (ho : OwnF w base v n f) (hx : RdF w x m s) (hb : base ≤ w.heap.size) (hnm : n + m ≤ 140737488355328) (hm : 0 < m)
    (h1 : ∀ i, i < n → h i = f i) (h2 : ∀ j, j < m → h (n + j) = s j) :
    ∃ v' w', (Builtin.append_ #[22, 22] ty #[v, x]).run Try.prog w = .ok v' w' ∧ RdF w' v' (n + m) h ∧ Below base w w' ∧ RdF w' v n f := by
  obtain ⟨i0, hi, hz0, hz1, hz2⟩ := info_parts info5
  have hlt : ∀ i, i < n + m → h i < 256 := by
    intro i hi
    by_cases hin : i < n
    · rw [h1 i hin]; exact ho.lt i hin
    · have := h2 (i - n) (by omega)
      rw [show n + (i - n) = i by omega] at this
      rw [this]; exact hx.lt _ (by omega)
  have hrd := ho.rd
  obtain ⟨gs, os, cs, rfl, hcs, hcell⟩ := hx.form hm
  have hnews : ∀ j u, (bs m s)[j]? = some u → w.cell? ((⟨gs, os, none⟩ : Addr).add j) = some u := by
    intro j u hj
    obtain ⟨hjm, rfl⟩ := bs_inv hj
    rw [Addr.add_lit]
    exact (hcell j hjm).2
  rcases ho with ⟨rfl, rfl⟩ | ⟨g, off, cap, t, cur, rfl, hg, hB, hc, hsz, hf⟩
  · obtain ⟨v', w', hr, hown, hgr, _⟩ := run_append_own (P := Try.prog) w base 22 ty 5 i0 (.int .u8 0) 1 1 Try.underlying22 hi hz0 hz1 hz2 rfl (by decide) (.slice none 0 0) 0 [] (World.ownsRow_nil _ _ _ _) ⟨gs, os, none⟩ m cs (bs m s) (by simp [bs_length]) hnews (bs_one _ _)
      (by unfold maxLen; omega) (by omega) hb
    have hxx : Ext w w' := Below.grownF hgr (Nat.le_refl _) (fun k hk => by cases hk)
    refine ⟨v', w', hr, ?_, Below.mono hxx hb, hrd.ext hxx⟩
    have e : ([] : List Value) ++ bs m s = bs (0 + m) h := bs_append 0 m f s h h1 h2
    rw [e] at hown
    exact (own_of_row hlt hown).rd
  · by_cases hroom : n + m ≤ cap
    · have hst := run_storeCells_at Try.prog g (off + n) t (bs m s) 0 cur w hB (by rw [bs_length]; omega) (bs_one _ _)
      simp only [Nat.add_zero] at hst
      have hfc := run_firstCells_some (P := Try.prog) w 1 m ⟨gs, os, none⟩ m cs (bs m s) (by simp [bs_length]) hnews
      have hr : (Builtin.append_ #[22, 22] ty #[.slice (some ⟨g, off, none⟩) n cap, .slice (some ⟨gs, os, none⟩) m cs]).run Try.prog w = .ok (.slice (some ⟨g, off, none⟩) (n + m) cap) (w.setRow g (cur.toList.take (off + n) ++ bs m s ++ cur.toList.drop (off + n + (bs m s).length)).toArray) := by
        simp [Builtin.append_, run_underlying Try.underlying22, sizeOf, typeInfo, hi, hz1, Builtin.lenOf, hroom, hfc, Addr.add_lit, hst]
      have hget : ∀ i, (cur.toList.take (off + n) ++ bs m s ++ cur.toList.drop (off + n + (bs m s).length)).toArray[i]? = if i < off + n then cur[i]? else if i < off + n + m then (bs m s)[i - (off + n)]? else cur[i]? := by
        intro i
        have hl := lay_get cur (off + n) (bs m s).toArray (by simp [bs_length]; omega) i
        unfold lay at hl
        simp only [List.size_toArray, bs_length, List.getElem?_toArray] at hl ⊢
        exact hl
      refine ⟨_, _, hr, ?_, below_setRow (Below.refl _ _) hg _, ?_⟩
      · refine ⟨_, _, rfl, hroom, fun h => (by cases h), fun i hi' => ⟨hlt i hi', _, rfl, ?_⟩⟩
        rw [Addr.add_lit, (hB.setRow _).cell, hget]
        by_cases hin : i < n
        · rw [if_pos (by omega), h1 i hin]; exact (hf i hin).2
        · rw [if_neg (by omega), if_pos (by omega), show off + i - (off + n) = i - n by omega, bs_get _ _ _ (by omega), ← h2 _ (by omega), show n + (i - n) = i by omega]
      · refine ⟨_, _, rfl, hc, fun h => (by cases h), fun i hi' => ⟨(hf i hi').1, _, rfl, ?_⟩⟩
        rw [Addr.add_lit, (hB.setRow _).cell, hget, if_pos (by omega)]
        exact (hf i hi').2
    · have holds : ∀ j u, (bs n f)[j]? = some u → w.cell? ((⟨g, off, none⟩ : Addr).add j) = some u := by
        intro j u hj
        obtain ⟨hjn, rfl⟩ := bs_inv hj
        rw [Addr.add_lit, hB.cell]
        exact (hf j hjn).2
      obtain ⟨v', w', hr, hown, hgr⟩ := run_append_arg_grows (P := Try.prog) w 22 ty 5 i0 (.int .u8 0) 1 1 Try.underlying22 hi hz0 hz1 hz2 rfl (by decide) ⟨g, off, none⟩ n cap (bs n f) (by simp [bs_length]) holds ⟨gs, os, none⟩ m cs (bs m s) (by simp [bs_length]) hnews
        (by omega) (by unfold maxLen; omega) (by omega)
      have hxx : Ext w w' := Below.grownF hgr (Nat.le_refl _) (fun k hk => by cases hk)
      refine ⟨v', w', hr, ?_, Below.mono hxx hb, hrd.ext hxx⟩
      rw [bs_append n m f s h h1 h2] at hown
      exact ((own_of_row hlt hown).mono hb).rd
theorem wl_appendO {ops : Array Oper} {rest : List Oper} {o : Oper} {a : Act} {w : World} {Q : Exit → Act → World → Prop} (hgd : o.guard = none) (s x : Operand) (hop : o.op = .call { callee := .builtin .append, args := #[s, x], argTypes := #[22, 22] }) (base : Nat) (v X : Value) (n m : Nat) (f sf h : Nat → Nat)
    (hs : a.eval s = v) (hx : a.eval x = X) (ho : OwnF w base v n f) (hX : RdF w X m sf) (hb : base ≤ w.heap.size) (hnm : n + m ≤ 140737488355328) (hm : 0 < m)
    (h1 : ∀ i, i < n → h i = f i) (h2 : ∀ j, j < m → h (n + j) = sf j)
    (hK : ∀ v' w', RdF w' v' (n + m) h → Below base w w' → RdF w' v n f → wpList Try.prog ops Q rest (a.put o.dst v') w') : wpList Try.prog ops Q (o :: rest) a w :=
  wpList_plain hgd fun _ hK' => by
    obtain ⟨v', w', hr, ho', hb', hk'⟩ := run_appendO w base o.type v X n m f sf h ho hX hb hnm hm h1 h2
    have := hK' _ _ (hK v' w' ho' hb' hk')
    unfold Oper.wp
    simp [execOp, hop, resolve, invoke, builtin, hs, hx, hr, Result.andThen, Oper.upon]
    exact this
end Go.Proofs.Ytnigpobbckampaa
