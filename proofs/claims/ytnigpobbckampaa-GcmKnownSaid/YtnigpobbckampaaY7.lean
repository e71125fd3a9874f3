/- The sealed count blocks of a nonce, walked. hide, walked. -/
import Derived.Test.YtnigpobbckampaaL
import Derived.Test.YtnigpobbckampaaA3
import Derived.Test.YtnigpobbckampaaE0
import Derived.Test.YtnigpobbckampaaY2
namespace Go.Proofs.Ytnigpobbckampaa
open Go.RowKit
set_option linter.unusedSimpArgs false
set_option linter.unusedVariables false

/-- A count block, of which k bytes of the number are written. -/
def ctrK (nonce : Nat → Nat) (n k : Nat) : Nat → Nat := fun j => if j < 12 then nonce j else if j < 12 + k then n / 2 ^ (24 - 8 * (j - 12)) % 256 else 0
def ctrB (nonce : Nat → Nat) (n : Nat) : Nat → Nat := ctrK nonce n 4
theorem ctrB_lt {nonce : Nat → Nat} (h : ∀ j, j < 12 → nonce j < 256) (n : Nat) (j : Nat) : ctrB nonce n j < 256 := by
  unfold ctrB ctrK
  split
  · exact h j (by assumption)
  · split
    · exact Nat.mod_lt _ (by omega)
    · omega
theorem ctrK_upd (nonce : Nat → Nat) (n k : Nat) : upd (ctrK nonce n k) (12 + k) (n / 2 ^ (24 - 8 * k) % 256) = ctrK nonce n (k + 1) := by
  funext j
  simp only [upd, ctrK]
  by_cases h : j = 12 + k
  · subst h
    rw [if_pos rfl, if_neg (by omega), if_pos (by omega), Nat.add_sub_cancel_left]
  · rw [if_neg h]
    by_cases h2 : j < 12
    · rw [if_pos h2, if_pos h2]
    · rw [if_neg h2, if_neg h2]
      by_cases h3 : j < 12 + k
      · rw [if_pos h3, if_pos (by omega)]
      · rw [if_neg h3, if_neg (by omega)]

set_option maxHeartbeats 400000 in
theorem counted61_any (b : Nat) (nonce : Nat → Nat) (w : World) :
    Calls Try.prog 61 #[.pointer (some ⟨b, 0, none⟩), .agg (row 12 nonce)] w fun e w' => e = .returned (.func (.func 73) #[] #[.pointer (some ⟨w.heap.size + 1, 0, none⟩), .pointer (some ⟨w.heap.size, 0, none⟩)]) ∧
      w' = (w.alloc (.cells #[.pointer (some ⟨b, 0, none⟩)] 25)).alloc (.cells (row 12 nonce) 55) := by
  go_enter Try.func61, Try.ntmps61
  go_wp2_with (refine wl_boxA rfl 55 _ rfl _ rfl ?_)
  go_ret
  exact ⟨rfl, rfl⟩

set_option maxRecDepth 100000 in
set_option maxHeartbeats 1000000 in
theorem counted73_any (n gn gc b K : Nat) (nonce : Nat → Nat) (ks : Nat → Nat → Nat) (w : World) (hn : n ≤ 1000000) (hN : Blk w gn 55 (row 12 nonce)) (hNl : ∀ j, j < 12 → nonce j < 256)
    (hgc : w.cell? ⟨gc, 0, none⟩ = some (.pointer (some ⟨b, 0, none⟩))) (hC : Cph w b K ks) (hK : 2 ≤ K) (hK2 : K ≤ 1000) :
    Calls Try.prog 73 #[.int .i64 n, .pointer (some ⟨gn, 0, none⟩), .pointer (some ⟨gc, 0, none⟩)] w fun e w' => e = .returned (.agg (row 16 (blockP K ks (ctrB nonce n)))) ∧ Ext w w' := by
  go_enter Try.func73, Try.ntmps73
  go_upto_region 2 with (refine wl_allocA rfl 23 rfl _ zero23 ?_)
  have hA : Blk ((w.alloc (.cells (row 16 fun _ => 0) 23)).alloc (.cells (row 16 fun _ => 0) 23)) w.heap.size 23 (row 16 fun _ => 0) := (Blk.new _ _ _).alloc _
  have hB : Blk ((w.alloc (.cells (row 16 fun _ => 0) 23)).alloc (.cells (row 16 fun _ => 0) 23)) (w.heap.size + 1) 23 (row 16 fun _ => 0) := by
    have := Blk.new (w.alloc (.cells (row 16 fun _ => 0) 23)) 23 (row 16 fun _ => 0)
    simpa only [World.size_alloc] using this
  have hx : Ext w ((w.alloc (.cells (row 16 fun _ => 0) 23)).alloc (.cells (row 16 fun _ => 0) 23)) := (Ext.alloc _ _).trans (Ext.alloc _ _)
  simp only [put_lit, List.set_cons_succ, List.set_cons_zero, World.size_alloc]
  generalize (w.alloc (.cells (row 16 fun _ => 0) 23)).alloc (.cells (row 16 fun _ => 0) 23) = w1 at hA hB hx ⊢
  have HA := Lib.hid hA
  have HB := Lib.hid hB
  have HX := Lib.hid hx
  have HN := Lib.hid hN
  have HC := Lib.hid hC
  have hgw := hN.lt
  have hrd : RdF w1 (.slice (some ⟨gn, 0, none⟩) 12 12) 12 nonce := ⟨_, _, rfl, Nat.le_refl _, fun h => (by cases h), fun i hi => ⟨hNl i hi, _, rfl, by rw [Addr.add_lit, Nat.zero_add]; exact (hN.ext hx).byte i hi⟩⟩
  have HR := Lib.hid hrd
  have HGC := Lib.hid hgc
  clear hA hB hx hN hC hrd hgc
  apply wp_region_mid 2 [.det _, .det _] (by kernel_rfl) rfl (by kernel_rfl)
  · (first | (refine wpE_move rfl rfl rfl ?_; simp only [put_lit, eval_lit, BigFrame.eval_const, List.set_cons_succ, List.set_cons_zero, List.getD_cons_succ, List.getD_cons_zero]) | (refine wpE_run rfl rfl (by simp) (fun w1 hx1 _ K hK => by go_step; exact hK _ (Ext.refl _)) ?_; simp only [put_lit, List.set_cons_succ, List.set_cons_zero]))
    (first | (refine wpE_move rfl rfl rfl ?_; simp only [put_lit, eval_lit, BigFrame.eval_const, List.set_cons_succ, List.set_cons_zero, List.getD_cons_succ, List.getD_cons_zero]) | (refine wpE_run rfl rfl (by simp) (fun w1 hx1 _ K hK => by go_step; exact hK _ (Ext.refl _)) ?_; simp only [put_lit, List.set_cons_succ, List.set_cons_zero]))
    (refine wpE_nil ?_; intro w2 hw2 hF; simp only [List.drop_succ_cons, List.drop_zero])
    refine wl_copyF rfl (.tmp 7) (.tmp 8) rfl (w.heap.size + 1) 16 16 _ 12 nonce (fun _ => 0) 23 rfl rfl (HR.out.ext hw2) (by omega) (by omega) (HB.out.ext hw2) ?_
    have hb3 : Blk (w2.setRow (w.heap.size + 1) (row 16 (mixF 12 nonce fun _ => 0))) (w.heap.size + 1) 23 (row 16 (ctrK nonce n 0)) := by
      rw [show row 16 (ctrK nonce n 0) = row 16 (mixF 12 nonce fun _ => 0) from row_congr fun j hj => by
        simp only [ctrK, mixF]
        by_cases h : j < 12
        · rw [if_pos h, if_pos h]
        · rw [if_neg h, if_neg h, if_neg (by omega)]]
      exact (HB.out.ext hw2).setRow _
    have ha3 := (HA.out.ext hw2).setRow_other (k := w.heap.size + 1) (row 16 (mixF 12 nonce fun _ => 0)) (by omega)
    have hx3 := below_setRow (g := w.heap.size + 1) (HX.out.trans hw2) (by omega) (row 16 (mixF 12 nonce fun _ => 0))
    simp only [put_lit, List.set_cons_succ, List.set_cons_zero]
    generalize w2.setRow (w.heap.size + 1) (row 16 (mixF 12 nonce fun _ => 0)) = w3 at hb3 ha3 hx3 ⊢
    clear hF hw2 HA HB HX HR
    go_wp2_with fail
    go_loopw [10] (fun v10 wr => ∃ k : Nat, k ≤ 4 ∧ v10 = .int .i64 k ∧ Blk wr w.heap.size 23 (row 16 fun _ => 0) ∧ Blk wr (w.heap.size + 1) 23 (row 16 (ctrK nonce n k)) ∧ Ext w wr) (fun v10 _ => 4 - (intOf v10).toNat)
    case atStart => exact ⟨0, by omega, rfl, ha3, hb3, hx3⟩
    case round =>
      clear ha3 hb3 hx3
      obtain ⟨k, hk, rfl, ha, hb, hx⟩ := hrel
      have HA := Lib.hid ha
      have HB := Lib.hid hb
      have HX := Lib.hid hx
      by_cases hk4 : k < 4
      · have hk' : (k : Int) < 4 := by omega
        have c1 := hb.byte (12 + k) (by omega)
        have f1 := hb.frozen (12 + k)
        clear ha hb hx
        go_wp2_with fail
        rw [show ((n : Int) / 2 ^ (24 - 8 * k) % 256) = ((n / 2 ^ (24 - 8 * k) % 256 : Nat) : Int) by simp]
        refine ⟨⟨k + 1, by omega, by go_num, HA.out.other _ (by simp), ?_, HX.out.setCell (by simp) _⟩, by simp [intOf]; omega⟩
        rw [← ctrK_upd]
        exact HB.out.setB (12 + k) _
      · obtain rfl : k = 4 := by omega
        have hcc := HX.out.cell HGC.out
        clear ha hb hx
        go_wp2_with (refine wl_loadA rfl 23 (.tmp 5) rfl _ 0 16 rfl agg23 sz23 _ _ HB.out (by simp [row_size]) (row 16 (ctrB nonce n)) (row_whole _ _) ?_)
        refine (block_any b K ks hK hK2 (ctrB nonce n) (fun j _ => ctrB_lt hNl n j) _ (HC.out.ext HX.out)).mono ?_
        rintro e w4 ⟨rfl, hx4⟩
        have hA4 := Lib.hid (HA.out.ext hx4)
        have hX4 := Lib.hid (HX.out.trans hx4)
        clear hx4 hcc
        go_wp2_with (refine wl_storeA rfl 23 _ _ rfl _ 0 16 rfl (row 16 (blockP K ks (ctrB nonce n))) rfl sz23 (row_size _ _) _ _ hA4.out (by simp [row_size]) (row_one _ _) (row 16 (blockP K ks (ctrB nonce n))) (lay_all _ _ (by simp [row_size])) ?_)
        refine bodyPost_ret (results_blk rfl _ _ w.heap.size 16 23 (row 16 (blockP K ks (ctrB nonce n))) rfl (hA4.out.setRow _) agg23 sz23 (row_size _ _).symm) rfl ?_
        exact ⟨rfl, below_setRow (g := w.heap.size) hX4.out (Nat.le_refl _) _⟩
end Go.Proofs.Ytnigpobbckampaa
namespace Go.Proofs.Ytnigpobbckampaa
open Go.RowKit Go.Shelf
set_option linter.unusedSimpArgs false
set_option linter.unusedVariables false

attribute [local go_sem] Oper.semAt_some

/-- append of one byte where there is room. -/
theorem run_append1 (w : World) (ty : TypeId) (g gx N c u : Nat) (F : Nat → Nat) (hB : Blk w g 5 (row N F)) (hx : w.cell? ⟨gx, 0, none⟩ = some (.int .u8 ((u : Nat) : Int))) (hc : c < N) :
    (Builtin.append_ #[22, 22] ty #[.slice (some ⟨g, 0, none⟩) c N, .slice (some ⟨gx, 0, none⟩) 1 1]).run Try.prog w = .ok (.slice (some ⟨g, 0, none⟩) (c + 1) N) (w.setRow g (row N (upd F c u))) := by
  obtain ⟨i0, hi, hz0, hz1, hz2⟩ := info_parts info5
  have hnews : ∀ j x, (bs 1 fun _ => u)[j]? = some x → w.cell? ((⟨gx, 0, none⟩ : Addr).add j) = some x := by
    intro j x hj
    obtain ⟨hjm, rfl⟩ := bs_inv hj
    obtain rfl : j = 0 := by omega
    rw [Addr.add_lit]
    exact hx
  have hst := run_storeCells_at Try.prog g c 5 (bs 1 fun _ => u) 0 (row N F) w hB (by rw [bs_length, row_size]; omega) (bs_one _ _)
  simp only [Nat.add_zero] at hst
  have hfc := run_firstCells_some (P := Try.prog) w 1 1 ⟨gx, 0, none⟩ 1 1 (bs 1 fun _ => u) (by simp [bs_length]) hnews
  have hl : ((row N F).toList.take c ++ bs 1 (fun _ => u) ++ (row N F).toList.drop (c + (bs 1 fun _ => u).length)).toArray = row N (upd F c u) := by
    refine row_ext (by simp [bs_length, row_size]; omega) (fun j hj => ?_)
    have h := lay_get (row N F) c (bs 1 fun _ => u).toArray (by simp [bs_length, row_size]; omega) j
    unfold lay at h
    simp only [List.size_toArray] at h
    rw [h]
    simp only [bs_length]
    by_cases h1 : j < c
    · rw [if_pos h1, row_get _ _ _ hj, upd_other _ _ _ _ (by omega)]
    · rw [if_neg h1]
      by_cases h2 : j < c + 1
      · obtain rfl : j = c := by omega
        rw [if_pos h2, List.getElem?_toArray, Nat.sub_self, bs_get _ _ _ (by omega), upd_same]
      · rw [if_neg h2, row_get _ _ _ hj, upd_other _ _ _ _ (by omega)]
  rw [hl] at hst
  simp [Builtin.append_, run_underlying Try.underlying22, sizeOf, typeInfo, hi, hz1, Builtin.lenOf, show c + 1 ≤ N by omega, hfc, Addr.add_lit, hst]
theorem wp_append1 {o : Oper} {a : Act} {w : World} {Q : Exit → Act → World → Prop} {K : Act → World → Prop} (s x : Operand) (hop : o.op = .call { callee := .builtin .append, args := #[s, x], argTypes := #[22, 22] }) (g gx N c u : Nat) (F : Nat → Nat)
    (hs : a.eval s = .slice (some ⟨g, 0, none⟩) c N) (hx : a.eval x = .slice (some ⟨gx, 0, none⟩) 1 1) (hB : Blk w g 5 (row N F)) (hc : w.cell? ⟨gx, 0, none⟩ = some (.int .u8 ((u : Nat) : Int))) (hcN : c < N)
    (hK : K (a.put o.dst (.slice (some ⟨g, 0, none⟩) (c + 1) N)) (w.setRow g (row N (upd F c u)))) : o.wp Try.prog a w K Q := by
  have hr := run_append1 w o.type g gx N c u F hB hc hcN
  unfold Oper.wp
  simp [execOp, hop, resolve, invoke, builtin, hs, hx, hr, Result.andThen, Oper.upon]
  exact hK

theorem wpIn_pass {F : Fence} {n : Nat} {P : Program} {c : Code} {R : Exit → Act → World → Prop} {a : Act} {w : World} {K : Act → World → Prop} (a0 : Act) (w0 : World)
    (h : c.wpIn F n P (Exit.then (fun a' w' => a' = a0 ∧ w' = w0) R) a w) (hK : K a0 w0) : c.wpIn F n P (Exit.then K R) a w := wpIn_mono h (by
  intro e a' w' hq
  cases e with
  | normal =>
    obtain ⟨rfl, rfl⟩ := hq
    exact hK
  | _ => exact hq)
theorem list_round {n : Nat} {ops : Array Oper} {Q : Exit → Act → World → Prop} (l : Nat) (hQ : ¬ LetsOut Q) : ∀ (r : List Oper), noDefer r = true → ∀ (a : Act) (w : World), wpList Try.prog ops Q r a w → wpListIn (Fence.wide.inRound l) n Try.prog ops Q r a w := by
  intro r
  induction r with
  | nil => exact fun _ _ _ h => h
  | cons o r ih =>
    intro hd a w h
    have h1 : ∀ c, o.op ≠ .defer c := noDefer_spec hd o (List.mem_cons_self ..)
    have h2 : noDefer r = true := by
      unfold noDefer at hd ⊢
      rw [List.all_cons, Bool.and_eq_true] at hd
      exact hd.2
    unfold wpList at h
    unfold wpListIn
    split at h
    · rename_i hw
      rw [if_pos hw]
      rcases h with h | h
      · exact Oper.wpIn_mono (fun a w => ih h2 a w) (op_round l h1 h)
      · exact absurd h.2 hQ
    · rename_i hw
      rw [if_neg hw]
      exact ⟨fun _ _ => trivial, ih h2 _ _ h⟩
theorem region_round {n id : Nat} {r : List Oper} {Q : Exit → Act → World → Prop} {a : Act} {w : World} (l : Nat) (hQ : ¬ LetsOut Q) (hd : noDefer r = true) (h : wpList Try.prog r.toArray Q r a w) :
    (Code.region id r.toArray false).wpIn (Fence.wide.inRound l) n Try.prog Q a w := wpIn_region_lit (list_round l hQ r hd a w h)
theorem wpIn_gen {F : Fence} {n : Nat} {P : Program} {c : Code} {R : Exit → Act → World → Prop} {a : Act} {w : World} {K : Act → World → Prop}
    (h : ∀ K0 : Act → World → Prop, (∀ a' w', K a' w' → K0 a' w') → c.wpIn F n P (Exit.then K0 R) a w) : c.wpIn F n P (Exit.then K R) a w := h K (fun _ _ h => h)
theorem then_lets {K : Act → World → Prop} : ¬ LetsOut (Exit.then K (fun _ _ _ => False)) := fun ⟨_, _, h⟩ => h
theorem put_nil7 (a : Act) (v : Value) : a.put none v = a := rfl
theorem keeps_setRow {W : World} {g : Nat} {t : TypeId} {cs : Array Value} (hB : Blk W g t cs) (vs : Array Value) : KeepsOthers W (W.setRow g vs) :=
  ⟨by simp, fun j o hj ho => by
    have : j ≠ g := fun e => by
      rw [e] at hj
      have e2 := Option.some.inj (hj.symm.trans hB)
      rw [e2] at ho
      exact absurd ho (by simp [Obj.isCells])
    exact (_root_.Go.setRow_other W g j vs this).trans hj⟩
/-- A text, hidden. -/
def hideP (K : Nat) (ks : Nat → Nat → Nat) (nonce f : Nat → Nat) : Nat → Nat := fun j => f j ^^^ blockP K ks (ctrB nonce (2 + j / 16)) (j % 16)

theorem RdF.kpB {lo : Nat} {keep : Nat → Prop} {w0 A B : World} {v : Value} {n : Nat} {f : Nat → Nat} (h0 : RdF w0 v n f) (hk : ∀ g, g < w0.heap.size → keep g) (h : KpB lo keep A B) (hA : RdF A v n f) : RdF B v n f := by
  rcases Nat.eq_zero_or_pos n with rfl | hn
  · obtain ⟨ao, cap, hv, hc, hnl, _⟩ := hA
    exact ⟨ao, cap, hv, hc, hnl, fun i hi => absurd hi (Nat.not_lt_zero _)⟩
  · obtain ⟨g, off, cap, rfl, hc, hf0⟩ := h0.form hn
    have hg : g < w0.heap.size := World.block_lt_of_cell? w0 _ (hf0 0 hn).2
    obtain ⟨g', off', cap', e, hc', hf⟩ := hA.form hn
    cases e
    exact ⟨_, _, rfl, hc, fun h => (by cases h), fun i hi => ⟨(hf i hi).1, _, rfl, by rw [Addr.add_lit]; exact h.cell (.inr (hk g hg)) (hf i hi).2⟩⟩

set_option maxRecDepth 100000 in
set_option maxHeartbeats 1000000 in
theorem hide62_any (v : Value) (n gn gc b K : Nat) (f nonce : Nat → Nat) (ks : Nat → Nat → Nat) (w : World) (hn : n ≤ 100000) (hv : RdF w v n f) (hN : Blk w gn 55 (row 12 nonce)) (hNl : ∀ j, j < 12 → nonce j < 256)
    (hgc : w.cell? ⟨gc, 0, none⟩ = some (.pointer (some ⟨b, 0, none⟩))) (hC : Cph w b K ks) (hK : 2 ≤ K) (hK2 : K ≤ 1000) :
    Calls Try.prog 62 #[.func (.func 73) #[] #[.pointer (some ⟨gn, 0, none⟩), .pointer (some ⟨gc, 0, none⟩)], v] w fun e w' => ∃ v', e = .returned v' ∧ OwnF w' w.heap.size v' n (hideP K ks nonce f) ∧ Ext w w' := by
  obtain ⟨ao, cap, rfl, hcap⟩ := hv.len
  have HV := Lib.hid hv
  have HN := Lib.hid hN
  have HGC := Lib.hid hgc
  have HC := Lib.hid hC
  clear hv hN hgc hC
  refine callsIn_wide.1 (callsIn_of_wp_marks (n := 0) Try.func62 rfl trivial (wpIn_wide.2 ?_) rfl)
  simp only [Try.ntmps62, List.size_toArray, List.length_cons, List.length_nil, Nat.reduceAdd, Nat.reduceSub, Array.replicate_succ, Array.replicate_zero, List.push_toArray, List.append_toArray, List.nil_append, List.cons_append]
  go_wp2_with (refine wl_makeF rfl _ (.tmp 12) rfl 0 (n + 16) rfl rfl (by omega) (by omega) ?_)
  have q0 : Blk ((((((w.alloc (.cells #[.func (.func 73) #[] #[.pointer (some ⟨gn, 0, none⟩), .pointer (some ⟨gc, 0, none⟩)]] 90)).alloc (.cells #[.slice ao n cap] 22)).alloc (.cells (row (n + 16) fun _ => 0) 5)).alloc (.cells #[.slice (some ⟨w.heap.size + 1 + 1, 0, none⟩) 0 (n + 16)] 22)).alloc (.cells #[.int .i64 2] 3)).alloc (.cells #[.slice ao n cap] 22)) (w.heap.size) 90 (#[.func (.func 73) #[] #[.pointer (some ⟨gn, 0, none⟩), .pointer (some ⟨gc, 0, none⟩)]]) := by
    have := ((((((Blk.new w 90 (#[.func (.func 73) #[] #[.pointer (some ⟨gn, 0, none⟩), .pointer (some ⟨gc, 0, none⟩)]])).alloc (.cells #[.slice ao n cap] 22)).alloc (.cells (row (n + 16) fun _ => 0) 5)).alloc (.cells #[.slice (some ⟨w.heap.size + 1 + 1, 0, none⟩) 0 (n + 16)] 22)).alloc (.cells #[.int .i64 2] 3)).alloc (.cells #[.slice ao n cap] 22))
    simpa only [World.size_alloc] using this
  have q1 : Blk ((((((w.alloc (.cells #[.func (.func 73) #[] #[.pointer (some ⟨gn, 0, none⟩), .pointer (some ⟨gc, 0, none⟩)]] 90)).alloc (.cells #[.slice ao n cap] 22)).alloc (.cells (row (n + 16) fun _ => 0) 5)).alloc (.cells #[.slice (some ⟨w.heap.size + 1 + 1, 0, none⟩) 0 (n + 16)] 22)).alloc (.cells #[.int .i64 2] 3)).alloc (.cells #[.slice ao n cap] 22)) (w.heap.size + 1) 22 (#[.slice ao n cap]) := by
    have := (((((Blk.new (w.alloc (.cells #[.func (.func 73) #[] #[.pointer (some ⟨gn, 0, none⟩), .pointer (some ⟨gc, 0, none⟩)]] 90)) 22 (#[.slice ao n cap])).alloc (.cells (row (n + 16) fun _ => 0) 5)).alloc (.cells #[.slice (some ⟨w.heap.size + 1 + 1, 0, none⟩) 0 (n + 16)] 22)).alloc (.cells #[.int .i64 2] 3)).alloc (.cells #[.slice ao n cap] 22))
    simpa only [World.size_alloc] using this
  have q2 : Blk ((((((w.alloc (.cells #[.func (.func 73) #[] #[.pointer (some ⟨gn, 0, none⟩), .pointer (some ⟨gc, 0, none⟩)]] 90)).alloc (.cells #[.slice ao n cap] 22)).alloc (.cells (row (n + 16) fun _ => 0) 5)).alloc (.cells #[.slice (some ⟨w.heap.size + 1 + 1, 0, none⟩) 0 (n + 16)] 22)).alloc (.cells #[.int .i64 2] 3)).alloc (.cells #[.slice ao n cap] 22)) (w.heap.size + 1 + 1) 5 ((row (n + 16) fun _ => 0)) := by
    have := ((((Blk.new ((w.alloc (.cells #[.func (.func 73) #[] #[.pointer (some ⟨gn, 0, none⟩), .pointer (some ⟨gc, 0, none⟩)]] 90)).alloc (.cells #[.slice ao n cap] 22)) 5 ((row (n + 16) fun _ => 0))).alloc (.cells #[.slice (some ⟨w.heap.size + 1 + 1, 0, none⟩) 0 (n + 16)] 22)).alloc (.cells #[.int .i64 2] 3)).alloc (.cells #[.slice ao n cap] 22))
    simpa only [World.size_alloc] using this
  have q3 : Blk ((((((w.alloc (.cells #[.func (.func 73) #[] #[.pointer (some ⟨gn, 0, none⟩), .pointer (some ⟨gc, 0, none⟩)]] 90)).alloc (.cells #[.slice ao n cap] 22)).alloc (.cells (row (n + 16) fun _ => 0) 5)).alloc (.cells #[.slice (some ⟨w.heap.size + 1 + 1, 0, none⟩) 0 (n + 16)] 22)).alloc (.cells #[.int .i64 2] 3)).alloc (.cells #[.slice ao n cap] 22)) (w.heap.size + 1 + 1 + 1) 22 (#[.slice (some ⟨w.heap.size + 1 + 1, 0, none⟩) 0 (n + 16)]) := by
    have := (((Blk.new (((w.alloc (.cells #[.func (.func 73) #[] #[.pointer (some ⟨gn, 0, none⟩), .pointer (some ⟨gc, 0, none⟩)]] 90)).alloc (.cells #[.slice ao n cap] 22)).alloc (.cells (row (n + 16) fun _ => 0) 5)) 22 (#[.slice (some ⟨w.heap.size + 1 + 1, 0, none⟩) 0 (n + 16)])).alloc (.cells #[.int .i64 2] 3)).alloc (.cells #[.slice ao n cap] 22))
    simpa only [World.size_alloc] using this
  have q4 : Blk ((((((w.alloc (.cells #[.func (.func 73) #[] #[.pointer (some ⟨gn, 0, none⟩), .pointer (some ⟨gc, 0, none⟩)]] 90)).alloc (.cells #[.slice ao n cap] 22)).alloc (.cells (row (n + 16) fun _ => 0) 5)).alloc (.cells #[.slice (some ⟨w.heap.size + 1 + 1, 0, none⟩) 0 (n + 16)] 22)).alloc (.cells #[.int .i64 2] 3)).alloc (.cells #[.slice ao n cap] 22)) (w.heap.size + 1 + 1 + 1 + 1) 3 (#[.int .i64 2]) := by
    have := ((Blk.new ((((w.alloc (.cells #[.func (.func 73) #[] #[.pointer (some ⟨gn, 0, none⟩), .pointer (some ⟨gc, 0, none⟩)]] 90)).alloc (.cells #[.slice ao n cap] 22)).alloc (.cells (row (n + 16) fun _ => 0) 5)).alloc (.cells #[.slice (some ⟨w.heap.size + 1 + 1, 0, none⟩) 0 (n + 16)] 22)) 3 (#[.int .i64 2])).alloc (.cells #[.slice ao n cap] 22))
    simpa only [World.size_alloc] using this
  have q5 : Blk ((((((w.alloc (.cells #[.func (.func 73) #[] #[.pointer (some ⟨gn, 0, none⟩), .pointer (some ⟨gc, 0, none⟩)]] 90)).alloc (.cells #[.slice ao n cap] 22)).alloc (.cells (row (n + 16) fun _ => 0) 5)).alloc (.cells #[.slice (some ⟨w.heap.size + 1 + 1, 0, none⟩) 0 (n + 16)] 22)).alloc (.cells #[.int .i64 2] 3)).alloc (.cells #[.slice ao n cap] 22)) (w.heap.size + 1 + 1 + 1 + 1 + 1) 22 (#[.slice ao n cap]) := by
    have := (Blk.new (((((w.alloc (.cells #[.func (.func 73) #[] #[.pointer (some ⟨gn, 0, none⟩), .pointer (some ⟨gc, 0, none⟩)]] 90)).alloc (.cells #[.slice ao n cap] 22)).alloc (.cells (row (n + 16) fun _ => 0) 5)).alloc (.cells #[.slice (some ⟨w.heap.size + 1 + 1, 0, none⟩) 0 (n + 16)] 22)).alloc (.cells #[.int .i64 2] 3)) 22 (#[.slice ao n cap]))
    simpa only [World.size_alloc] using this
  have hx6 : Ext w ((((((w.alloc (.cells #[.func (.func 73) #[] #[.pointer (some ⟨gn, 0, none⟩), .pointer (some ⟨gc, 0, none⟩)]] 90)).alloc (.cells #[.slice ao n cap] 22)).alloc (.cells (row (n + 16) fun _ => 0) 5)).alloc (.cells #[.slice (some ⟨w.heap.size + 1 + 1, 0, none⟩) 0 (n + 16)] 22)).alloc (.cells #[.int .i64 2] 3)).alloc (.cells #[.slice ao n cap] 22)) := ((((((Ext.alloc _ _).trans (Ext.alloc _ _)).trans (Ext.alloc _ _)).trans (Ext.alloc _ _)).trans (Ext.alloc _ _)).trans (Ext.alloc _ _))
  have hs6 : ((((((w.alloc (.cells #[.func (.func 73) #[] #[.pointer (some ⟨gn, 0, none⟩), .pointer (some ⟨gc, 0, none⟩)]] 90)).alloc (.cells #[.slice ao n cap] 22)).alloc (.cells (row (n + 16) fun _ => 0) 5)).alloc (.cells #[.slice (some ⟨w.heap.size + 1 + 1, 0, none⟩) 0 (n + 16)] 22)).alloc (.cells #[.int .i64 2] 3)).alloc (.cells #[.slice ao n cap] 22)).heap.size = w.heap.size + 6 := by simp only [World.size_alloc]
  generalize ((((((w.alloc (.cells #[.func (.func 73) #[] #[.pointer (some ⟨gn, 0, none⟩), .pointer (some ⟨gc, 0, none⟩)]] 90)).alloc (.cells #[.slice ao n cap] 22)).alloc (.cells (row (n + 16) fun _ => 0) 5)).alloc (.cells #[.slice (some ⟨w.heap.size + 1 + 1, 0, none⟩) 0 (n + 16)] 22)).alloc (.cells #[.int .i64 2] 3)).alloc (.cells #[.slice ao n cap] 22)) = W6 at q0 q1 q2 q3 q4 q5 hx6 hs6 ⊢
  refine (blocks74_any _ 1 1 _).mono ?_
  rintro e w7 ⟨rfl, hw7⟩
  have hx67 : Ext W6 w7 := by rw [hw7]; exact Ext.alloc _ _
  have q6 : Blk w7 W6.heap.size 62 #[.slice (some ⟨w.heap.size + 1 + 1 + 1 + 1 + 1, 0, none⟩) 1 1] := by rw [hw7]; exact Blk.new _ _ _
  have hs7 : w7.heap.size = w.heap.size + 7 := by rw [hw7]; simp only [World.size_alloc]; omega
  rw [hs6] at q6 ⊢
  obtain ⟨S, hS⟩ : ∃ S, S = w.heap.size := ⟨_, rfl⟩
  simp only [← hS, Nat.add_assoc, Nat.reduceAdd] at q0 q1 q2 q3 q4 q5 q6 hs7 ⊢
  have h0 := Lib.hid (q0.ext hx67)
  have h1 := Lib.hid (q1.ext hx67)
  have h2 := Lib.hid (q2.ext hx67)
  have h3 := Lib.hid (q3.ext hx67)
  have h4 := Lib.hid (q4.ext hx67)
  have h5 := Lib.hid (q5.ext hx67)
  have h6 := Lib.hid q6
  have hX := Lib.hid (hx6.trans hx67)
  have HS := Lib.hid hS
  clear q0 q1 q2 q3 q4 q5 q6 hx6 hx67 hs6 hw7
  go_wp2_with fail
  have hKp : ∀ A B, KpB (S + 7) (fun j => j ≠ S + 2 ∧ j ≠ S + 3 ∧ j ≠ S + 4) A B → Texts A (S + 6) (S + 5) 1 (fun _ => .slice ao n cap) (fun _ => n) (fun _ => f) → Texts B (S + 6) (S + 5) 1 (fun _ => .slice ao n cap) (fun _ => n) (fun _ => f) := fun A B hK hT =>
    ⟨hK.cell (.inr ⟨by omega, by omega, by omega⟩) hT.1, fun i hi => ⟨hK.cell (.inr ⟨by omega, by omega, by omega⟩) (hT.2 i hi).1, RdF.kpB HV.out (fun g hg => ⟨by omega, by omega, by omega⟩) hK (hT.2 i hi).2⟩⟩
  have hT : Texts w7 (S + 6) (S + 5) 1 (fun _ => .slice ao n cap) (fun _ => n) (fun _ => f) :=
    ⟨(h6.out.cell 0).trans rfl, fun i hi => ⟨(by obtain rfl : i = 0 := (by omega); exact (h5.out.cell 0).trans rfl), HV.out.ext hX.out⟩⟩
  have hit := blocks_iter (S + 6) (S + 5) 1 (fun _ => .slice ao n cap) (fun _ => n) (fun _ => f) (fun i => i * ((n + 15) / 16)) (fun k => #[.agg (row 16 (fullP n f k))]) (S + 7) (fun j => j ≠ S + 2 ∧ j ≠ S + 3 ∧ j ≠ S + 4) (by omega) (fun _ _ => by omega) (Nat.zero_mul _) (fun i _ => Nat.succ_mul i _)
    (fun i hi k _ => (by obtain rfl : i = 0 := (by omega); rw [Nat.zero_mul, Nat.zero_add])) hKp w7 (by omega) hT
  rw [Nat.one_mul] at hit
  clear hKp hT
  have hfl := HV.out.lt
  refine (wpIn_wide (n := 0)).1 (range_lawX (gf := 79) (lb := #[.pointer (some ⟨S + 6, 0, none⟩)]) rfl (enters_of Try.func79 (by kernel_rfl) rfl) hit (Below.refl _ _) (fun _ => rfl) (fun h k => h.trans k) (fun A b o o' _ hb ho => KpB.putObj hb ho)
    (fun k W => Blk W (S + 2) 5 (row (n + 16) (mixF (min n (16 * k)) (hideP K ks nonce f) fun _ => 0)) ∧ Blk W (S + 3) 22 #[.slice (some ⟨S + 2, 0, none⟩) (min n (16 * k)) (n + 16)] ∧ Blk W (S + 4) 3 #[.int .i64 ((2 + k : Nat) : Int)] ∧
      (∀ j, j < S + 7 → j ≠ S + 2 → j ≠ S + 3 → j ≠ S + 4 → W.heap[j]? = w7.heap[j]?) ∧ Below S w7 W ∧ S + 7 ≤ W.heap.size)
    ?own ?mono ⟨?i0, ?i1, h4.out, fun _ _ _ _ _ => rfl, Below.refl _ _, by omega⟩ ?round ?done)
  case own =>
    rintro k A A' row ⟨a1, a2, a3, a4, a5, a6⟩ hg hr
    have hlt : ∀ j, j < S + 7 → some j ≠ row := fun j hj e => by have := (hr j e.symm).1; omega
    exact ⟨(hg.block _ a1.lt (hlt _ (by omega))).trans a1, (hg.block _ a2.lt (hlt _ (by omega))).trans a2, (hg.block _ a3.lt (hlt _ (by omega))).trans a3, fun j b1 b2 b3 b4 => (hg.block j (by omega) (hlt j b1)).trans (a4 j b1 b2 b3 b4), a5.grown hg (by omega) (fun r e => by have := (hr r e).1; omega), by have := hg.size; omega⟩
  case mono =>
    rintro k A B ⟨a1, a2, a3, a4, a5, a6⟩ hx
    exact ⟨a1.ext hx, a2.ext hx, a3.ext hx, fun j b1 b2 b3 b4 => (hx.block (by omega)).trans (a4 j b1 b2 b3 b4), a5.trans (Below.mono hx (by omega)), by have := hx.size; omega⟩
  case i0 => rw [Nat.mul_zero, Nat.min_zero, mixF_zero]; exact h2.out
  case i1 => rw [Nat.mul_zero, Nat.min_zero]; exact h3.out
  case round =>
    rintro m l k W hk ⟨a1, a2, a3, a4, a5, a6⟩
    have A1 := Lib.hid a1
    have A2 := Lib.hid a2
    have A3 := Lib.hid a3
    have A4 := Lib.hid a4
    have A5 := Lib.hid a5
    clear a1 a2 a3 a4 a5
    simp only [List.size_toArray, List.zip_toArray, List.foldl_toArray', List.zip_cons_cons, List.zip_nil_right, List.foldl_cons, List.foldl_nil, List.setIfInBounds_toArray, List.set_cons_succ, List.set_cons_zero]
    refine wpIn_gen (fun K0 hK0 => ?_)
    have HK0 := Lib.hid hK0
    clear hK0
    refine region_round l then_lets (by kernel_rfl) ?_
    refine wl_allocA rfl 23 rfl _ zero23 ?_
    simp only [put_lit, List.set_cons_succ, List.set_cons_zero]
    refine wl_storeA rfl 23 (.tmp 7) (.tmp 17) rfl _ 0 16 rfl (row 16 (fullP n f k)) rfl sz23 (row_size _ _) _ _ (Blk.new _ _ _) (by simp [row_size]) (row_one _ _) (row 16 (fullP n f k)) (lay_all _ _ (by simp [row_size])) ?_
    simp only [put_nil7]
    refine HK0.out _ _ ?_
    clear HK0 K0
    have hx : Ext W ((W.alloc (.cells (row 16 fun _ => 0) 23)).setRow W.heap.size (row 16 (fullP n f k))) := below_setRow (g := W.heap.size) (Ext.alloc _ _) (Nat.le_refl _) _
    have hbz : Blk ((W.alloc (.cells (row 16 fun _ => 0) 23)).setRow W.heap.size (row 16 (fullP n f k))) W.heap.size 23 (row 16 (fullP n f k)) := (Blk.new _ _ _).setRow _
    obtain ⟨gz, hgz⟩ : ∃ gz, gz = W.heap.size := ⟨_, rfl⟩
    have hgzS : S + 7 ≤ gz := by omega
    rw [← hgz] at hbz hx ⊢
    have hsx := hx.size
    refine ⟨keeps_of_ext hx, KpB.ext hx, ⟨A1.out.ext hx, A2.out.ext hx, A3.out.ext hx, fun j b1 b2 b3 b4 => (hx.block (by omega)).trans (A4.out j b1 b2 b3 b4), A5.out.trans (Below.mono hx (by omega)), by omega⟩, fun Wz => Blk Wz gz 23 (row 16 (fullP n f k)), ?ownz, hbz, ?body⟩
    case ownz =>
      intro _ A A' row h hg hr
      have hne : some gz ≠ row := fun e => by
        obtain ⟨_, ho⟩ := hr gz e.symm
        obtain ⟨o, ho, hc⟩ := ho
        have e2 := ho.symm.trans h
        have e3 := Option.some.inj e2
        rw [e3] at hc
        exact absurd hc (by simp [Obj.isCells])
      exact (hg.block gz h.lt hne).trans h
    case body =>
      clear A1 A2 A3 A4 A5 hx hbz hgz hsx a6 W
      rintro W ⟨a1, a2, a3, a4, a5, a6⟩ hz
      rw [show min n (16 * k) = 16 * k by omega] at a1 a2
      have hxw : Ext w W := Below.trans hX.out (Below.mono a5 (by omega))
      have c18 : W.cell? ⟨S, 0, none⟩ = some (.func (.func 73) #[] #[.pointer (some ⟨gn, 0, none⟩), .pointer (some ⟨gc, 0, none⟩)]) := (World.cell?_of_block (a := ⟨S, 0, none⟩) (a4 S (by omega) (by omega) (by omega) (by omega))).trans (h0.out.cell 0)
      have c3 : W.cell? ⟨S + 1, 0, none⟩ = some (.slice ao n cap) := (World.cell?_of_block (a := ⟨S + 1, 0, none⟩) (a4 (S + 1) (by omega) (by omega) (by omega) (by omega))).trans (h1.out.cell 0)
      have c6 : W.cell? ⟨S + 4, 0, none⟩ = some (.int .i64 ((2 + k : Nat) : Int)) := a3.cell 0
      have A1 := Lib.hid a1
      have A2 := Lib.hid a2
      have A3 := Lib.hid a3
      have A4 := Lib.hid a4
      have A5 := Lib.hid a5
      have HXW := Lib.hid hxw
      have HZ := Lib.hid hz
      have C3 := Lib.hid c3
      clear a1 a2 a3 a4 a5 hxw hz c3 hS
      refine wpIn_block ?_
      refine wpIn_seq_k (fun K9 hK9 => ?_)
      have HK9 := Lib.hid hK9
      clear hK9
      refine region_round l (fun ⟨_, _, h⟩ => h) (by kernel_rfl) ?_
      generalize hQ9 : Exit.then K9 (Exit.inBlock 1 _) = Q9
      have HQ9 := Lib.hid hQ9
      clear hQ9
      go_wp2_with fail
      refine (counted73_any (2 + k) gn gc b K nonce ks _ (by omega) (HN.out.ext HXW.out) hNl (HXW.out.cell HGC.out) (HC.out.ext HXW.out) hK hK2).mono ?_
      rintro e W1 ⟨rfl, hx1⟩
      obtain ⟨Y, hY⟩ : ∃ Y, Y = blockP K ks (ctrB nonce (2 + k)) := ⟨_, rfl⟩
      rw [← hY]
      have HY := Lib.hid hY
      have HX1 := Lib.hid hx1
      clear hY hx1 c18 c6
      go_wp2_with (first | (refine wl_allocA rfl 23 rfl _ zero23 ?_) | (refine wl_storeA rfl 23 _ _ rfl _ 0 16 rfl (row 16 Y) rfl sz23 (row_size _ _) _ _ (Blk.new _ _ _) (by simp [row_size]) (row_one _ _) (row 16 Y) (lay_all _ _ (by simp [row_size])) ?_))
      rw [← HQ9.out]
      refine HK9.out _ _ ?_
      have hy0 : Blk ((W1.alloc (.cells (row 16 fun _ => 0) 23)).setRow W1.heap.size (row 16 Y)) W1.heap.size 23 (row 16 Y) := (Blk.new _ _ _).setRow _
      have hxy : Ext W1 ((W1.alloc (.cells (row 16 fun _ => 0) 23)).setRow W1.heap.size (row 16 Y)) := below_setRow (g := W1.heap.size) (Ext.alloc _ _) (Nat.le_refl _) _
      have hgyS : S + 7 ≤ W1.heap.size := by have := HX1.out.size; omega
      generalize W1.heap.size = gy at hy0 hxy hgyS ⊢
      generalize (W1.alloc (.cells (row 16 fun _ => 0) 23)).setRow gy (row 16 Y) = W2 at hy0 hxy ⊢
      have HX2 := Lib.hid (HX1.out.trans hxy)
      have HB8 := Lib.hid hy0
      clear HQ9 HK9 Q9 K9 HX1 hxy hy0
      have c21 := HX2.out.cell C3.out
      have c23 : W2.cell? ⟨S + 3, 0, none⟩ = some (.slice (some ⟨S + 2, 0, none⟩) (16 * k) (n + 16)) := (A2.out.ext HX2.out).cell 0
      have hYl : ∀ j, j < 16 → Y j < 256 := fun j hj => by
        rw [HY.out]
        obtain ⟨_, _, _, _, _, _, hks⟩ := HC.out
        exact blockP_lt K ks _ (fun i _ => ctrB_lt hNl _ i) (by omega) (fun i hi j hj => (hks i hi j hj).2) j hj
      by_cases h16 : 16 * k + 16 ≤ n
      · have hm1 : ¬ (n : Int) - 16 * (k : Int) < 16 := by omega
        gi_wp2_with fail
        clear c21 c23
        gi_loopw [27] (fun v27 wr => ∃ j : Nat, j ≤ 16 ∧ v27 = .int .i64 j ∧ Blk wr (S + 2) 5 (row (n + 16) (mixF (16 * k + j) (hideP K ks nonce f) fun _ => 0)) ∧ Blk wr (S + 3) 22 #[.slice (some ⟨S + 2, 0, none⟩) (16 * k + j) (n + 16)] ∧ Blk wr (S + 4) 3 #[.int .i64 ((2 + k : Nat) : Int)] ∧
          KeepsOthers W wr ∧ KpB (S + 7) (fun j => j ≠ S + 2 ∧ j ≠ S + 3 ∧ j ≠ S + 4) W wr ∧ (∀ j, j < S + 7 → j ≠ S + 2 → j ≠ S + 3 → j ≠ S + 4 → wr.heap[j]? = w7.heap[j]?) ∧ Below S w7 wr ∧ S + 7 ≤ wr.heap.size ∧ Blk wr gz 23 (row 16 (fullP n f k)) ∧ Blk wr gy 23 (row 16 Y)) (fun v27 _ => 16 - (intOf v27).toNat)
        case atStart =>
          have hs2 := HX2.out.size
          exact ⟨0, by omega, rfl, A1.out.ext HX2.out, A2.out.ext HX2.out, A3.out.ext HX2.out, keeps_of_ext HX2.out, KpB.ext HX2.out, fun j b1 b2 b3 b4 => (HX2.out.block (by omega)).trans (A4.out j b1 b2 b3 b4), A5.out.trans (Below.mono HX2.out (by omega)), by omega, HZ.out.ext HX2.out, HB8.out⟩
        case round =>
          clear A1 A2 A3 A4 A5 HX2 HZ HB8
          obtain ⟨j, hj, rfl, b1, b2, b3, b4, b5, b6, b7, b8, b9, b10⟩ := hrel
          have B1 := Lib.hid b1
          have B2 := Lib.hid b2
          have B3 := Lib.hid b3
          have B4 := Lib.hid b4
          have B5 := Lib.hid b5
          have B6 := Lib.hid b6
          have B7 := Lib.hid b7
          have B9 := Lib.hid b9
          have B10 := Lib.hid b10
          clear b1 b2 b3 b4 b5 b6 b7 b9 b10
          by_cases hjr : j < 16
          · have hj' : (j : Int) < 16 := by omega
            have d5 : wr.cell? ⟨S + 3, 0, none⟩ = some (.slice (some ⟨S + 2, 0, none⟩) (16 * k + j) (n + 16)) := B2.out.cell 0
            have d7 := B9.out.byte j (by omega)
            have d8 := B10.out.byte j (by omega)
            have l7 := fullP_lt hfl k j
            have l8 := hYl j (by omega)
            have HH := Lib.hid (show fullP n f k j ^^^ Y j = hideP K ks nonce f (16 * k + j) from by
              unfold hideP fullP
              rw [if_pos (by omega), HY.out, show (16 * k + j) / 16 = k by omega, show (16 * k + j) % 16 = j by omega])
            gi_wp2_with fail
            apply wpIn_region_mid l 9 [.det _, .det _, .det _, .det _, .det _, .det _, .det _, .det _, .any (One wr (.int .u8 ((hideP K ks nonce f (16 * k + j) : Nat) : Int)))] (by kernel_rfl) rfl (by kernel_rfl) (by kernel_rfl) (fun ⟨_, _, h⟩ => h)
            · have hj16 : (j : Int) < 16 := by omega
              (refine wpE_run rfl rfl (by simp) (fun w1 hx1 _ K hK => by have hc := hx1.cell d5; go_step; exact hK _ (Ext.refl _)) ?_); simp only [put_lit, List.set_cons_succ, List.set_cons_zero]
              (first | (refine wpE_move rfl rfl rfl ?_; simp only [put_lit, eval_lit, BigFrame.eval_const, List.set_cons_succ, List.set_cons_zero, List.getD_cons_succ, List.getD_cons_zero]) | (refine wpE_run rfl rfl (by simp) (fun w1 hx1 _ K hK => by go_step; exact hK _ (Ext.refl _)) ?_; simp only [put_lit, List.set_cons_succ, List.set_cons_zero]))
              (first | (refine wpE_move rfl rfl rfl ?_; simp only [put_lit, eval_lit, BigFrame.eval_const, List.set_cons_succ, List.set_cons_zero, List.getD_cons_succ, List.getD_cons_zero]) | (refine wpE_run rfl rfl (by simp) (fun w1 hx1 _ K hK => by go_step; exact hK _ (Ext.refl _)) ?_; simp only [put_lit, List.set_cons_succ, List.set_cons_zero]))
              (refine wpE_run rfl rfl (by simp) (fun w1 hx1 _ K hK => by have hc := hx1.cell d7; go_step; exact hK _ (Ext.refl _)) ?_); simp only [put_lit, List.set_cons_succ, List.set_cons_zero]
              (first | (refine wpE_move rfl rfl rfl ?_; simp only [put_lit, eval_lit, BigFrame.eval_const, List.set_cons_succ, List.set_cons_zero, List.getD_cons_succ, List.getD_cons_zero]) | (refine wpE_run rfl rfl (by simp) (fun w1 hx1 _ K hK => by go_step; exact hK _ (Ext.refl _)) ?_; simp only [put_lit, List.set_cons_succ, List.set_cons_zero]))
              (first | (refine wpE_move rfl rfl rfl ?_; simp only [put_lit, eval_lit, BigFrame.eval_const, List.set_cons_succ, List.set_cons_zero, List.getD_cons_succ, List.getD_cons_zero]) | (refine wpE_run rfl rfl (by simp) (fun w1 hx1 _ K hK => by go_step; exact hK _ (Ext.refl _)) ?_; simp only [put_lit, List.set_cons_succ, List.set_cons_zero]))
              (refine wpE_run rfl rfl (by simp) (fun w1 hx1 _ K hK => by have hc := hx1.cell d8; go_step; exact hK _ (Ext.refl _)) ?_); simp only [put_lit, List.set_cons_succ, List.set_cons_zero]
              (first | (refine wpE_move rfl rfl rfl ?_; simp only [put_lit, eval_lit, BigFrame.eval_const, List.set_cons_succ, List.set_cons_zero, List.getD_cons_succ, List.getD_cons_zero]) | (refine wpE_run rfl rfl (by simp) (fun w1 hx1 _ K hK => by go_step; exact hK _ (Ext.refl _)) ?_; simp only [put_lit, List.set_cons_succ, List.set_cons_zero]))
              rw [u8_xor_nat _ _ l7 l8, HH.out]
              refine wpE_any (V := One wr (.int .u8 ((hideP K ks nonce f (16 * k + j) : Nat) : Int))) rfl (fun _ _ _ hx h => h.mono hx) rfl (by simp) (fun w1 hx1 _ K hK => by go_step; exact hK _ _ (Ext.alloc _ _) ⟨_, rfl, hx1.size, Blk.new _ _ _⟩) ?_
              intro u38
              simp only [put_lit, List.set_cons_succ, List.set_cons_zero]
              refine wpE_nil ?_
              intro w2 hw2 hF
              simp only [List.drop_succ_cons, List.drop_zero]
              obtain ⟨g1, rfl, hg1, hb1⟩ := hF _ (List.mem_cons_self ..)
              clear hF d5 d7 d8
              have hs2 := hw2.size
              refine wpList_plain rfl fun K9 hK9 => ?_
              refine wp_append1 (.tmp 30) (.tmp 38) ?e1 (S + 2) g1 (n + 16) (16 * k + j) (hideP K ks nonce f (16 * k + j)) (mixF (16 * k + j) (hideP K ks nonce f) fun _ => 0) ?e2 ?e3 (B1.out.ext hw2) (hb1.cell 0) (by omega) ?_
              case e1 => rfl
              case e2 => rfl
              case e3 => rfl
              refine hK9 _ _ ?_
              clear hK9 K9
              rw [mixF_upd]
              have e1 := (B1.out.ext hw2).setRow (row (n + 16) (mixF (16 * k + j + 1) (hideP K ks nonce f) fun _ => 0))
              have e2 := (B2.out.ext hw2).setRow_other (k := S + 2) (row (n + 16) (mixF (16 * k + j + 1) (hideP K ks nonce f) fun _ => 0)) (by omega)
              have e3 := (B3.out.ext hw2).setRow_other (k := S + 2) (row (n + 16) (mixF (16 * k + j + 1) (hideP K ks nonce f) fun _ => 0)) (by omega)
              have e4 := (B4.out.trans (keeps_of_ext hw2)).trans (keeps_setRow (B1.out.ext hw2) (row (n + 16) (mixF (16 * k + j + 1) (hideP K ks nonce f) fun _ => 0)))
              have e5 := (B5.out.trans (KpB.ext hw2)).trans (KpB.setRow (lo := S + 7) (keep := fun j => j ≠ S + 2 ∧ j ≠ S + 3 ∧ j ≠ S + 4) (g := S + 2) (row (n + 16) (mixF (16 * k + j + 1) (hideP K ks nonce f) fun _ => 0)) (by omega) (fun h => h.1 rfl))
              have e6 : ∀ i, i < S + 7 → i ≠ S + 2 → i ≠ S + 3 → i ≠ S + 4 → (w2.setRow (S + 2) (row (n + 16) (mixF (16 * k + j + 1) (hideP K ks nonce f) fun _ => 0))).heap[i]? = w7.heap[i]? := fun i b1 b2 b3 b4 => (_root_.Go.setRow_other w2 (S + 2) i _ b2).trans ((hw2.block (by omega)).trans (B6.out i b1 b2 b3 b4))
              have e7 := below_setRow (g := S + 2) (B7.out.trans (Below.mono hw2 (by omega))) (by omega) (row (n + 16) (mixF (16 * k + j + 1) (hideP K ks nonce f) fun _ => 0))
              have e8 : S + 7 ≤ (w2.setRow (S + 2) (row (n + 16) (mixF (16 * k + j + 1) (hideP K ks nonce f) fun _ => 0))).heap.size := by simp; omega
              have e9 := (B9.out.ext hw2).setRow_other (k := S + 2) (row (n + 16) (mixF (16 * k + j + 1) (hideP K ks nonce f) fun _ => 0)) (by omega)
              have e10 := (B10.out.ext hw2).setRow_other (k := S + 2) (row (n + 16) (mixF (16 * k + j + 1) (hideP K ks nonce f) fun _ => 0)) (by omega)
              generalize w2.setRow (S + 2) (row (n + 16) (mixF (16 * k + j + 1) (hideP K ks nonce f) fun _ => 0)) = w3 at e1 e2 e3 e4 e5 e6 e7 e8 e9 e10 ⊢
              have hcc := e2.cell 0
              have hff := e2.frozen 0
              simp only [List.getElem?_toArray, List.getElem?_cons_zero] at hcc
              have E1 := Lib.hid e1
              have E2 := Lib.hid e2
              have E3 := Lib.hid e3
              have E4 := Lib.hid e4
              have E5 := Lib.hid e5
              have E6 := Lib.hid e6
              have E7 := Lib.hid e7
              have E9 := Lib.hid e9
              have E10 := Lib.hid e10
              clear e1 e2 e3 e4 e5 e6 e7 e9 e10 hw2 hb1 B1 B2 B3 B4 B5 B6 B7 B9 B10
              simp only [put_lit, List.set_cons_succ, List.set_cons_zero]
              go_wp2_with fail
              gi_wp2_with fail
              go_roundw
              case rel =>
                exact ⟨j + 1, by omega, by go_num, E1.out.other _ (by simp), E2.out.set 0 _, E3.out.other _ (by simp), E4.out.trans (KeepsOthers.setCell _ _ _), E5.out.trans (KpB.setCell _ (by simp) (by simp)), fun i b1 b2 b3 b4 => (Below.heap_setCell _ _ _ _ b3).trans (E6.out i b1 b2 b3 b4), E7.out.setCell (by simp) _, by simp; omega, E9.out.other _ (by simp; omega), E10.out.other _ (by simp; omega)⟩
              case measure => simp [intOf]; omega
          · obtain rfl : j = 16 := by omega
            have d6 : wr.cell? ⟨S + 4, 0, none⟩ = some (.int .i64 ((2 + k : Nat) : Int)) := B3.out.cell 0
            have f6 := B3.out.frozen 0
            gi_wp2_with fail
            rw [show min n (16 * (k + 1)) = 16 * k + 16 by omega, show (2 : Int) + ((k : Int) + 1) = 2 + (k : Int) + 1 by omega]
            refine ⟨B4.out.trans (KeepsOthers.setCell _ _ _), B5.out.trans (KpB.setCell _ (by simp) (by simp)), B1.out.other _ (by simp), B2.out.other _ (by simp), B3.out.set 0 _, fun i b1 b2 b3 b4 => (Below.heap_setCell _ _ _ _ b4).trans (B6.out i b1 b2 b3 b4), B7.out.setCell (by simp) _, by simp; omega⟩
      · have hm1 : (n : Int) - 16 * (k : Int) < 16 := by omega
        gi_wp2_with fail
        clear c21 c23
        gi_loopw [27] (fun v27 wr => ∃ j : Nat, j ≤ (n - 16 * k) ∧ v27 = .int .i64 j ∧ Blk wr (S + 2) 5 (row (n + 16) (mixF (16 * k + j) (hideP K ks nonce f) fun _ => 0)) ∧ Blk wr (S + 3) 22 #[.slice (some ⟨S + 2, 0, none⟩) (16 * k + j) (n + 16)] ∧ Blk wr (S + 4) 3 #[.int .i64 ((2 + k : Nat) : Int)] ∧
          KeepsOthers W wr ∧ KpB (S + 7) (fun j => j ≠ S + 2 ∧ j ≠ S + 3 ∧ j ≠ S + 4) W wr ∧ (∀ j, j < S + 7 → j ≠ S + 2 → j ≠ S + 3 → j ≠ S + 4 → wr.heap[j]? = w7.heap[j]?) ∧ Below S w7 wr ∧ S + 7 ≤ wr.heap.size ∧ Blk wr gz 23 (row 16 (fullP n f k)) ∧ Blk wr gy 23 (row 16 Y)) (fun v27 _ => (n - 16 * k) - (intOf v27).toNat)
        case atStart =>
          have hs2 := HX2.out.size
          exact ⟨0, by omega, rfl, A1.out.ext HX2.out, A2.out.ext HX2.out, A3.out.ext HX2.out, keeps_of_ext HX2.out, KpB.ext HX2.out, fun j b1 b2 b3 b4 => (HX2.out.block (by omega)).trans (A4.out j b1 b2 b3 b4), A5.out.trans (Below.mono HX2.out (by omega)), by omega, HZ.out.ext HX2.out, HB8.out⟩
        case round =>
          clear A1 A2 A3 A4 A5 HX2 HZ HB8
          obtain ⟨j, hj, rfl, b1, b2, b3, b4, b5, b6, b7, b8, b9, b10⟩ := hrel
          have B1 := Lib.hid b1
          have B2 := Lib.hid b2
          have B3 := Lib.hid b3
          have B4 := Lib.hid b4
          have B5 := Lib.hid b5
          have B6 := Lib.hid b6
          have B7 := Lib.hid b7
          have B9 := Lib.hid b9
          have B10 := Lib.hid b10
          clear b1 b2 b3 b4 b5 b6 b7 b9 b10
          by_cases hjr : j < (n - 16 * k)
          · have hj' : (j : Int) < (n : Int) - 16 * (k : Int) := by omega
            have d5 : wr.cell? ⟨S + 3, 0, none⟩ = some (.slice (some ⟨S + 2, 0, none⟩) (16 * k + j) (n + 16)) := B2.out.cell 0
            have d7 := B9.out.byte j (by omega)
            have d8 := B10.out.byte j (by omega)
            have l7 := fullP_lt hfl k j
            have l8 := hYl j (by omega)
            have HH := Lib.hid (show fullP n f k j ^^^ Y j = hideP K ks nonce f (16 * k + j) from by
              unfold hideP fullP
              rw [if_pos (by omega), HY.out, show (16 * k + j) / 16 = k by omega, show (16 * k + j) % 16 = j by omega])
            gi_wp2_with fail
            apply wpIn_region_mid l 9 [.det _, .det _, .det _, .det _, .det _, .det _, .det _, .det _, .any (One wr (.int .u8 ((hideP K ks nonce f (16 * k + j) : Nat) : Int)))] (by kernel_rfl) rfl (by kernel_rfl) (by kernel_rfl) (fun ⟨_, _, h⟩ => h)
            · have hj16 : (j : Int) < 16 := by omega
              (refine wpE_run rfl rfl (by simp) (fun w1 hx1 _ K hK => by have hc := hx1.cell d5; go_step; exact hK _ (Ext.refl _)) ?_); simp only [put_lit, List.set_cons_succ, List.set_cons_zero]
              (first | (refine wpE_move rfl rfl rfl ?_; simp only [put_lit, eval_lit, BigFrame.eval_const, List.set_cons_succ, List.set_cons_zero, List.getD_cons_succ, List.getD_cons_zero]) | (refine wpE_run rfl rfl (by simp) (fun w1 hx1 _ K hK => by go_step; exact hK _ (Ext.refl _)) ?_; simp only [put_lit, List.set_cons_succ, List.set_cons_zero]))
              (first | (refine wpE_move rfl rfl rfl ?_; simp only [put_lit, eval_lit, BigFrame.eval_const, List.set_cons_succ, List.set_cons_zero, List.getD_cons_succ, List.getD_cons_zero]) | (refine wpE_run rfl rfl (by simp) (fun w1 hx1 _ K hK => by go_step; exact hK _ (Ext.refl _)) ?_; simp only [put_lit, List.set_cons_succ, List.set_cons_zero]))
              (refine wpE_run rfl rfl (by simp) (fun w1 hx1 _ K hK => by have hc := hx1.cell d7; go_step; exact hK _ (Ext.refl _)) ?_); simp only [put_lit, List.set_cons_succ, List.set_cons_zero]
              (first | (refine wpE_move rfl rfl rfl ?_; simp only [put_lit, eval_lit, BigFrame.eval_const, List.set_cons_succ, List.set_cons_zero, List.getD_cons_succ, List.getD_cons_zero]) | (refine wpE_run rfl rfl (by simp) (fun w1 hx1 _ K hK => by go_step; exact hK _ (Ext.refl _)) ?_; simp only [put_lit, List.set_cons_succ, List.set_cons_zero]))
              (first | (refine wpE_move rfl rfl rfl ?_; simp only [put_lit, eval_lit, BigFrame.eval_const, List.set_cons_succ, List.set_cons_zero, List.getD_cons_succ, List.getD_cons_zero]) | (refine wpE_run rfl rfl (by simp) (fun w1 hx1 _ K hK => by go_step; exact hK _ (Ext.refl _)) ?_; simp only [put_lit, List.set_cons_succ, List.set_cons_zero]))
              (refine wpE_run rfl rfl (by simp) (fun w1 hx1 _ K hK => by have hc := hx1.cell d8; go_step; exact hK _ (Ext.refl _)) ?_); simp only [put_lit, List.set_cons_succ, List.set_cons_zero]
              (first | (refine wpE_move rfl rfl rfl ?_; simp only [put_lit, eval_lit, BigFrame.eval_const, List.set_cons_succ, List.set_cons_zero, List.getD_cons_succ, List.getD_cons_zero]) | (refine wpE_run rfl rfl (by simp) (fun w1 hx1 _ K hK => by go_step; exact hK _ (Ext.refl _)) ?_; simp only [put_lit, List.set_cons_succ, List.set_cons_zero]))
              rw [u8_xor_nat _ _ l7 l8, HH.out]
              refine wpE_any (V := One wr (.int .u8 ((hideP K ks nonce f (16 * k + j) : Nat) : Int))) rfl (fun _ _ _ hx h => h.mono hx) rfl (by simp) (fun w1 hx1 _ K hK => by go_step; exact hK _ _ (Ext.alloc _ _) ⟨_, rfl, hx1.size, Blk.new _ _ _⟩) ?_
              intro u38
              simp only [put_lit, List.set_cons_succ, List.set_cons_zero]
              refine wpE_nil ?_
              intro w2 hw2 hF
              simp only [List.drop_succ_cons, List.drop_zero]
              obtain ⟨g1, rfl, hg1, hb1⟩ := hF _ (List.mem_cons_self ..)
              clear hF d5 d7 d8
              have hs2 := hw2.size
              refine wpList_plain rfl fun K9 hK9 => ?_
              refine wp_append1 (.tmp 30) (.tmp 38) ?e1 (S + 2) g1 (n + 16) (16 * k + j) (hideP K ks nonce f (16 * k + j)) (mixF (16 * k + j) (hideP K ks nonce f) fun _ => 0) ?e2 ?e3 (B1.out.ext hw2) (hb1.cell 0) (by omega) ?_
              case e1 => rfl
              case e2 => rfl
              case e3 => rfl
              refine hK9 _ _ ?_
              clear hK9 K9
              rw [mixF_upd]
              have e1 := (B1.out.ext hw2).setRow (row (n + 16) (mixF (16 * k + j + 1) (hideP K ks nonce f) fun _ => 0))
              have e2 := (B2.out.ext hw2).setRow_other (k := S + 2) (row (n + 16) (mixF (16 * k + j + 1) (hideP K ks nonce f) fun _ => 0)) (by omega)
              have e3 := (B3.out.ext hw2).setRow_other (k := S + 2) (row (n + 16) (mixF (16 * k + j + 1) (hideP K ks nonce f) fun _ => 0)) (by omega)
              have e4 := (B4.out.trans (keeps_of_ext hw2)).trans (keeps_setRow (B1.out.ext hw2) (row (n + 16) (mixF (16 * k + j + 1) (hideP K ks nonce f) fun _ => 0)))
              have e5 := (B5.out.trans (KpB.ext hw2)).trans (KpB.setRow (lo := S + 7) (keep := fun j => j ≠ S + 2 ∧ j ≠ S + 3 ∧ j ≠ S + 4) (g := S + 2) (row (n + 16) (mixF (16 * k + j + 1) (hideP K ks nonce f) fun _ => 0)) (by omega) (fun h => h.1 rfl))
              have e6 : ∀ i, i < S + 7 → i ≠ S + 2 → i ≠ S + 3 → i ≠ S + 4 → (w2.setRow (S + 2) (row (n + 16) (mixF (16 * k + j + 1) (hideP K ks nonce f) fun _ => 0))).heap[i]? = w7.heap[i]? := fun i b1 b2 b3 b4 => (_root_.Go.setRow_other w2 (S + 2) i _ b2).trans ((hw2.block (by omega)).trans (B6.out i b1 b2 b3 b4))
              have e7 := below_setRow (g := S + 2) (B7.out.trans (Below.mono hw2 (by omega))) (by omega) (row (n + 16) (mixF (16 * k + j + 1) (hideP K ks nonce f) fun _ => 0))
              have e8 : S + 7 ≤ (w2.setRow (S + 2) (row (n + 16) (mixF (16 * k + j + 1) (hideP K ks nonce f) fun _ => 0))).heap.size := by simp; omega
              have e9 := (B9.out.ext hw2).setRow_other (k := S + 2) (row (n + 16) (mixF (16 * k + j + 1) (hideP K ks nonce f) fun _ => 0)) (by omega)
              have e10 := (B10.out.ext hw2).setRow_other (k := S + 2) (row (n + 16) (mixF (16 * k + j + 1) (hideP K ks nonce f) fun _ => 0)) (by omega)
              generalize w2.setRow (S + 2) (row (n + 16) (mixF (16 * k + j + 1) (hideP K ks nonce f) fun _ => 0)) = w3 at e1 e2 e3 e4 e5 e6 e7 e8 e9 e10 ⊢
              have hcc := e2.cell 0
              have hff := e2.frozen 0
              simp only [List.getElem?_toArray, List.getElem?_cons_zero] at hcc
              have E1 := Lib.hid e1
              have E2 := Lib.hid e2
              have E3 := Lib.hid e3
              have E4 := Lib.hid e4
              have E5 := Lib.hid e5
              have E6 := Lib.hid e6
              have E7 := Lib.hid e7
              have E9 := Lib.hid e9
              have E10 := Lib.hid e10
              clear e1 e2 e3 e4 e5 e6 e7 e9 e10 hw2 hb1 B1 B2 B3 B4 B5 B6 B7 B9 B10
              simp only [put_lit, List.set_cons_succ, List.set_cons_zero]
              go_wp2_with fail
              gi_wp2_with fail
              go_roundw
              case rel =>
                exact ⟨j + 1, by omega, by go_num, E1.out.other _ (by simp), E2.out.set 0 _, E3.out.other _ (by simp), E4.out.trans (KeepsOthers.setCell _ _ _), E5.out.trans (KpB.setCell _ (by simp) (by simp)), fun i b1 b2 b3 b4 => (Below.heap_setCell _ _ _ _ b3).trans (E6.out i b1 b2 b3 b4), E7.out.setCell (by simp) _, by simp; omega, E9.out.other _ (by simp; omega), E10.out.other _ (by simp; omega)⟩
              case measure => simp [intOf]; omega
          · obtain rfl : j = (n - 16 * k) := by omega
            have d6 : wr.cell? ⟨S + 4, 0, none⟩ = some (.int .i64 ((2 + k : Nat) : Int)) := B3.out.cell 0
            have f6 := B3.out.frozen 0
            gi_wp2_with fail
            rw [show min n (16 * (k + 1)) = 16 * k + (n - 16 * k) by omega, show (2 : Int) + ((k : Int) + 1) = 2 + (k : Int) + 1 by omega]
            refine ⟨B4.out.trans (KeepsOthers.setCell _ _ _), B5.out.trans (KpB.setCell _ (by simp) (by simp)), B1.out.other _ (by simp), B2.out.other _ (by simp), B3.out.set 0 _, fun i b1 b2 b3 b4 => (Below.heap_setCell _ _ _ _ b4).trans (B6.out i b1 b2 b3 b4), B7.out.setCell (by simp) _, by simp; omega⟩
  case done =>
    rintro D W hD ⟨a1, a2, a3, a4, a5, a6⟩ hdef
    rw [show min n (16 * ((n + 15) / 16)) = n by omega] at a1 a2
    have c5 : W.cell? ⟨S + 3, 0, none⟩ = some (.slice (some ⟨S + 2, 0, none⟩) n (n + 16)) := a2.cell 0
    have hb1 : Below S w7 (W.putObj D (.deferred none)) := a5.trans (belowK_b (w := w7) (by omega) W D _ _ hD hdef rfl rfl)
    have hb2 : Ext w (W.putObj D (.deferred none)) := Below.trans hX.out (Below.mono hb1 (by omega))
    have hb3 : Blk (W.putObj D (.deferred none)) (S + 2) 5 (row (n + 16) (mixF n (hideP K ks nonce f) fun _ => 0)) := (World.putObj_heap_other (by omega)).trans a1
    have hll : ∀ j, j < n → hideP K ks nonce f j < 256 := fun j hj => by
      obtain ⟨_, _, _, _, _, _, hks⟩ := HC.out
      exact xor_lt (hfl j hj) (blockP_lt K ks _ (fun i _ => ctrB_lt hNl _ i) (by omega) (fun i hi j hj => (hks i hi j hj).2) _ (Nat.mod_lt _ (by omega)))
    have hown : OwnF (W.putObj D (.deferred none)) w.heap.size (.slice (some ⟨S + 2, 0, none⟩) n (n + 16)) n (hideP K ks nonce f) := .inr ⟨S + 2, 0, n + 16, 5, _, rfl, by have := HS.out; omega, hb3, by omega, by rw [row_size]; omega, fun i hi => ⟨hll i hi, by
      rw [Nat.zero_add, row_get _ _ _ (by omega)]
      simp only [mixF, if_pos hi]⟩⟩
    have HO := Lib.hid hown
    have B2 := Lib.hid hb2
    have HD := Lib.hid hdef
    clear a1 a2 a3 a4 a5 hb1 hb2 hb3 hdef hown hS
    go_wp2_with fail
    exact marks_retD HD.out (by kernel_rfl) ⟨_, rfl, HO.out, B2.out⟩
end Go.Proofs.Ytnigpobbckampaa
