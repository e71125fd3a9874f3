/- GcmHides, walked. -/
import Derived.Test.YtnigpobbckampaaJ3
import Derived.Test.YtnigpobbckampaaR2
namespace Go.Proofs.Ytnigpobbckampaa
open Go.RowKit
set_option linter.unusedSimpArgs false
set_option linter.unusedVariables false

/-- The head's bytes. -/
def hdF : Nat → Nat := look [104, 101, 97, 100]
theorem hdF_lt : ∀ i, i < 4 → hdF i < 256 := by decide
theorem hides_eq (K : Nat) (ks : Nat → Nat → Nat) (nonce f g : Nat → Nat) (j : Nat) : hideP K ks nonce f j ^^^ hideP K ks nonce g j = f j ^^^ g j := by
  unfold hideP
  rw [x4, Nat.xor_self, Nat.xor_zero]
theorem run_head4 (w : World) : (Instr.buildSlice 22 4 #[(0, .int .u8 104), (1, .int .u8 101), (2, .int .u8 97), (3, .int .u8 100)]).run Try.prog w = .ok (.slice (some ⟨w.heap.size, 0, none⟩) 4 4) (w.alloc (.cells (row 4 hdF) 5)) := by
  obtain ⟨i0, hi, hz0, hz1, hz2⟩ := info_parts info5
  refine run_buildSlice w 22 5 4 _ _ i0 _ Try.underlying22 hi hz0 (by rw [hz1]; decide) (by rw [hz1]; decide) ?_
  rw [hz1]
  kernel_rfl
/-- The head's bytes, wherever they lie, whatever marks they bear. -/
def HeadV (B : Nat) (u : Value) (w : World) : Prop := ∃ g fr, u = .slice (some ⟨g, 0, none⟩) 4 4 ∧ B ≤ g ∧ w.heap[g]? = some (.cells (row 4 hdF) 5 fr)
theorem HeadV.mono {B C : Nat} {u : Value} {w w' : World} (hx : Grw C w w') (h : HeadV B u w) : HeadV B u w' := by
  obtain ⟨g, fr, hu, hg, hb⟩ := h
  obtain ⟨fr', hb'⟩ := hx.2 _ _ _ _ hb
  exact ⟨g, fr', hu, hg, hb'⟩
theorem HeadV.rd {B : Nat} {u : Value} {w : World} (h : HeadV B u w) : RdF w u 4 hdF := by
  obtain ⟨g, fr, rfl, hg, hb⟩ := h
  refine ⟨_, _, rfl, Nat.le_refl _, fun h => (by cases h), fun i hi => ⟨hdF_lt i hi, _, rfl, ?_⟩⟩
  rw [Addr.add_lit, Nat.zero_add]
  unfold World.cell?
  rw [hb]
  exact row_get 4 hdF i hi
theorem TupV.grw {B : Nat} {n : Nat} {f : Nat → Nat} {u : Value} {w w' : World} (hx : Grw B w w') (h : TupV n f u w) : TupV n f u w' := by
  obtain ⟨v', e, h⟩ := h
  exact ⟨v', e, hx.rd h⟩
theorem Grw.freeze {B g k : Nat} {w : World} (hg : B ≤ g) : Grw B w (w.freeze ⟨g, k, none⟩ 1) := by
  have hw : w.freeze ⟨g, k, none⟩ 1 = { w with heap := w.heap.modify g fun
      | .cells c elem (lo, hi) => .cells c elem (if lo == hi then (k, k + 1) else (min lo k, max hi (k + 1)))
      | o => o } := by
    unfold World.freeze
    rw [if_neg (by decide)]
    rfl
  rw [hw]
  refine ⟨⟨rfl, rfl, rfl, by simp, fun j hj => ?_⟩, fun j cs t fr he => ?_⟩
  · simp only [Array.getElem?_modify]
    rw [if_neg (by omega)]
  · simp only [Array.getElem?_modify]
    by_cases h : g = j
    · subst h
      rw [if_pos rfl, he]
      exact ⟨_, rfl⟩
    · rw [if_neg h]
      exact ⟨fr, he⟩
theorem run_conv4 (w : World) (g : Nat) (fr : Nat × Nat) (hb : w.heap[g]? = some (.cells (row 4 hdF) 5 fr)) : (convert 22 22 (.slice (some ⟨g, 0, none⟩) 4 4)).run Try.prog w = .ok (.slice (some ⟨g, 0, none⟩) 4 4) (w.freeze ⟨g, 4, none⟩ 1) := by
  have hsh : w.shape? g = some (5, 4) := by
    unfold World.shape?
    rw [hb]
    simp [row_size]
  simp [convert, run_underlying Try.underlying22, run_underlying Try.underlying5, markStringish, hsh]
theorem wp_head4 {o : Oper} {a : Act} {w : World} {Q : Exit → Act → World → Prop} {K : Act → World → Prop} (xs : Array (Nat × Operand)) (ho : o.op = .buildSlice 22 4 xs) (hxs : xs.map (fun p => (p.1, a.eval p.2)) = #[(0, .int .u8 104), (1, .int .u8 101), (2, .int .u8 97), (3, .int .u8 100)])
    (hK : ∀ v, (∀ B, B ≤ w.heap.size → HeadV B v (w.alloc (.cells (row 4 hdF) 5))) → Ext w (w.alloc (.cells (row 4 hdF) 5)) → K (a.put o.dst v) (w.alloc (.cells (row 4 hdF) 5))) : o.wp Try.prog a w K Q := by
  have hr := run_head4 w
  unfold Oper.wp execOp
  rw [ho]
  simp only [hxs, Sem.run_bind, hr, Result.andThen_ok]
  exact hK _ (fun B hB => ⟨_, _, rfl, hB, Blk.new w 5 _⟩) (Ext.alloc _ _)

set_option maxRecDepth 100000 in
set_option maxHeartbeats 1000000 in
theorem gcmhides_any (v : Value) (n : Nat) (f X : Nat → Nat) (u t : Value) (m : Nat) (g : Nat → Nat) (l : Nat) (e : Nat → Nat) (w : World) (hn : n ≤ 9223372036854775807) (hv : RdF w v n f) (hX : ∀ j, j < 12 → X j < 256)
    (hm : m ≤ 9223372036854775807) (hu : RdF w u m g) (hl : l ≤ 9223372036854775807) (ht : RdF w t l e) :
    Calls Try.prog 16 #[v, .agg (row 12 X), .agg #[u, t]] w fun e w' => e = .returned (.bool true) ∧ Ext w w' := by
  obtain ⟨uo, uc, rfl, huc⟩ := hu.len
  obtain ⟨so, tc, rfl, htc⟩ := ht.len
  have HV := Lib.hid hv
  have HU := Lib.hid hu
  have HT := Lib.hid ht
  clear hv hu ht
  go_enter Try.func16, Try.ntmps16
  go_upto_region 1 with (first | (refine wl_boxA rfl 55 _ rfl _ rfl ?_) | (refine wl_boxA rfl 56 _ rfl _ rfl ?_))
  have hB : Blk ((w.alloc (.cells (row 12 X) 55)).alloc (.cells #[.slice uo m uc, .slice so l tc] 56)) w.heap.size 55 (row 12 X) := (Blk.new w _ _).alloc _
  have hA : Blk ((w.alloc (.cells (row 12 X) 55)).alloc (.cells #[.slice uo m uc, .slice so l tc] 56)) (w.heap.size + 1) 56 #[.slice uo m uc, .slice so l tc] := by
    have := Blk.new (w.alloc (.cells (row 12 X) 55)) 56 #[.slice uo m uc, .slice so l tc]
    simpa only [World.size_alloc] using this
  have hx : Ext w ((w.alloc (.cells (row 12 X) 55)).alloc (.cells #[.slice uo m uc, .slice so l tc] 56)) := (Ext.alloc _ _).trans (Ext.alloc _ _)
  try simp only [put_lit, put_nil7, List.set_cons_succ, List.set_cons_zero, World.size_alloc]
  generalize (w.alloc (.cells (row 12 X) 55)).alloc (.cells #[.slice uo m uc, .slice so l tc] 56) = w1 at hB hA hx ⊢
  have hc0 : w1.cell? ⟨w.heap.size + 1, 0, none⟩ = some (.slice uo m uc) := (hA.cell 0).trans rfl
  have hc1 : w1.cell? ⟨w.heap.size + 1, 1, none⟩ = some (.slice so l tc) := (hA.cell 1).trans rfl
  have HB := Lib.hid hB
  have HX := Lib.hid hx
  clear hB hA hx
  obtain ⟨q, hq⟩ : ∃ q, q = min (min m l) 300 := ⟨_, rfl⟩
  have hqm : q ≤ m := by omega
  have hql : q ≤ l := by omega
  have hq3 : q ≤ 300 := by omega
  have HQ := Lib.hid hq
  clear hq
  have E1 := Lib.hid (show (if 300 < (if l < m then (l : Int) else (m : Int)) then 300 else (if l < m then (l : Int) else (m : Int))) = (q : Int) from by
    by_cases h : l < m
    · rw [if_pos h]; have := HQ.out; split <;> omega
    · rw [if_neg h]; have := HQ.out; split <;> omega)
  go_upto_region 2 with fail
  rw [E1.out]
  have HC0 := Lib.hid hc0
  have HC1 := Lib.hid hc1
  have HP := Lib.hid (HU.out.head q hqm)
  have HT1 := Lib.hid (HT.out.head q hql)
  clear hc0 hc1 HU HT E1 HQ
  have HU := HP
  have HT := HT1
  clear HP HT1
  go_wp2_with fail
  refine (key38_any v n f _ hn (HV.out.ext HX.out)).mono ?_
  rintro e3 w3 ⟨v3, rfl, ho3, hx3⟩
  have HO3 := Lib.hid ho3.rd
  have HX3 := Lib.hid (HX.out.trans hx3)
  have HB3 := Lib.hid (HB.out.ext hx3)
  have HC03 := Lib.hid (hx3.cell HC0.out)
  have HC13 := Lib.hid (hx3.cell HC1.out)
  clear ho3 hx3 HB HX HC0 HC1
  go_wp2_with fail
  refine (newk19_any v3 n _ _ HO3.out).mono ?_
  rintro e4 w4 ⟨b, rfl, hC, hx4⟩
  have HC := Lib.hid hC
  have HX := Lib.hid (HX3.out.trans hx4)
  have HB := Lib.hid (HB3.out.ext hx4)
  have HC0 := Lib.hid (hx4.cell HC03.out)
  have HC1 := Lib.hid (hx4.cell HC13.out)
  clear hC hx4 HB3 HX3 HO3 HC03 HC13
  go_upto_region 5 with fail
  apply wp_region_mid 12 [.det _, .det _, .det _, .det _, .det _, .det _, .any (TupV (q + 16) (sealP (Kn n) (ksn n (keyF n f)) X q 0 g fun _ => 0)), .any (TupV (q + 16) (sealP (Kn n) (ksn n (keyF n f)) X q 0 g fun _ => 0)), .any (RdV (q + 16) (sealP (Kn n) (ksn n (keyF n f)) X q 0 g fun _ => 0)), .det _, .any (RdV (q + 16) (sealP (Kn n) (ksn n (keyF n f)) X q 0 g fun _ => 0)), .det _] (by kernel_rfl) rfl (by kernel_rfl)
  · skip
    (first | (refine wpE_move rfl rfl rfl ?_; simp only [put_lit, eval_lit, BigFrame.eval_const, List.set_cons_succ, List.set_cons_zero, List.getD_cons_succ, List.getD_cons_zero]) | (refine wpE_run rfl rfl (by simp) (fun w1 hx1 _ K hK => by go_step; exact hK _ (Ext.refl _)) ?_; simp only [put_lit, List.set_cons_succ, List.set_cons_zero]))
    refine wpE_run rfl rfl (by simp) (fun w' hx' _ K hK => wp_loadA 55 _ rfl _ 0 12 rfl agg55 sz55 _ _ (HB.out.ext hx') (by simp [row_size]) (row 12 X) (row_whole _ _) (hK _ (Ext.refl _))) ?_
    simp only [put_lit, List.set_cons_succ, List.set_cons_zero]
    (first | (refine wpE_move rfl rfl rfl ?_; simp only [put_lit, eval_lit, BigFrame.eval_const, List.set_cons_succ, List.set_cons_zero, List.getD_cons_succ, List.getD_cons_zero]) | (refine wpE_run rfl rfl (by simp) (fun w1 hx1 _ K hK => by go_step; exact hK _ (Ext.refl _)) ?_; simp only [put_lit, List.set_cons_succ, List.set_cons_zero]))
    (refine wpE_run rfl rfl (by simp) (fun w1 hx1 _ K hK => by have hc := hx1.cell HC0.out; go_step; exact hK _ (Ext.refl _)) ?_); simp only [put_lit, List.set_cons_succ, List.set_cons_zero]
    (first | (refine wpE_move rfl rfl rfl ?_; simp only [put_lit, eval_lit, BigFrame.eval_const, List.set_cons_succ, List.set_cons_zero, List.getD_cons_succ, List.getD_cons_zero]) | (refine wpE_run rfl rfl (by simp) (fun w1 hx1 _ K hK => by go_step; exact hK _ (Ext.refl _)) ?_; simp only [put_lit, List.set_cons_succ, List.set_cons_zero]))
    (first | (refine wpE_move rfl rfl rfl ?_; simp only [put_lit, eval_lit, BigFrame.eval_const, List.set_cons_succ, List.set_cons_zero, List.getD_cons_succ, List.getD_cons_zero]) | (refine wpE_run rfl rfl (by simp) (fun w1 hx1 _ K hK => by go_step; exact hK _ (Ext.refl _)) ?_; simp only [put_lit, List.set_cons_succ, List.set_cons_zero]))
    refine wpE_any (V := TupV (q + 16) (sealP (Kn n) (ksn n (keyF n f)) X q 0 g fun _ => 0)) rfl (fun _ _ _ hx h => h.mono hx) rfl (by simp) (fun w1 hx1 hfc K9 hK9 => by clear hfc; go_wp2_with (go_at_call 39; refine (seal39_any _ _ q 0 b (Kn n) g (fun _ => 0) X (ksn n (keyF n f)) _ (by omega) (by omega) (HU.out.ext (HX.out.trans hx1)) (⟨none, 0, rfl, Nat.le_refl _, fun _ => rfl, fun i hi => absurd hi (Nat.not_lt_zero _)⟩) hX (HC.out.ext hx1) (Kn_ge n) (Kn_le n)).mono ?_; rintro e2 w2 ⟨v2, rfl, ho2, hx2⟩; exact hK9 _ _ hx2 ⟨v2, rfl, ho2.rd⟩)) ?_
    intro u37
    simp only [put_lit, List.set_cons_succ, List.set_cons_zero]
    refine wpE_any (V := TupV (q + 16) (sealP (Kn n) (ksn n (keyF n f)) X q 0 g fun _ => 0)) rfl (fun _ _ _ hx h => h.mono hx) rfl (by simp) (fun w1 hx1 hfc K9 hK9 => by have h47 := hfc (37, TupV (q + 16) (sealP (Kn n) (ksn n (keyF n f)) X q 0 g fun _ => 0) u37) (by simp) (by show (37 : Nat) ∈ _; decide); go_step; exact hK9 _ _ (Ext.refl _) h47) ?_
    intro u30
    simp only [put_lit, List.set_cons_succ, List.set_cons_zero]
    refine wpE_any (V := RdV (q + 16) (sealP (Kn n) (ksn n (keyF n f)) X q 0 g fun _ => 0)) rfl (fun _ _ _ hx h => h.mono hx) rfl (by simp) (fun w1 hx1 hfc K9 hK9 => by obtain ⟨v', rfl, hr⟩ := hfc (30, TupV (q + 16) (sealP (Kn n) (ksn n (keyF n f)) X q 0 g fun _ => 0) u30) (by simp) (by show (30 : Nat) ∈ _; decide); go_step; exact hK9 _ _ (Ext.refl _) hr) ?_
    intro u38
    simp only [put_lit, List.set_cons_succ, List.set_cons_zero]
    refine wpE_run rfl rfl (by simp) (fun w1 hx1 hfc K9 hK9 => by obtain ⟨v', rfl, hr⟩ := hfc (30, TupV (q + 16) (sealP (Kn n) (ksn n (keyF n f)) X q 0 g fun _ => 0) u30) (by simp) (by show (30 : Nat) ∈ _; decide); go_step; exact hK9 _ (Ext.refl _)) ?_
    simp only [put_lit, List.set_cons_succ, List.set_cons_zero]
    refine wpE_any (V := RdV (q + 16) (sealP (Kn n) (ksn n (keyF n f)) X q 0 g fun _ => 0)) rfl (fun _ _ _ hx h => h.mono hx) rfl (by simp) (fun w1 hx1 hfc K9 hK9 => by have hr := hfc (38, RdV (q + 16) (sealP (Kn n) (ksn n (keyF n f)) X q 0 g fun _ => 0) u38) (by simp) (by show (38 : Nat) ∈ _; decide); go_step; exact hK9 _ _ (Ext.refl _) hr) ?_
    intro u10
    simp only [put_lit, List.set_cons_succ, List.set_cons_zero]
    (first | (refine wpE_move rfl rfl rfl ?_; simp only [put_lit, eval_lit, BigFrame.eval_const, List.set_cons_succ, List.set_cons_zero, List.getD_cons_succ, List.getD_cons_zero]) | (refine wpE_run rfl rfl (by simp) (fun w1 hx1 _ K hK => by go_step; exact hK _ (Ext.refl _)) ?_; simp only [put_lit, List.set_cons_succ, List.set_cons_zero]))
    refine wpE_nil ?_
    intro w5 hw5 hF
    simp only [List.drop_succ_cons, List.drop_zero]
    have H10 := Lib.hid (show RdF w5 u10 (q + 16) (sealP (Kn n) (ksn n (keyF n f)) X q 0 g fun _ => 0) from hF (10, RdV (q + 16) (sealP (Kn n) (ksn n (keyF n f)) X q 0 g fun _ => 0) u10) (by simp))
    have HB5 := Lib.hid (HB.out.ext hw5)
    have HC5 := Lib.hid (HC.out.ext hw5)
    have HX5 := Lib.hid (HX.out.trans hw5)
    have HC15 := Lib.hid (hw5.cell HC1.out)
    have HC05 := Lib.hid (hw5.cell HC0.out)
    clear hF hw5 HB HC HX HC0 HC1
    have HB := HB5
    have HC := HC5
    have HX := HX5
    have HC1 := HC15
    have HC0 := HC05
    clear HB5 HC5 HX5 HC15 HC05
    go_upto_region 6 with fail
    apply wp_region_midM (B := w5.heap.size) 14 [.det _, .det _, .det _, .det _, .det _, .det _, .any (HeadV w5.heap.size), .any (HeadV w5.heap.size), .any (TupV (q + 16) (sealP (Kn n) (ksn n (keyF n f)) X q 4 e hdF)), .any (TupV (q + 16) (sealP (Kn n) (ksn n (keyF n f)) X q 4 e hdF)), .any (RdV (q + 16) (sealP (Kn n) (ksn n (keyF n f)) X q 4 e hdF)), .det _, .any (RdV (q + 16) (sealP (Kn n) (ksn n (keyF n f)) X q 4 e hdF)), .det _] (by kernel_rfl) rfl (by kernel_rfl)
    · skip
      (first | (refine wpE_moveM rfl rfl rfl ?_; simp only [put_lit, eval_lit, BigFrame.eval_const, List.set_cons_succ, List.set_cons_zero, List.getD_cons_succ, List.getD_cons_zero]) | (refine wpE_runM rfl rfl (by simp) (fun w1 hx1 _ K hK => by go_step; exact hK _ (Grw.refl _ _)) ?_; simp only [put_lit, List.set_cons_succ, List.set_cons_zero]))
      refine wpE_runM rfl rfl (by simp) (fun w' hx' _ K hK => wp_loadA 55 _ rfl _ 0 12 rfl agg55 sz55 _ _ (HB.out.ext hx'.1) (by simp [row_size]) (row 12 X) (row_whole _ _) (hK _ (Grw.refl _ _))) ?_
      simp only [put_lit, List.set_cons_succ, List.set_cons_zero]
      (first | (refine wpE_moveM rfl rfl rfl ?_; simp only [put_lit, eval_lit, BigFrame.eval_const, List.set_cons_succ, List.set_cons_zero, List.getD_cons_succ, List.getD_cons_zero]) | (refine wpE_runM rfl rfl (by simp) (fun w1 hx1 _ K hK => by go_step; exact hK _ (Grw.refl _ _)) ?_; simp only [put_lit, List.set_cons_succ, List.set_cons_zero]))
      refine wpE_runM rfl rfl (by simp) (fun w1 hx1 _ K hK => by have hc := Ext.cell hx1.1 HC1.out; go_step; exact hK _ (Grw.refl _ _)) ?_
      simp only [put_lit, List.set_cons_succ, List.set_cons_zero]
      (first | (refine wpE_moveM rfl rfl rfl ?_; simp only [put_lit, eval_lit, BigFrame.eval_const, List.set_cons_succ, List.set_cons_zero, List.getD_cons_succ, List.getD_cons_zero]) | (refine wpE_runM rfl rfl (by simp) (fun w1 hx1 _ K hK => by go_step; exact hK _ (Grw.refl _ _)) ?_; simp only [put_lit, List.set_cons_succ, List.set_cons_zero]))
      (first | (refine wpE_moveM rfl rfl rfl ?_; simp only [put_lit, eval_lit, BigFrame.eval_const, List.set_cons_succ, List.set_cons_zero, List.getD_cons_succ, List.getD_cons_zero]) | (refine wpE_runM rfl rfl (by simp) (fun w1 hx1 _ K hK => by go_step; exact hK _ (Grw.refl _ _)) ?_; simp only [put_lit, List.set_cons_succ, List.set_cons_zero]))
      refine wpE_anyM (V := HeadV w5.heap.size) rfl (fun _ _ _ hx h => h.mono hx) rfl (by simp) (fun w1 hx1 _ K9 hK9 => by refine wp_head4 _ rfl (by first | rfl | kernel_rfl) ?_; intro v2 hv2 hx2; exact hK9 _ _ (Grw.of_ext hx2 hx1.1.size) (hv2 _ hx1.1.size)) ?_
      intro u47
      simp only [put_lit, List.set_cons_succ, List.set_cons_zero]
      refine wpE_anyM (V := HeadV w5.heap.size) rfl (fun _ _ _ hx h => h.mono hx) rfl (by simp) (fun w1 hx1 hfc K9 hK9 => by have hr : HeadV w5.heap.size u47 w1 := hfc (47, HeadV w5.heap.size u47) (by simp) (by show (47 : Nat) ∈ _; decide); obtain ⟨g9, fr9, rfl, hg9, hb9⟩ := hr; have hcv := run_conv4 w1 g9 fr9 hb9; have hgw := Grw.freeze (k := 4) hg9 (w := w1); clear hfc; go_step; exact hK9 _ _ hgw (HeadV.mono hgw ⟨g9, fr9, rfl, hg9, hb9⟩)) ?_
      intro u48
      simp only [put_lit, List.set_cons_succ, List.set_cons_zero]
      refine wpE_anyM (V := TupV (q + 16) (sealP (Kn n) (ksn n (keyF n f)) X q 4 e hdF)) rfl (fun _ _ _ hx h => TupV.grw hx h) rfl (by simp) (fun w1 hx1 hfc K9 hK9 => by have h48 := Lib.hid (HeadV.rd (hfc (48, HeadV w5.heap.size u48) (by simp) (by show (48 : Nat) ∈ _; decide))); clear hfc; have hx9 : Ext w5 w1 := hx1.1; go_wp2_with (go_at_call 39; refine (seal39_any _ _ q 4 b (Kn n) e hdF X (ksn n (keyF n f)) _ (by omega) (by omega) (HT.out.ext (HX.out.trans hx9)) (h48.out) hX (HC.out.ext hx9) (Kn_ge n) (Kn_le n)).mono ?_; rintro e2 w2 ⟨v2, rfl, ho2, hx2⟩; exact hK9 _ _ (Grw.of_ext hx2 hx9.size) ⟨v2, rfl, ho2.rd⟩)) ?_
      intro u49
      simp only [put_lit, List.set_cons_succ, List.set_cons_zero]
      refine wpE_anyM (V := TupV (q + 16) (sealP (Kn n) (ksn n (keyF n f)) X q 4 e hdF)) rfl (fun _ _ _ hx h => TupV.grw hx h) rfl (by simp) (fun w1 hx1 hfc K9 hK9 => by have h47 := hfc (49, TupV (q + 16) (sealP (Kn n) (ksn n (keyF n f)) X q 4 e hdF) u49) (by simp) (by show (49 : Nat) ∈ _; decide); go_step; exact hK9 _ _ (Grw.refl _ _) h47) ?_
      intro u40
      simp only [put_lit, List.set_cons_succ, List.set_cons_zero]
      refine wpE_anyM (V := RdV (q + 16) (sealP (Kn n) (ksn n (keyF n f)) X q 4 e hdF)) rfl (fun _ _ _ hx h => Grw.rd hx h) rfl (by simp) (fun w1 hx1 hfc K9 hK9 => by obtain ⟨v', rfl, hr⟩ := hfc (40, TupV (q + 16) (sealP (Kn n) (ksn n (keyF n f)) X q 4 e hdF) u40) (by simp) (by show (40 : Nat) ∈ _; decide); go_step; exact hK9 _ _ (Grw.refl _ _) hr) ?_
      intro u50
      simp only [put_lit, List.set_cons_succ, List.set_cons_zero]
      refine wpE_runM rfl rfl (by simp) (fun w1 hx1 hfc K9 hK9 => by obtain ⟨v', rfl, hr⟩ := hfc (40, TupV (q + 16) (sealP (Kn n) (ksn n (keyF n f)) X q 4 e hdF) u40) (by simp) (by show (40 : Nat) ∈ _; decide); go_step; exact hK9 _ (Grw.refl _ _)) ?_
      simp only [put_lit, List.set_cons_succ, List.set_cons_zero]
      refine wpE_anyM (V := RdV (q + 16) (sealP (Kn n) (ksn n (keyF n f)) X q 4 e hdF)) rfl (fun _ _ _ hx h => Grw.rd hx h) rfl (by simp) (fun w1 hx1 hfc K9 hK9 => by have hr := hfc (50, RdV (q + 16) (sealP (Kn n) (ksn n (keyF n f)) X q 4 e hdF) u50) (by simp) (by show (50 : Nat) ∈ _; decide); go_step; exact hK9 _ _ (Grw.refl _ _) hr) ?_
      intro u12
      simp only [put_lit, List.set_cons_succ, List.set_cons_zero]
      (first | (refine wpE_moveM rfl rfl rfl ?_; simp only [put_lit, eval_lit, BigFrame.eval_const, List.set_cons_succ, List.set_cons_zero, List.getD_cons_succ, List.getD_cons_zero]) | (refine wpE_runM rfl rfl (by simp) (fun w1 hx1 _ K hK => by go_step; exact hK _ (Grw.refl _ _)) ?_; simp only [put_lit, List.set_cons_succ, List.set_cons_zero]))
      refine wpE_nilM ?_
      intro w6 hw6m hF
      have hw6 : Ext w5 w6 := hw6m.1
      clear hw6m
      simp only [List.drop_succ_cons, List.drop_zero]
      have H12 := Lib.hid (show RdF w6 u12 (q + 16) (sealP (Kn n) (ksn n (keyF n f)) X q 4 e hdF) from hF (12, RdV (q + 16) (sealP (Kn n) (ksn n (keyF n f)) X q 4 e hdF) u12) (by simp))
      have H10' := Lib.hid (H10.out.ext hw6)
      have HX6 := Lib.hid (HX.out.trans hw6)
      have HC16 := Lib.hid (hw6.cell HC1.out)
      have HC06 := Lib.hid (hw6.cell HC0.out)
      clear hF hw6 HB HC HX HC0 HC1 H10
      obtain ⟨ao, ac, rfl, hac⟩ := H10'.out.len
      obtain ⟨bo, bc, rfl, hbc⟩ := H12.out.len
      have hne : ((((q + 16 : Nat) : Nat) : Int) != (q : Int) + 16) = false := by simp
      go_wp2_with fail
      go_loopw [14] (fun v14 wr => ∃ i : Nat, i ≤ q ∧ v14 = .int .i64 i ∧ Ext w6 wr) (fun v14 _ => q - (intOf v14).toNat)
      case atStart => exact ⟨0, by omega, rfl, Ext.refl _⟩
      case round =>
        obtain ⟨i, hi, rfl, hx⟩ := hrel
        have HX := Lib.hid hx
        clear hx
        by_cases him : i < q
        · have him' : (i : Int) < (q : Int) := by omega
          obtain ⟨g1, o1, c1, e1, _, hf1⟩ := (H10'.out.ext HX.out).form (by omega)
          obtain ⟨rfl, rfl⟩ : ao = some ⟨g1, o1, none⟩ ∧ ac = c1 := by cases e1; exact ⟨rfl, rfl⟩
          obtain ⟨g2, o2, c2, e2, _, hf2⟩ := (H12.out.ext HX.out).form (by omega)
          obtain ⟨rfl, rfl⟩ : bo = some ⟨g2, o2, none⟩ ∧ bc = c2 := by cases e2; exact ⟨rfl, rfl⟩
          obtain ⟨g3, o3, c3, e3, _, hf3⟩ := (HU.out.ext (HX6.out.trans HX.out)).form (by omega)
          obtain ⟨rfl, rfl⟩ : uo = some ⟨g3, o3, none⟩ ∧ uc = c3 := by cases e3; exact ⟨rfl, rfl⟩
          obtain ⟨g4, o4, c4, e4, _, hf4⟩ := (HT.out.ext (HX6.out.trans HX.out)).form (by omega)
          obtain ⟨rfl, rfl⟩ : so = some ⟨g4, o4, none⟩ ∧ tc = c4 := by cases e4; exact ⟨rfl, rfl⟩
          obtain ⟨l1, q1⟩ := hf1 i (by omega)
          obtain ⟨l2, q2⟩ := hf2 i (by omega)
          obtain ⟨l3, q3⟩ := hf3 i him
          obtain ⟨l4, q4⟩ := hf4 i him
          rw [sealP_lt i him] at l1 q1 l2 q2
          have hxx := hides_eq (Kn n) (ksn n (keyF n f)) X g e i
          have HQ1 := Lib.hid q1
          have HQ2 := Lib.hid q2
          have HQ3 := Lib.hid q3
          have HQ4 := Lib.hid q4
          have HC0 := Lib.hid (HX.out.cell HC06.out)
          have HC1 := Lib.hid (HX.out.cell HC16.out)
          clear hf1 hf2 hf3 hf4 e1 e2 e3 e4 q1 q2 q3 q4
          generalize hideP (Kn n) (ksn n (keyF n f)) X g i = a1 at l1 hxx HQ1
          generalize hideP (Kn n) (ksn n (keyF n f)) X e i = a2 at l2 hxx HQ2
          generalize g i = a3 at l3 hxx HQ3
          generalize e i = a4 at l4 hxx HQ4
          have HXX := Lib.hid hxx
          have hxl := xor_lt l1 l2
          clear hxx
          have hqm' : (i : Int) < (m : Int) := by omega
          have hql' : (i : Int) < (l : Int) := by omega
          go_upto_region 12 with fail
          apply wp_region_mid 21 [.det _, .det _, .det _, .det _, .det _, .det _, .det _, .det _, .det _, .det _, .det _, .det _, .det _, .det _, .det _, .det _, .det _, .det _, .det _, .det _, .det _] (by kernel_rfl) rfl (by kernel_rfl)
          · (first | (refine wpE_move rfl rfl rfl ?_; simp only [put_lit, eval_lit, BigFrame.eval_const, List.set_cons_succ, List.set_cons_zero, List.getD_cons_succ, List.getD_cons_zero]) | (refine wpE_run rfl rfl (by simp) (fun w1 hx1 _ K hK => by go_step; exact hK _ (Ext.refl _)) ?_; simp only [put_lit, List.set_cons_succ, List.set_cons_zero]))
            (first | (refine wpE_move rfl rfl rfl ?_; simp only [put_lit, eval_lit, BigFrame.eval_const, List.set_cons_succ, List.set_cons_zero, List.getD_cons_succ, List.getD_cons_zero]) | (refine wpE_run rfl rfl (by simp) (fun w1 hx1 _ K hK => by go_step; exact hK _ (Ext.refl _)) ?_; simp only [put_lit, List.set_cons_succ, List.set_cons_zero]))
            (first | (refine wpE_move rfl rfl rfl ?_; simp only [put_lit, eval_lit, BigFrame.eval_const, List.set_cons_succ, List.set_cons_zero, List.getD_cons_succ, List.getD_cons_zero]) | (refine wpE_run rfl rfl (by simp) (fun w1 hx1 _ K hK => by go_step; exact hK _ (Ext.refl _)) ?_; simp only [put_lit, List.set_cons_succ, List.set_cons_zero]))
            (refine wpE_run rfl rfl (by simp) (fun w1 hx1 _ K hK => by have hc := hx1.cell HQ1.out; go_step; exact hK _ (Ext.refl _)) ?_); simp only [put_lit, List.set_cons_succ, List.set_cons_zero]
            (first | (refine wpE_move rfl rfl rfl ?_; simp only [put_lit, eval_lit, BigFrame.eval_const, List.set_cons_succ, List.set_cons_zero, List.getD_cons_succ, List.getD_cons_zero]) | (refine wpE_run rfl rfl (by simp) (fun w1 hx1 _ K hK => by go_step; exact hK _ (Ext.refl _)) ?_; simp only [put_lit, List.set_cons_succ, List.set_cons_zero]))
            (first | (refine wpE_move rfl rfl rfl ?_; simp only [put_lit, eval_lit, BigFrame.eval_const, List.set_cons_succ, List.set_cons_zero, List.getD_cons_succ, List.getD_cons_zero]) | (refine wpE_run rfl rfl (by simp) (fun w1 hx1 _ K hK => by go_step; exact hK _ (Ext.refl _)) ?_; simp only [put_lit, List.set_cons_succ, List.set_cons_zero]))
            (first | (refine wpE_move rfl rfl rfl ?_; simp only [put_lit, eval_lit, BigFrame.eval_const, List.set_cons_succ, List.set_cons_zero, List.getD_cons_succ, List.getD_cons_zero]) | (refine wpE_run rfl rfl (by simp) (fun w1 hx1 _ K hK => by go_step; exact hK _ (Ext.refl _)) ?_; simp only [put_lit, List.set_cons_succ, List.set_cons_zero]))
            (refine wpE_run rfl rfl (by simp) (fun w1 hx1 _ K hK => by have hc := hx1.cell HQ2.out; go_step; exact hK _ (Ext.refl _)) ?_); simp only [put_lit, List.set_cons_succ, List.set_cons_zero]
            (first | (refine wpE_move rfl rfl rfl ?_; simp only [put_lit, eval_lit, BigFrame.eval_const, List.set_cons_succ, List.set_cons_zero, List.getD_cons_succ, List.getD_cons_zero]) | (refine wpE_run rfl rfl (by simp) (fun w1 hx1 _ K hK => by go_step; exact hK _ (Ext.refl _)) ?_; simp only [put_lit, List.set_cons_succ, List.set_cons_zero]))
            rw [u8_xor_nat _ _ l1 l2]
            (first | (refine wpE_move rfl rfl rfl ?_; simp only [put_lit, eval_lit, BigFrame.eval_const, List.set_cons_succ, List.set_cons_zero, List.getD_cons_succ, List.getD_cons_zero]) | (refine wpE_run rfl rfl (by simp) (fun w1 hx1 _ K hK => by go_step; exact hK _ (Ext.refl _)) ?_; simp only [put_lit, List.set_cons_succ, List.set_cons_zero]))
            (refine wpE_run rfl rfl (by simp) (fun w1 hx1 _ K hK => by have hc := hx1.cell HC0.out; go_step; exact hK _ (Ext.refl _)) ?_); simp only [put_lit, List.set_cons_succ, List.set_cons_zero]
            (first | (refine wpE_move rfl rfl rfl ?_; simp only [put_lit, eval_lit, BigFrame.eval_const, List.set_cons_succ, List.set_cons_zero, List.getD_cons_succ, List.getD_cons_zero]) | (refine wpE_run rfl rfl (by simp) (fun w1 hx1 _ K hK => by go_step; exact hK _ (Ext.refl _)) ?_; simp only [put_lit, List.set_cons_succ, List.set_cons_zero]))
            (first | (refine wpE_move rfl rfl rfl ?_; simp only [put_lit, eval_lit, BigFrame.eval_const, List.set_cons_succ, List.set_cons_zero, List.getD_cons_succ, List.getD_cons_zero]) | (refine wpE_run rfl rfl (by simp) (fun w1 hx1 _ K hK => by go_step; exact hK _ (Ext.refl _)) ?_; simp only [put_lit, List.set_cons_succ, List.set_cons_zero]))
            (refine wpE_run rfl rfl (by simp) (fun w1 hx1 _ K hK => by have hc := hx1.cell HQ3.out; go_step; exact hK _ (Ext.refl _)) ?_); simp only [put_lit, List.set_cons_succ, List.set_cons_zero]
            (first | (refine wpE_move rfl rfl rfl ?_; simp only [put_lit, eval_lit, BigFrame.eval_const, List.set_cons_succ, List.set_cons_zero, List.getD_cons_succ, List.getD_cons_zero]) | (refine wpE_run rfl rfl (by simp) (fun w1 hx1 _ K hK => by go_step; exact hK _ (Ext.refl _)) ?_; simp only [put_lit, List.set_cons_succ, List.set_cons_zero]))
            (refine wpE_run rfl rfl (by simp) (fun w1 hx1 _ K hK => by have hc := hx1.cell HC1.out; go_step; exact hK _ (Ext.refl _)) ?_); simp only [put_lit, List.set_cons_succ, List.set_cons_zero]
            (first | (refine wpE_move rfl rfl rfl ?_; simp only [put_lit, eval_lit, BigFrame.eval_const, List.set_cons_succ, List.set_cons_zero, List.getD_cons_succ, List.getD_cons_zero]) | (refine wpE_run rfl rfl (by simp) (fun w1 hx1 _ K hK => by go_step; exact hK _ (Ext.refl _)) ?_; simp only [put_lit, List.set_cons_succ, List.set_cons_zero]))
            (first | (refine wpE_move rfl rfl rfl ?_; simp only [put_lit, eval_lit, BigFrame.eval_const, List.set_cons_succ, List.set_cons_zero, List.getD_cons_succ, List.getD_cons_zero]) | (refine wpE_run rfl rfl (by simp) (fun w1 hx1 _ K hK => by go_step; exact hK _ (Ext.refl _)) ?_; simp only [put_lit, List.set_cons_succ, List.set_cons_zero]))
            (refine wpE_run rfl rfl (by simp) (fun w1 hx1 _ K hK => by have hc := hx1.cell HQ4.out; go_step; exact hK _ (Ext.refl _)) ?_); simp only [put_lit, List.set_cons_succ, List.set_cons_zero]
            (first | (refine wpE_move rfl rfl rfl ?_; simp only [put_lit, eval_lit, BigFrame.eval_const, List.set_cons_succ, List.set_cons_zero, List.getD_cons_succ, List.getD_cons_zero]) | (refine wpE_run rfl rfl (by simp) (fun w1 hx1 _ K hK => by go_step; exact hK _ (Ext.refl _)) ?_; simp only [put_lit, List.set_cons_succ, List.set_cons_zero]))
            rw [u8_xor_nat _ _ l3 l4, HXX.out]
            (first | (refine wpE_move rfl rfl rfl ?_; simp only [put_lit, eval_lit, BigFrame.eval_const, List.set_cons_succ, List.set_cons_zero, List.getD_cons_succ, List.getD_cons_zero]) | (refine wpE_run rfl rfl (by simp) (fun w1 hx1 _ K hK => by go_step; exact hK _ (Ext.refl _)) ?_; simp only [put_lit, List.set_cons_succ, List.set_cons_zero]))
            (refine wpE_nil ?_; intro w2 hw2 hF; simp only [List.drop_succ_cons, List.drop_zero])
            have HW := Lib.hid (HX.out.trans hw2)
            clear hF hw2 HQ1 HQ2 HQ3 HQ4
            have hne2 : (((a3 ^^^ a4 : Nat) : Int) != ((a3 ^^^ a4 : Nat) : Int)) = false := by simp
            go_wp2_with fail
            go_roundw
            case rel => exact ⟨i + 1, by omega, by go_num, HW.out⟩
            case measure => simp [intOf]; omega
        · obtain rfl : i = q := by omega
          have him' : ¬ (i : Int) < (i : Int) := by omega
          go_wp2_with fail
          refine (works34_any _).mono ?_
          rintro e8 w8 ⟨rfl, hx8⟩
          have HX8 := Lib.hid ((HX6.out.trans HX.out).trans hx8)
          clear hx8
          go_wp2_with fail
          go_ret
          exact ⟨rfl, HX8.out⟩
end Go.Proofs.Ytnigpobbckampaa
