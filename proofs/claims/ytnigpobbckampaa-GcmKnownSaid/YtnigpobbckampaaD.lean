/- slices.Chunk: what it hands back, and the walk of that. -/
import Derived.Test.YtnigpobbckampaaK
import Derived.Test.YtnigpobbckampaaL
namespace Go.Proofs.Ytnigpobbckampaa
set_option linter.unusedSimpArgs false
set_option linter.unusedVariables false
open Go.RowKit Go.Shelf

attribute [local go_sem] Oper.semAt_some

set_option maxHeartbeats 400000 in
theorem chunk_any (ao : Option Addr) (len cap : Nat) (w : World) :
    Calls Try.prog 50 #[.slice ao len cap, .int .i64 16] w fun e w' => e = .returned (.func (.func 69) #[] #[.pointer (some ⟨w.heap.size, 0, none⟩), .pointer (some ⟨w.heap.size + 1, 0, none⟩)]) ∧
      w' = (w.alloc (.cells #[.slice ao len cap] 22)).alloc (.cells #[.int .i64 16] 3) := by
  go_enter Try.func50, Try.ntmps50
  go_wp2
  go_ret
  exact ⟨rfl, rfl⟩

/-- The k-th part of 16 bytes. -/
def partV (g off len k : Nat) : Value := .slice (some ⟨g, off + 16 * k, none⟩) (min 16 (len - 16 * k)) (min 16 (len - 16 * k))

set_option maxRecDepth 100000 in
set_option maxHeartbeats 1000000 in
theorem chunk_walk (n l : Nat) (ao : Option Addr) (g off len cap Bs Bn : Nat) (hlen : len ≤ 1000000) (hcap : len ≤ cap) (ha : 0 < len → ao = some ⟨g, off, none⟩) (Kp : World → World → Prop)
    (hKp : ∀ W W' v B, Kp W W' → (B = Bs ∨ B = Bn) → W.cell? ⟨B, 0, none⟩ = some v → W'.cell? ⟨B, 0, none⟩ = some v) (J : Nat → World → Prop) (W : World) (hJ : OwnFrom W.heap.size J)
    (hY : ∀ m k W1, k < (len + 15) / 16 → J k W1 → YieldAt Fence.wide m Try.prog l #[partV g off len k] W1 fun e W' => e = .returned (.bool true) ∧ J (k + 1) W' ∧ KeepsOthers W1 W' ∧ Kp W1 W')
    (h0 : J 0 W) (hBs : W.cell? ⟨Bs, 0, none⟩ = some (.slice ao len cap)) (hBn : W.cell? ⟨Bn, 0, none⟩ = some (.int .i64 16)) :
    CallsIn Fence.wide n Try.prog 69 #[.func (.yield l) #[] #[], .pointer (some ⟨Bs, 0, none⟩), .pointer (some ⟨Bn, 0, none⟩)] W fun e W' => (∃ v, e = .returned v) ∧ J ((len + 15) / 16) W' := by
  have HJ := Lib.hid hJ
  have HK := Lib.hid hKp
  have HY := Lib.hid hY
  clear hJ hKp hY
  refine callsIn_of_wp Try.func69 rfl trivial ?_ rfl
  simp only [Try.ntmps69, List.size_toArray, List.length_cons, List.length_nil, Nat.reduceAdd, Nat.reduceSub, Array.replicate_succ, Array.replicate_zero, List.push_toArray, List.append_toArray, List.nil_append, List.cons_append]
  gi_wp2
  gi_loopw [4] (fun i wr => ∃ k : Nat, k ≤ (len + 15) / 16 ∧ i = .int .i64 ((16 * k : Nat) : Int) ∧ J k wr ∧ wr.cell? ⟨Bs, 0, none⟩ = some (.slice ao len cap) ∧ wr.cell? ⟨Bn, 0, none⟩ = some (.int .i64 16))
    (fun i _ => len + 16 - (intOf i).toNat)
  case atStart => exact ⟨0, Nat.zero_le _, rfl, h0, hBs, hBn⟩
  case round =>
    obtain ⟨k, hk, rfl, hj, hbs, hbn⟩ := hrel
    by_cases hlt : 16 * k < len
    · have hlt' : ((16 * k : Nat) : Int) < (len : Int) := by omega
      obtain rfl := ha (by omega)
      gi_wp2_with fail
      refine wpIn_wide.2 ?_
      apply wp_region_mid 6 [.det _, .det _, .det _, .det _, .det _, .det _] (by kernel_rfl) rfl (by kernel_rfl)
      · (refine wpE_run rfl rfl (by simp) (fun w1 hx1 _ K hK => by have hc := hx1.cell hbn; go_step; exact hK _ (Ext.refl _)) ?_); simp only [put_lit, List.set_cons_succ, List.set_cons_zero]
        (refine wpE_run rfl rfl (by simp) (fun w1 hx1 _ K hK => by have hc := hx1.cell hbs; go_step; exact hK _ (Ext.refl _)) ?_); simp only [put_lit, List.set_cons_succ, List.set_cons_zero]
        (first | (refine wpE_move rfl rfl rfl ?_; simp only [put_lit, eval_lit, BigFrame.eval_const, List.set_cons_succ, List.set_cons_zero, List.getD_cons_succ, List.getD_cons_zero]) | (refine wpE_run rfl rfl (by simp) (fun w1 hx1 _ K hK => by go_step; exact hK _ (Ext.refl _)) ?_; simp only [put_lit, List.set_cons_succ, List.set_cons_zero]))
        (first | (refine wpE_move rfl rfl rfl ?_; simp only [put_lit, eval_lit, BigFrame.eval_const, List.set_cons_succ, List.set_cons_zero, List.getD_cons_succ, List.getD_cons_zero]) | (refine wpE_run rfl rfl (by simp) (fun w1 hx1 _ K hK => by go_step; exact hK _ (Ext.refl _)) ?_; simp only [put_lit, List.set_cons_succ, List.set_cons_zero]))
        (first | (refine wpE_move rfl rfl rfl ?_; simp only [put_lit, eval_lit, BigFrame.eval_const, List.set_cons_succ, List.set_cons_zero, List.getD_cons_succ, List.getD_cons_zero]) | (refine wpE_run rfl rfl (by simp) (fun w1 hx1 _ K hK => by go_step; exact hK _ (Ext.refl _)) ?_; simp only [put_lit, List.set_cons_succ, List.set_cons_zero]))
        (first | (refine wpE_move rfl rfl rfl ?_; simp only [put_lit, eval_lit, BigFrame.eval_const, List.set_cons_succ, List.set_cons_zero, List.getD_cons_succ, List.getD_cons_zero]) | (refine wpE_run rfl rfl (by simp) (fun w1 hx1 _ K hK => by go_step; exact hK _ (Ext.refl _)) ?_; simp only [put_lit, List.set_cons_succ, List.set_cons_zero]))
        (refine wpE_nil ?_; intro w2 hw2 hF; simp only [List.drop_succ_cons, List.drop_zero])
        have hj2 : J k w2 := HJ.out k wr w2 none hj (grown_of_ext hw2) (fun r e => by cases e)
        have hbs2 := hw2.cell hbs
        have hbn2 := hw2.cell hbn
        have hr : (if ((len - 16 * k : Nat) : Int) < 16 then ((len - 16 * k : Nat) : Int) else 16) = ((min 16 (len - 16 * k) : Nat) : Int) := by
          split <;> omega
        rw [hr]
        obtain ⟨fn, tmps, assign, body, hy, hR⟩ := HY.out (n - 1) k w2 (by omega) hj2
        unfold partV at hy
        clear hF hw2 hbs hbn hj hr
        generalize hmr : min 16 (len - 16 * k) = r at hy ⊢
        have hr1 : r ≤ 16 := by omega
        have hr2 : 16 * k + r ≤ len := by omega
        go_wp2_with fail
        gi_wp2_with fail
        refine ⟨fun h => (by simp [Fence.wide] at h), hR.mono ?_⟩
        rintro e W3 ⟨rfl, hJ3, _, hk3⟩
        have hbs3 := HK.out _ _ _ _ hk3 (.inl rfl) hbs2
        have hbn3 := HK.out _ _ _ _ hk3 (.inr rfl) hbn2
        clear hbs2 hbn2
        gi_wp2_with fail
        go_roundw
        case rel => exact ⟨k + 1, by omega, by go_num, hJ3, hbs3, hbn3⟩
        case measure => simp [intOf]; omega
    · have hlt' : ¬ ((16 * k : Nat) : Int) < (len : Int) := by omega
      obtain rfl : k = (len + 15) / 16 := by omega
      gi_wp2_with fail
      go_end0
      exact ⟨⟨_, rfl⟩, hj⟩

theorem chunk_iter (ao : Option Addr) (g off len cap Bs Bn : Nat) (hlen : len ≤ 1000000) (hcap : len ≤ cap) (ha : 0 < len → ao = some ⟨g, off, none⟩) (Kp : World → World → Prop)
    (hKp : ∀ W W' v B, Kp W W' → (B = Bs ∨ B = Bn) → W.cell? ⟨B, 0, none⟩ = some v → W'.cell? ⟨B, 0, none⟩ = some v) (w : World)
    (hBs : w.cell? ⟨Bs, 0, none⟩ = some (.slice ao len cap)) (hBn : w.cell? ⟨Bn, 0, none⟩ = some (.int .i64 16)) :
    Iter Try.prog 69 #[.pointer (some ⟨Bs, 0, none⟩), .pointer (some ⟨Bn, 0, none⟩)] (fun k => #[partV g off len k]) Kp ((len + 15) / 16) w := by
  intro n l J W hW hJ hY h0
  have hx : Ext w W := hW
  exact chunk_walk n l ao g off len cap Bs Bn hlen hcap ha Kp hKp J W hJ hY h0 (hx.cell hBs) (hx.cell hBn)

end Go.Proofs.Ytnigpobbckampaa
