/- make of bytes in a drawn region: a new block, wherever it comes to lie. -/
import Derived.Test.YtnigpobbckampaaU
import Derived.Test.YtnigpobbckampaaR1
namespace Go.Proofs.Ytnigpobbckampaa
open Go.RowKit
set_option linter.unusedVariables false
set_option linter.unusedSimpArgs false

theorem make_new (x y v : Value) (w w' : World) (h : (Instr.makeSlice 22 x y).run Try.prog w = .ok v w') : New v w w' := by
  obtain ⟨i0, hi, hz0, hz1, hz2⟩ := info_parts info5
  have hx : ∃ k n, x = .int k n := by
    cases x with
    | int k n => exact ⟨k, n, rfl⟩
    | pointer a => cases a <;> simp [Instr.makeSlice, run_underlying Try.underlying22, asInt, asIntOf, stuck, unsupported] at h
    | _ => simp [Instr.makeSlice, run_underlying Try.underlying22, asInt, asIntOf, stuck, unsupported] at h
  obtain ⟨k, n, rfl⟩ := hx
  have hy : ∃ k n, y = .int k n := by
    cases y with
    | int k n => exact ⟨k, n, rfl⟩
    | pointer a => cases a <;> simp [Instr.makeSlice, run_underlying Try.underlying22, asInt, asIntOf, stuck, unsupported] at h
    | _ => simp [Instr.makeSlice, run_underlying Try.underlying22, asInt, asIntOf, stuck, unsupported] at h
  obtain ⟨k', n', rfl⟩ := hy
  simp only [Instr.makeSlice, Sem.run_bind, run_underlying Try.underlying22, asInt, asIntOf, Sem.run_pure, Result.andThen_ok, typeInfo, run_program, hi] at h
  have pan : ∀ (e : String) (W : World), ∃ q W', (runtimePanic (.error e) : Sem PUnit).run Try.prog W = .halt q W' := by
    intro e W
    simp [runtimePanic, goPanic, run_program, Sem.run_bind]
  split at h
  · exfalso
    split at h
    · obtain ⟨q, W', e⟩ := pan "makeslice: cap out of range" w
      simp [Sem.run_bind, e] at h
    · split at h
      · obtain ⟨q, W', e⟩ := pan "makeslice: len out of range" w
        simp [Sem.run_bind, e] at h
      · simp only [Sem.run_bind] at h
        cases hc : (choose (.extern "makeslice.lenOrCap" 2)).run Try.prog w with
        | halt q W => rw [hc] at h; cases h
        | ok c W =>
          simp only [hc, Result.andThen_ok] at h
          split at h
          · obtain ⟨q, W', e⟩ := pan "makeslice: cap out of range" W
            simp [Sem.run_bind, e] at h
          · obtain ⟨q, W', e⟩ := pan "makeslice: len out of range" W
            simp [Sem.run_bind, e] at h
  · by_cases hn : (IntKind.i64.wrap n').toNat * i0.size = 0
    · simp [Sem.run_bind, sizeOf, typeInfo, run_program, hi, zeroValue, hz0, newRow, hn] at h
      obtain ⟨rfl, rfl⟩ := h
      exact ⟨_, rfl, Nat.le_refl _, by simp⟩
    · simp [Sem.run_bind, sizeOf, typeInfo, run_program, hi, zeroValue, hz0, newRow, hn] at h
      obtain ⟨rfl, rfl⟩ := h
      exact ⟨_, rfl, Nat.le_refl _, by simp⟩

/-- A slice of n bytes 0, new in the region. -/
def FreshM (w0 : World) (n : Nat) (v : Value) (w : World) : Prop := ∃ g, v = .slice (some ⟨g, 0, none⟩) n n ∧ w0.heap.size ≤ g ∧ Blk w g 5 (row n fun _ => 0)
theorem FreshM.mono {w0 : World} {n : Nat} {v : Value} {w w' : World} (hx : Ext w w') (h : FreshM w0 n v w) : FreshM w0 n v w' := by
  obtain ⟨g, hv, hg, hb⟩ := h
  exact ⟨g, hv, hg, hb.ext hx⟩
theorem newOp_make {o : Oper} {x y : Operand} (ho : o.op = .makeSlice 22 x y) : NewOp Try.prog o := by
  intro a w R h
  unfold runs at h ⊢
  have e : (execOp a.eval o).run Try.prog w = ((Instr.makeSlice 22 (a.eval x) (a.eval y)).run Try.prog w).andThen fun v => (pure (.value v) : Sem Next).run Try.prog := by
    unfold execOp
    simp only [ho, Sem.run_bind]
  rw [e] at h ⊢
  cases hr : (Instr.makeSlice 22 (a.eval x) (a.eval y)).run Try.prog w with
  | ok v w' =>
    rw [hr] at h
    exact ⟨h, make_new _ _ _ _ _ hr⟩
  | halt q w' =>
    rw [hr] at h
    cases h
theorem wpE_make {ops : Array Oper} {w0 : World} {T : Act → List (Tmp × (World → Prop)) → Prop} {o : Oper} {l : List Oper} {es : List Ent} {a : Act} {F : List (Tmp × (World → Prop))}
    (hw : Region.wanted o (yielded ops a.tmps) = true) (x y : Operand) (ho : o.op = .makeSlice 22 x y) (n : Nat) (hx : a.eval x = .int .i64 n) (hy : a.eval y = .int .i64 n) (hn : n ≤ 1000000) {d : Tmp} (hd : o.dst = some d) (hs : d < a.tmps.size)
    (h : ∀ u, wpE Try.prog ops w0 T l es (a.put o.dst u) ((d, FreshM w0 n u) :: F)) : wpE Try.prog ops w0 T (o :: l) (.any (FreshM w0 n) :: es) a F :=
  wpE_any hw (fun _ _ _ hx h => h.mono hx) hd hs (fun w hx' _ K hK => wp_makeF x y ho n n hx hy (Nat.le_refl _) hn (hK _ _ (Ext.alloc w _) ⟨_, rfl, hx'.size, Blk.new _ _ _⟩)) h
end Go.Proofs.Ytnigpobbckampaa
