/- make of bytes. -/
import Derived.Test.YtnigpobbckampaaS
import Derived.Laws.MakeOwn
namespace Go.Proofs.Ytnigpobbckampaa
set_option linter.unusedSimpArgs false
set_option linter.unusedVariables false
open Go.RowKit

theorem made_row (c : Nat) : madeCells (Value.int .u8 0).cells c = row c fun _ => 0 := by
  rw [← row_zero]
  unfold madeCells
  apply Array.ext
  · simp
  · intro i h1 h2
    simp [Value.cells, Nat.mod_one]

theorem run_makeF (l c : Nat) (h : l ≤ c) (hc : c ≤ 1000000) (w : World) : (Instr.makeSlice 22 (.int .i64 l) (.int .i64 c)).run Try.prog w = .ok (.slice (some ⟨w.heap.size, 0, none⟩) l c) (w.alloc (.cells (row c fun _ => 0) 5)) := by
  obtain ⟨i0, hi, hz0, hz1, hz2⟩ := info_parts info5
  have := run_makeSlice (P := Try.prog) w 22 5 i0 _ Try.underlying22 hi hz0 .i64 .i64 (l : Int) (c : Int) (by omega) (by omega) (by rw [hz1]; simp; omega) (by rw [hz2]; omega) (by omega)
  rw [this, hz1]
  simp only [Int.toNat_natCast, Nat.mul_one, made_row]

section
variable {ops : Array Oper} {rest : List Oper} {o : Oper} {a : Act} {w : World} {Q : Exit → Act → World → Prop} {K : Act → World → Prop}
theorem wp_makeF (x y : Operand) (ho : o.op = .makeSlice 22 x y) (l c : Nat) (hx : a.eval x = .int .i64 l) (hy : a.eval y = .int .i64 c) (h : l ≤ c) (hc : c ≤ 1000000)
    (hK : K (a.put o.dst (.slice (some ⟨w.heap.size, 0, none⟩) l c)) (w.alloc (.cells (row c fun _ => 0) 5))) : o.wp Try.prog a w K Q := by
  have hr := run_makeF l c h hc w
  unfold Oper.wp execOp
  simp only [ho, hx, hy, Sem.run_bind, hr, Result.andThen_ok]
  exact hK
theorem wl_makeF (hgd : o.guard = none) (x y : Operand) (ho : o.op = .makeSlice 22 x y) (l c : Nat) (hx : a.eval x = .int .i64 l) (hy : a.eval y = .int .i64 c) (h : l ≤ c) (hc : c ≤ 1000000)
    (hK : wpList Try.prog ops Q rest (a.put o.dst (.slice (some ⟨w.heap.size, 0, none⟩) l c)) (w.alloc (.cells (row c fun _ => 0) 5))) : wpList Try.prog ops Q (o :: rest) a w :=
  wpList_plain hgd fun _ hK' => wp_makeF x y ho l c hx hy h hc (hK' _ _ hK)
end

end Go.Proofs.Ytnigpobbckampaa
