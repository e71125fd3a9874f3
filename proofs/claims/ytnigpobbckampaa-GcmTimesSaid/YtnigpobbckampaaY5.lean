/- copy of bytes; cells that are kept. -/
import Derived.Test.YtnigpobbckampaaS
import Derived.Laws.CopyOwn
namespace Go.Proofs.Ytnigpobbckampaa
open Go.RowKit
set_option linter.unusedSimpArgs false
set_option linter.unusedVariables false

theorem goInt_nat (m : Nat) : goInt m = .int .i64 (m : Int) := rfl
theorem copy_row (n m : Nat) (f F0 : Nat → Nat) (h : m ≤ n) : ((row n F0).toList.take 0 ++ bs m f ++ (row n F0).toList.drop (0 + (bs m f).length)).toArray = row n (mixF m f F0) := by
  refine row_ext ?_ (fun j hj => ?_)
  · simp [bs_length, row_size]
    omega
  · rw [List.getElem?_toArray, List.take_zero, List.nil_append, List.getElem?_append, bs_length]
    by_cases hjm : j < m
    · rw [if_pos hjm, bs_get _ _ _ hjm]
      simp [mixF, hjm]
    · rw [if_neg hjm, List.getElem?_drop, Nat.zero_add, show m + (j - m) = j by omega, Array.getElem?_toList, row_get _ _ _ hj]
      simp [mixF, hjm]
section
variable {ops : Array Oper} {rest : List Oper} {o : Oper} {a : Act} {w : World} {Q : Exit → Act → World → Prop} {K : Act → World → Prop}
theorem wp_copyF (d s : Operand) (ho : o.op = .call { callee := .builtin .copy, args := #[d, s], argTypes := #[22, 22] }) (g n dCap : Nat) (X : Value) (m : Nat) (f F0 : Nat → Nat) (t : TypeId)
    (hd : a.eval d = .slice (some ⟨g, 0, none⟩) n dCap) (hs : a.eval s = X) (hX : RdF w X m f) (hm : 0 < m) (hmn : m ≤ n) (hB : Blk w g t (row n F0))
    (hK : K (a.put o.dst (.int .i64 (m : Int))) (w.setRow g (row n (mixF m f F0)))) : o.wp Try.prog a w K Q := by
  obtain ⟨gs, os, cs, rfl, hcs, hcell⟩ := hX.form hm
  have hrun := run_copy_row (P := Try.prog) w 22 22 o.type 5 g 0 n dCap ⟨gs, os, none⟩ m cs (row n F0) t (bs m f) Try.underlying22 (by kernel_rfl) hB (by rw [bs_length]; exact (Nat.min_eq_left hmn).symm)
    (fun j u hj => by
      obtain ⟨hjm, rfl⟩ := bs_inv hj
      rw [Addr.add_lit]
      exact (hcell j hjm).2) (by rw [bs_length, row_size]; omega) (bs_one _ _)
  rw [copy_row n m f F0 hmn, bs_length] at hrun
  unfold Oper.wp
  simp [execOp, ho, resolve, invoke, builtin, hd, hs, hrun, Result.andThen]
  exact hK
theorem wl_copyF (hgd : o.guard = none) (d s : Operand) (ho : o.op = .call { callee := .builtin .copy, args := #[d, s], argTypes := #[22, 22] }) (g n dCap : Nat) (X : Value) (m : Nat) (f F0 : Nat → Nat) (t : TypeId)
    (hd : a.eval d = .slice (some ⟨g, 0, none⟩) n dCap) (hs : a.eval s = X) (hX : RdF w X m f) (hm : 0 < m) (hmn : m ≤ n) (hB : Blk w g t (row n F0))
    (hK : wpList Try.prog ops Q rest (a.put o.dst (.int .i64 (m : Int))) (w.setRow g (row n (mixF m f F0)))) : wpList Try.prog ops Q (o :: rest) a w :=
  wpList_plain hgd fun _ hK' => wp_copyF d s ho g n dCap X m f F0 t hd hs hX hm hmn hB (hK' _ _ hK)
end
theorem cells_of_cell {W : World} {B o : Nat} {v : Value} (h : W.cell? ⟨B, o, none⟩ = some v) : ∃ cs t f, W.heap[B]? = some (.cells cs t f) := by
  unfold World.cell? at h
  cases hb : W.heap[B]? with
  | none => simp [hb] at h
  | some x =>
    cases x with
    | cells cs t f => exact ⟨cs, t, f, rfl⟩
    | _ => simp [hb] at h
end Go.Proofs.Ytnigpobbckampaa
