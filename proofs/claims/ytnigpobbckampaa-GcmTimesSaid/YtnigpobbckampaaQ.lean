/- The comparison of two arrays of bytes. -/
import Derived.Test.YtnigpobbckampaaR
import Derived.Test.YtnigpobbckampaaL
import Derived.ChangeKeysEq
import Derived.Laws.Small
namespace Go.Proofs.Ytnigpobbckampaa
set_option linter.unusedSimpArgs false
set_option linter.unusedVariables false
open Go.RowKit

def eqN (n : Nat) (f g : Nat → Nat) : Bool := (List.range n).all fun i => f i == g i
theorem eqN_iff {n : Nat} {f g : Nat → Nat} : eqN n f g = true ↔ ∀ i, i < n → f i = g i := by
  unfold eqN
  rw [List.all_eq_true]
  exact ⟨fun h i hi => by simpa using h i (List.mem_range.2 hi), fun h i hi => by simpa using h i (List.mem_range.1 hi)⟩
theorem eqN_refl (n : Nat) (f : Nat → Nat) : eqN n f f = true := eqN_iff.2 fun _ _ => rfl
theorem eqN_false {n : Nat} {f g : Nat → Nat} : eqN n f g = false ↔ ¬ ∀ i, i < n → f i = g i := by
  rw [← eqN_iff]; simp

theorem plain5 : Try.prog.plainKey 5 = true := by kernel_rfl
theorem cells5 : Try.prog.cellsOf 5 = 1 := by kernel_rfl

theorem run_items (d n : Nat) (f g : Nat → Nat) (w : World) : ∀ (is : List Nat), (∀ i ∈ is, i < n) →
    (Op.eqItems (d + 1) 5 1 (row n f) (row n g) is).run Try.prog w = .ok (is.all fun i => f i == g i) w := by
  intro is
  induction is with
  | nil => intro _; simp [Op.eqItems]
  | cons i is ih =>
    intro h
    have hi := h i (List.mem_cons_self ..)
    have h1 := run_part_plain (P := Try.prog) w plain5 (xs := row n f) (off := i * 1) (by rw [Nat.mul_one]; exact row_get n f i hi)
    have h2 := run_part_plain (P := Try.prog) w plain5 (xs := row n g) (off := i * 1) (by rw [Nat.mul_one]; exact row_get n g i hi)
    have h3 := run_equalIn_int (P := Try.prog) w d 5 .u8 .u8 ((f i : Nat) : Int) ((g i : Nat) : Int) Try.underlying5
    simp only [Op.eqItems, Sem.run_bind, h1, h2, h3, Result.andThen_ok]
    have hb : ((((f i : Nat) : Int)) == ((g i : Nat) : Int)) = (f i == g i) := by
      by_cases he : f i = g i
      · simp [he]
      · have : ¬ ((f i : Nat) : Int) = ((g i : Nat) : Int) := by omega
        rw [beq_eq_false_iff_ne.2 this, beq_eq_false_iff_ne.2 he]
    rw [hb]
    cases he : f i == g i
    · simp only [Bool.not_false, if_true, Sem.run_pure, List.all_cons, he, Bool.false_and]
    · simp only [Bool.not_true, Bool.false_eq_true, if_false, List.all_cons, he, Bool.true_and]
      exact ih fun j hj => h j (List.mem_cons_of_mem _ hj)

theorem run_eqA (n t : Nat) (hu : Try.prog.underlying t = some (.array n 5)) (f g : Nat → Nat) (w : World) : (Op.equalIn 10000 t (.agg (row n f)) (.agg (row n g))).run Try.prog w = .ok (eqN n f g) w := by
  obtain ⟨i, hi, _⟩ : ∃ i, Try.prog.info? 5 = some i ∧ True := by
    cases h : Try.prog.info? 5 with
    | none =>
      have : (Try.prog.info? 5).isSome = true := by kernel_rfl
      rw [h] at this
      cases this
    | some i => exact ⟨i, rfl, trivial⟩
  rw [show (10000 : Nat) = 9999 + 1 from rfl, run_equalIn_array w 9999 _ _ hu hi, cells5]
  exact run_items 9998 n f g w _ fun i hi => List.mem_range.1 hi

section
variable {ops : Array Oper} {w0 : World} {T : Act → List (Tmp × (World → Prop)) → Prop} {o : Oper} {l : List Oper} {es : List Ent} {a : Act} {F : List (Tmp × (World → Prop))} {rest : List Oper} {w : World} {Q : Exit → Act → World → Prop}

theorem run_eql23 (x y : Operand) (ho : o.op = .binOp .eql 23 x y 23) (f g : Nat → Nat) (hx : a.eval x = .agg (row 16 f)) (hy : a.eval y = .agg (row 16 g)) (w : World) : (execOp a.eval o).run Try.prog w = .ok (.value (.bool (eqN 16 f g))) w := by
  have hg : Try.prog.eqGuardType Try.prog.depth 23 = false := by kernel_rfl
  have h := run_eqA 16 23 Try.underlying23 f g w
  unfold execOp
  rw [ho]
  simp [hx, hy, run_eqGuard_agg w .eql 23 x y _ _ hg, run_eql_struct w 23 (row 16 f) (row 16 g), h]

theorem wpE_eql23 (hw : Region.wanted o (yielded ops a.tmps) = true) (x y : Operand) (ho : o.op = .binOp .eql 23 x y 23) (f g : Nat → Nat) (hx : a.eval x = .agg (row 16 f)) (hy : a.eval y = .agg (row 16 g))
    (h : wpE Try.prog ops w0 T l es (a.put o.dst (.bool (eqN 16 f g))) F) : wpE Try.prog ops w0 T (o :: l) (.det (.bool (eqN 16 f g)) :: es) a F :=
  wpE_val hw (fun w _ _ => run_eql23 x y ho f g hx hy w) h

theorem wl_eql23 (hgd : o.guard = none) (x y : Operand) (ho : o.op = .binOp .eql 23 x y 23) (f g : Nat → Nat) (hx : a.eval x = .agg (row 16 f)) (hy : a.eval y = .agg (row 16 g))
    (h : wpList Try.prog ops Q rest (a.put o.dst (.bool (eqN 16 f g))) w) : wpList Try.prog ops Q (o :: rest) a w :=
  wpList_plain hgd fun _ hK => by
    have h1 := hK _ _ h
    unfold Oper.wp
    rw [run_eql23 x y ho f g hx hy w]
    exact h1
end

end Go.Proofs.Ytnigpobbckampaa
