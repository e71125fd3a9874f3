/- Laws of single operations at arrays that are held as rows of cells: alloc, load, store, field, index. -/
import Derived.Test.YtnigpobbckampaaK
namespace Go.Proofs.Ytnigpobbckampaa
set_option linter.unusedSimpArgs false
set_option linter.unusedVariables false
open Go.RowKit

/-- cs with vs laid in from place off on. -/
def lay (cs : Array Value) (off : Nat) (vs : Array Value) : Array Value := (cs.toList.take off ++ vs.toList ++ cs.toList.drop (off + vs.size)).toArray
theorem lay_all (cs vs : Array Value) (h : vs.size = cs.size) : lay cs 0 vs = vs := by
  simp [lay, h, ← Array.length_toList]
theorem lay_size (cs : Array Value) (off : Nat) (vs : Array Value) (h : off + vs.size ≤ cs.size) : (lay cs off vs).size = cs.size := by
  simp [lay]; omega
theorem lay_get (cs : Array Value) (off : Nat) (vs : Array Value) (h : off + vs.size ≤ cs.size) (j : Nat) : (lay cs off vs)[j]? = if j < off then cs[j]? else if j < off + vs.size then vs[j - off]? else cs[j]? := by
  unfold lay
  rw [List.getElem?_toArray, List.append_assoc, List.getElem?_append]
  have hl : (cs.toList.take off).length = off := by simp; omega
  rw [hl]
  split
  · rename_i h1; simp [h1]
  · rename_i h1
    rw [List.getElem?_append]
    simp only [Array.length_toList]
    by_cases h2 : j - off < vs.size
    · rw [if_pos h2, if_pos (by omega)]; simp
    · rw [if_neg h2, if_neg (by omega), List.getElem?_drop]
      simp; congr 1; omega

theorem row_one (n : Nat) (f : Nat → Nat) : ∀ v ∈ (row n f).toList, v.oneCell' = true := by
  intro v hv
  simp [row] at hv
  obtain ⟨i, _, rfl⟩ := hv
  rfl

section
variable {P : Program}

theorem run_load_part (w : World) (ty g off n : Nat) (t : TypeId) (cs : Array Value) (hagg : (isAgg ty).run P w = .ok true w) (hsz : (sizeOf ty).run P w = .ok n w)
    (hb : Blk w g t cs) (hfit : off + n ≤ cs.size) : (loadVar ty ⟨g, off, none⟩).run P w = .ok (.agg (cs.extract off (off + n))) w := by
  have hl : (loadCells ⟨g, off, none⟩ (cs.extract off (off + n)).toList.length).run P w = .ok (cs.extract off (off + n)).toList.toArray w :=
    run_loadCells_list (P := P) w ⟨g, off, none⟩ _ (fun j v hv => by
      have hadd : (⟨g, off, none⟩ : Addr).add j = ⟨g, off + j, none⟩ := by unfold Addr.add; split <;> simp_all
      rw [hadd, hb.cell]
      simp only [Array.getElem?_toList, Array.getElem?_extract] at hv
      split at hv
      · exact hv
      · cases hv)
  have hlen : (cs.extract off (off + n)).toList.length = n := by simp; omega
  rw [hlen] at hl
  simp only [Array.toArray_toList] at hl
  simp [loadVar, Sem.run_bind, hagg, hsz, hl]

theorem run_store_part (w : World) (ty g off n : Nat) (t : TypeId) (cs vs : Array Value) (hsz : (sizeOf ty).run P w = .ok n w) (hn : vs.size = n)
    (hb : Blk w g t cs) (hfit : off + n ≤ cs.size) (h1 : ∀ v ∈ vs.toList, v.oneCell' = true) : (storeVar ty ⟨g, off, none⟩ (.agg vs)).run P w = .ok () (w.setRow g (lay cs off vs)) := by
  have hst := run_storeCells_at P g off t vs.toList 0 cs w hb (by simp; omega) h1
  simp only [Nat.add_zero, Array.length_toList] at hst
  simp [storeVar, Value.cells, Sem.run_bind, hsz, hn, hst, lay]

variable {ops : Array Oper} {rest : List Oper} {o : Oper} {a : Act} {w : World} {Q : Exit → Act → World → Prop} {K : Act → World → Prop}

theorem wp_loadA (ty : TypeId) (x : Operand) (ho : o.op = .load ty x) (g off n : Nat) (hx : a.eval x = .pointer (some ⟨g, off, none⟩))
    (hagg : ∀ w, (isAgg ty).run P w = .ok true w) (hsz : ∀ w, (sizeOf ty).run P w = .ok n w) (t : TypeId) (cs : Array Value) (hb : Blk w g t cs) (hfit : off + n ≤ cs.size)
    (vs : Array Value) (hv : cs.extract off (off + n) = vs) (h : K (a.put o.dst (.agg vs)) w) : o.wp P a w K Q := by
  subst hv
  unfold Oper.wp execOp
  simp only [ho, hx, Instr.loadAt, Instr.sureAddr, Sem.run_bind, Sem.run_pure, Result.andThen_ok, run_load_part w ty g off n t cs (hagg w) (hsz w) hb hfit]
  exact h

/-- A load of a whole array, or of a part of a row. -/
theorem wl_loadA (hgd : o.guard = none) (ty : TypeId) (x : Operand) (ho : o.op = .load ty x) (g off n : Nat) (hx : a.eval x = .pointer (some ⟨g, off, none⟩))
    (hagg : ∀ w, (isAgg ty).run P w = .ok true w) (hsz : ∀ w, (sizeOf ty).run P w = .ok n w) (t : TypeId) (cs : Array Value) (hb : Blk w g t cs) (hfit : off + n ≤ cs.size)
    (vs : Array Value) (hv : cs.extract off (off + n) = vs) (h : wpList P ops Q rest (a.put o.dst (.agg vs)) w) : wpList P ops Q (o :: rest) a w :=
  wpList_plain hgd fun _ hK => wp_loadA ty x ho g off n hx hagg hsz t cs hb hfit vs hv (hK _ _ h)

theorem wp_storeA (ty : TypeId) (x y : Operand) (ho : o.op = .store ty x y) (g off n : Nat) (hx : a.eval x = .pointer (some ⟨g, off, none⟩)) (vs : Array Value) (hy : a.eval y = .agg vs)
    (hsz : ∀ w, (sizeOf ty).run P w = .ok n w) (hn : vs.size = n) (t : TypeId) (cs : Array Value) (hb : Blk w g t cs) (hfit : off + n ≤ cs.size) (h1 : ∀ v ∈ vs.toList, v.oneCell' = true)
    (cs' : Array Value) (hc : lay cs off vs = cs') (h : K (a.put o.dst undef) (w.setRow g cs')) : o.wp P a w K Q := by
  subst hc
  unfold Oper.wp execOp
  simp only [ho, hx, hy, Instr.storeAt, Instr.sureAddr, Sem.run_bind, Sem.run_pure, Result.andThen_ok, run_store_part w ty g off n t cs vs (hsz w) hn hb hfit h1]
  exact h

/-- A store of a whole array into a row. -/
theorem wl_storeA (hgd : o.guard = none) (ty : TypeId) (x y : Operand) (ho : o.op = .store ty x y) (g off n : Nat) (hx : a.eval x = .pointer (some ⟨g, off, none⟩)) (vs : Array Value) (hy : a.eval y = .agg vs)
    (hsz : ∀ w, (sizeOf ty).run P w = .ok n w) (hn : vs.size = n) (t : TypeId) (cs : Array Value) (hb : Blk w g t cs) (hfit : off + n ≤ cs.size) (h1 : ∀ v ∈ vs.toList, v.oneCell' = true)
    (cs' : Array Value) (hc : lay cs off vs = cs') (h : wpList P ops Q rest (a.put o.dst undef) (w.setRow g cs')) : wpList P ops Q (o :: rest) a w :=
  wpList_plain hgd fun _ hK => wp_storeA ty x y ho g off n hx vs hy hsz hn t cs hb hfit h1 cs' hc (hK _ _ h)

theorem wp_allocA (ty : TypeId) (ho : o.op = .alloc ty) (vs : Array Value) (hz : ∀ w, (zeroValue ty).run P w = .ok (.agg vs) w)
    (h : K (a.put o.dst (.pointer (some ⟨w.heap.size, 0, none⟩))) (w.alloc (.cells vs ty))) : o.wp P a w K Q := by
  unfold Oper.wp execOp
  simp only [ho, Instr.alloc, Sem.run_bind, hz w, Result.andThen_ok, newVar, newRow, Value.cells, newObj]
  exact h

/-- 'var x [n]T': a row of zeros. -/
theorem wl_allocA (hgd : o.guard = none) (ty : TypeId) (ho : o.op = .alloc ty) (vs : Array Value) (hz : ∀ w, (zeroValue ty).run P w = .ok (.agg vs) w)
    (h : wpList P ops Q rest (a.put o.dst (.pointer (some ⟨w.heap.size, 0, none⟩))) (w.alloc (.cells vs ty))) : wpList P ops Q (o :: rest) a w :=
  wpList_plain hgd fun _ hK => wp_allocA ty ho vs hz (hK _ _ h)

theorem wp_boxA (ty : TypeId) (x : Operand) (ho : o.op = .box ty x) (vs : Array Value) (hx : a.eval x = .agg vs)
    (h : K (a.put o.dst (.pointer (some ⟨w.heap.size, 0, none⟩))) (w.alloc (.cells vs ty))) : o.wp P a w K Q := by
  unfold Oper.wp execOp
  simp only [ho, hx, Instr.box, Sem.run_bind, newVar, newRow, Value.cells, newObj]
  exact h
theorem wl_boxA (hgd : o.guard = none) (ty : TypeId) (x : Operand) (ho : o.op = .box ty x) (vs : Array Value) (hx : a.eval x = .agg vs)
    (h : wpList P ops Q rest (a.put o.dst (.pointer (some ⟨w.heap.size, 0, none⟩))) (w.alloc (.cells vs ty))) : wpList P ops Q (o :: rest) a w :=
  wpList_plain hgd fun _ hK => wp_boxA ty x ho vs hx (hK _ _ h)

theorem run_index_row (ty elem len : Nat) (hu : P.underlying ty = some (.array len elem)) (hna : ∀ w, (isAgg elem).run P w = .ok false w) (hsz : ∀ w, (sizeOf elem).run P w = .ok 1 w)
    (cs : Array Value) (k : IntKind) (i : Nat) (hi : i < len) (v : Value) (hv : cs[i]? = some v) (w : World) : (Instr.index ty (.agg cs) (.int k i)).run P w = .ok v w := by
  unfold Instr.index
  have h1 : ¬ ((i : Int) < 0) := by omega
  simp [asIntOf, Sem.run_bind, run_underlying hu, hi, hsz, part, hna, hv]

theorem wl_indexA (hgd : o.guard = none) (ty : TypeId) (x y : Operand) (ho : o.op = .index ty x y) (elem len : Nat) (hu : P.underlying ty = some (.array len elem)) (hna : ∀ w, (isAgg elem).run P w = .ok false w) (hsz : ∀ w, (sizeOf elem).run P w = .ok 1 w)
    (cs : Array Value) (hx : a.eval x = .agg cs) (k : IntKind) (i : Nat) (hy : a.eval y = .int k i) (hi : i < len) (v : Value) (hv : cs[i]? = some v)
    (h : wpList P ops Q rest (a.put o.dst v) w) : wpList P ops Q (o :: rest) a w :=
  wpList_plain hgd fun _ hK => by
    unfold Oper.wp execOp
    simp only [ho, hx, hy, Sem.run_bind, run_index_row ty elem len hu hna hsz cs k i hi v hv]
    exact hK _ _ h

theorem wl_fieldR (hgd : o.guard = none) (ty : TypeId) (x : Operand) (f : Nat) (ho : o.op = .field ty x f) (X : Value) (hx : a.eval x = X) (v : Value) (hr : (Instr.field ty X f).run P w = .ok v w)
    (h : wpList P ops Q rest (a.put o.dst v) w) : wpList P ops Q (o :: rest) a w :=
  wpList_plain hgd fun _ hK => by
    unfold Oper.wp execOp
    simp only [ho, hx, Sem.run_bind, hr]
    exact hK _ _ h

/-- The result lies in a cell: a whole row. -/
theorem results_blk {fn : Func} {p : Tmp} {ty : TypeId} (h : fn.results = #[.cell p ty]) (tmps : Array Value) (w : World) (g n : Nat) (t : TypeId) (cs : Array Value)
    (hp : tmps.getD p undef = .pointer (some ⟨g, 0, none⟩)) (hb : Blk w g t cs) (hagg : ∀ w, (isAgg ty).run P w = .ok true w) (hsz : ∀ w, (sizeOf ty).run P w = .ok n w) (hn : n = cs.size) :
    (results fn tmps).run P w = .ok (.agg cs) w := by
  have hp' : tmps[p]?.getD undef = .pointer (some ⟨g, 0, none⟩) := by simpa using hp
  have := run_load_part (P := P) w ty g 0 n t cs (hagg w) (hsz w) hb (by omega)
  simp [results, h, hp', asAddr, this, hn]
end

theorem Blk.setRow {w : World} {g : Nat} {t : TypeId} {cs : Array Value} (h : Blk w g t cs) (vs : Array Value) : Blk (w.setRow g vs) g t vs := setRow_heap w g cs vs t _ h
theorem Blk.setRow_other {w : World} {g k : Nat} {t : TypeId} {cs : Array Value} (h : Blk w g t cs) (vs : Array Value) (hne : g ≠ k) : Blk (w.setRow k vs) g t cs :=
  (_root_.Go.setRow_other w k g vs hne).trans h
theorem below_setRow {B : Nat} {a w : World} (h : Below B a w) {g : Nat} (hg : B ≤ g) (vs : Array Value) : Below B a (w.setRow g vs) :=
  h.trans ⟨rfl, rfl, rfl, by simp, fun k hk => _root_.Go.setRow_other w g k vs (by omega)⟩

theorem nagg5 (w : World) : (isAgg 5).run Try.prog w = .ok false w := by kernel_rfl
theorem sz5 (w : World) : (sizeOf 5).run Try.prog w = .ok 1 w := by kernel_rfl
theorem fld71_0 (cs : Array Value) (w : World) : (Instr.field 71 (.agg cs) 0).run Try.prog w = .ok (.agg (cs.extract 0 256)) w := by kernel_rfl
theorem fld71_1 (cs : Array Value) (w : World) : (Instr.field 71 (.agg cs) 1).run Try.prog w = .ok (.agg (cs.extract 256 512)) w := by kernel_rfl
theorem agg23 (w : World) : (isAgg 23).run Try.prog w = .ok true w := by kernel_rfl
theorem sz23 (w : World) : (sizeOf 23).run Try.prog w = .ok 16 w := by kernel_rfl
theorem zero23 (w : World) : (zeroValue 23).run Try.prog w = .ok (.agg (row 16 fun _ => 0)) w := by kernel_rfl
theorem agg52 (w : World) : (isAgg 52).run Try.prog w = .ok true w := by kernel_rfl
theorem sz52 (w : World) : (sizeOf 52).run Try.prog w = .ok 256 w := by kernel_rfl
theorem zero52 (w : World) : (zeroValue 52).run Try.prog w = .ok (.agg (row 256 fun _ => 0)) w := by kernel_rfl
theorem agg96 (w : World) : (isAgg 96).run Try.prog w = .ok true w := by kernel_rfl
theorem sz96 (w : World) : (sizeOf 96).run Try.prog w = .ok 255 w := by kernel_rfl
theorem zero96 (w : World) : (zeroValue 96).run Try.prog w = .ok (.agg (row 255 fun _ => 0)) w := by kernel_rfl
theorem agg71 (w : World) : (isAgg 71).run Try.prog w = .ok true w := by kernel_rfl
theorem sz71 (w : World) : (sizeOf 71).run Try.prog w = .ok 512 w := by kernel_rfl
theorem zero71 (w : World) : (zeroValue 71).run Try.prog w = .ok (.agg (row 512 fun _ => 0)) w := by kernel_rfl

end Go.Proofs.Ytnigpobbckampaa
