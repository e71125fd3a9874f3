/- Laws of single operations at arrays that are held as rows of cells: alloc, load, store, field, index. Slices of bytes, by what they read as: RdF (read alone), OwnF (the call's own, to be appended to and written). The comparison of two arrays of bytes. make of bytes. copy of bytes; cells that are kept. Contracts of slices.Clone, R.CopyBytes. -/
import Derived.Test.YtnigpobbckampaaK
import Derived.ChangeKeysEq
import Derived.Laws.Small
import Derived.Laws.MakeOwn
import Derived.Laws.CopyOwn
namespace Go.Proofs.Ytnigpobbckampaa
set_option linter.unusedSimpArgs false
set_option linter.unusedVariables false
open Go.RowKit

/-- cs with vs laid in from place off on. -/
def lay (cs : Array Value) (off : Nat) (vs : Array Value) : Array Value := (cs.toList.take off ++ vs.toList ++ cs.toList.drop (off + vs.size)).toArray
theorem lay_all (cs vs : Array Value) (h : vs.size = cs.size) : lay cs 0 vs = vs := by
  simp [lay, h, ← Array.length_toList]
theorem lay_size (cs : Array Value) (off : Nat) (vs : Array Value) (h : off + vs.size ≤ cs.size) : (lay cs off vs).size = cs.size := by
  simp [lay]; omega
theorem lay_get (cs : Array Value) (off : Nat) (vs : Array Value) (h : off + vs.size ≤ cs.size) (j : Nat) : (lay cs off vs)[j]? = if j < off then cs[j]? else if j < off + vs.size then vs[j - off]? else cs[j]? := by
  unfold lay
  rw [List.getElem?_toArray, List.append_assoc, List.getElem?_append]
  have hl : (cs.toList.take off).length = off := by simp; omega
  rw [hl]
  split
  · rename_i h1; simp [h1]
  · rename_i h1
    rw [List.getElem?_append]
    simp only [Array.length_toList]
    by_cases h2 : j - off < vs.size
    · rw [if_pos h2, if_pos (by omega)]; simp
    · rw [if_neg h2, if_neg (by omega), List.getElem?_drop]
      simp; congr 1; omega

theorem row_one (n : Nat) (f : Nat → Nat) : ∀ v ∈ (row n f).toList, v.oneCell' = true := by
  intro v hv
  simp [row] at hv
  obtain ⟨i, _, rfl⟩ := hv
  rfl

section
variable {P : Program}

theorem run_load_part (w : World) (ty g off n : Nat) (t : TypeId) (cs : Array Value) (hagg : (isAgg ty).run P w = .ok true w) (hsz : (sizeOf ty).run P w = .ok n w)
    (hb : Blk w g t cs) (hfit : off + n ≤ cs.size) : (loadVar ty ⟨g, off, none⟩).run P w = .ok (.agg (cs.extract off (off + n))) w := by
  have hl : (loadCells ⟨g, off, none⟩ (cs.extract off (off + n)).toList.length).run P w = .ok (cs.extract off (off + n)).toList.toArray w :=
    run_loadCells_list (P := P) w ⟨g, off, none⟩ _ (fun j v hv => by
      have hadd : (⟨g, off, none⟩ : Addr).add j = ⟨g, off + j, none⟩ := by unfold Addr.add; split <;> simp_all
      rw [hadd, hb.cell]
      simp only [Array.getElem?_toList, Array.getElem?_extract] at hv
      split at hv
      · exact hv
      · cases hv)
  have hlen : (cs.extract off (off + n)).toList.length = n := by simp; omega
  rw [hlen] at hl
  simp only [Array.toArray_toList] at hl
  simp [loadVar, Sem.run_bind, hagg, hsz, hl]

theorem run_store_part (w : World) (ty g off n : Nat) (t : TypeId) (cs vs : Array Value) (hsz : (sizeOf ty).run P w = .ok n w) (hn : vs.size = n)
    (hb : Blk w g t cs) (hfit : off + n ≤ cs.size) (h1 : ∀ v ∈ vs.toList, v.oneCell' = true) : (storeVar ty ⟨g, off, none⟩ (.agg vs)).run P w = .ok () (w.setRow g (lay cs off vs)) := by
  have hst := run_storeCells_at P g off t vs.toList 0 cs w hb (by simp; omega) h1
  simp only [Nat.add_zero, Array.length_toList] at hst
  simp [storeVar, Value.cells, Sem.run_bind, hsz, hn, hst, lay]

variable {ops : Array Oper} {rest : List Oper} {o : Oper} {a : Act} {w : World} {Q : Exit → Act → World → Prop} {K : Act → World → Prop}

theorem wp_loadA (ty : TypeId) (x : Operand) (ho : o.op = .load ty x) (g off n : Nat) (hx : a.eval x = .pointer (some ⟨g, off, none⟩))
    (hagg : ∀ w, (isAgg ty).run P w = .ok true w) (hsz : ∀ w, (sizeOf ty).run P w = .ok n w) (t : TypeId) (cs : Array Value) (hb : Blk w g t cs) (hfit : off + n ≤ cs.size)
    (vs : Array Value) (hv : cs.extract off (off + n) = vs) (h : K (a.put o.dst (.agg vs)) w) : o.wp P a w K Q := by
  subst hv
  unfold Oper.wp execOp
  simp only [ho, hx, Instr.loadAt, Instr.sureAddr, Sem.run_bind, Sem.run_pure, Result.andThen_ok, run_load_part w ty g off n t cs (hagg w) (hsz w) hb hfit]
  exact h

/-- A load of a whole array, or of a part of a row. -/
theorem wl_loadA (hgd : o.guard = none) (ty : TypeId) (x : Operand) (ho : o.op = .load ty x) (g off n : Nat) (hx : a.eval x = .pointer (some ⟨g, off, none⟩))
    (hagg : ∀ w, (isAgg ty).run P w = .ok true w) (hsz : ∀ w, (sizeOf ty).run P w = .ok n w) (t : TypeId) (cs : Array Value) (hb : Blk w g t cs) (hfit : off + n ≤ cs.size)
    (vs : Array Value) (hv : cs.extract off (off + n) = vs) (h : wpList P ops Q rest (a.put o.dst (.agg vs)) w) : wpList P ops Q (o :: rest) a w :=
  wpList_plain hgd fun _ hK => wp_loadA ty x ho g off n hx hagg hsz t cs hb hfit vs hv (hK _ _ h)

theorem wp_storeA (ty : TypeId) (x y : Operand) (ho : o.op = .store ty x y) (g off n : Nat) (hx : a.eval x = .pointer (some ⟨g, off, none⟩)) (vs : Array Value) (hy : a.eval y = .agg vs)
    (hsz : ∀ w, (sizeOf ty).run P w = .ok n w) (hn : vs.size = n) (t : TypeId) (cs : Array Value) (hb : Blk w g t cs) (hfit : off + n ≤ cs.size) (h1 : ∀ v ∈ vs.toList, v.oneCell' = true)
    (cs' : Array Value) (hc : lay cs off vs = cs') (h : K (a.put o.dst undef) (w.setRow g cs')) : o.wp P a w K Q := by
  subst hc
  unfold Oper.wp execOp
  simp only [ho, hx, hy, Instr.storeAt, Instr.sureAddr, Sem.run_bind, Sem.run_pure, Result.andThen_ok, run_store_part w ty g off n t cs vs (hsz w) hn hb hfit h1]
  exact h

/-- A store of a whole array into a row. -/
theorem wl_storeA (hgd : o.guard = none) (ty : TypeId) (x y : Operand) (ho : o.op = .store ty x y) (g off n : Nat) (hx : a.eval x = .pointer (some ⟨g, off, none⟩)) (vs : Array Value) (hy : a.eval y = .agg vs)
    (hsz : ∀ w, (sizeOf ty).run P w = .ok n w) (hn : vs.size = n) (t : TypeId) (cs : Array Value) (hb : Blk w g t cs) (hfit : off + n ≤ cs.size) (h1 : ∀ v ∈ vs.toList, v.oneCell' = true)
    (cs' : Array Value) (hc : lay cs off vs = cs') (h : wpList P ops Q rest (a.put o.dst undef) (w.setRow g cs')) : wpList P ops Q (o :: rest) a w :=
  wpList_plain hgd fun _ hK => wp_storeA ty x y ho g off n hx vs hy hsz hn t cs hb hfit h1 cs' hc (hK _ _ h)

theorem wp_allocA (ty : TypeId) (ho : o.op = .alloc ty) (vs : Array Value) (hz : ∀ w, (zeroValue ty).run P w = .ok (.agg vs) w)
    (h : K (a.put o.dst (.pointer (some ⟨w.heap.size, 0, none⟩))) (w.alloc (.cells vs ty))) : o.wp P a w K Q := by
  unfold Oper.wp execOp
  simp only [ho, Instr.alloc, Sem.run_bind, hz w, Result.andThen_ok, newVar, newRow, Value.cells, newObj]
  exact h

/-- 'var x [n]T': a row of zeros. -/
theorem wl_allocA (hgd : o.guard = none) (ty : TypeId) (ho : o.op = .alloc ty) (vs : Array Value) (hz : ∀ w, (zeroValue ty).run P w = .ok (.agg vs) w)
    (h : wpList P ops Q rest (a.put o.dst (.pointer (some ⟨w.heap.size, 0, none⟩))) (w.alloc (.cells vs ty))) : wpList P ops Q (o :: rest) a w :=
  wpList_plain hgd fun _ hK => wp_allocA ty ho vs hz (hK _ _ h)

theorem wp_boxA (ty : TypeId) (x : Operand) (ho : o.op = .box ty x) (vs : Array Value) (hx : a.eval x = .agg vs)
    (h : K (a.put o.dst (.pointer (some ⟨w.heap.size, 0, none⟩))) (w.alloc (.cells vs ty))) : o.wp P a w K Q := by
  unfold Oper.wp execOp
  simp only [ho, hx, Instr.box, Sem.run_bind, newVar, newRow, Value.cells, newObj]
  exact h
theorem wl_boxA (hgd : o.guard = none) (ty : TypeId) (x : Operand) (ho : o.op = .box ty x) (vs : Array Value) (hx : a.eval x = .agg vs)
    (h : wpList P ops Q rest (a.put o.dst (.pointer (some ⟨w.heap.size, 0, none⟩))) (w.alloc (.cells vs ty))) : wpList P ops Q (o :: rest) a w :=
  wpList_plain hgd fun _ hK => wp_boxA ty x ho vs hx (hK _ _ h)

theorem run_index_row (ty elem len : Nat) (hu : P.underlying ty = some (.array len elem)) (hna : ∀ w, (isAgg elem).run P w = .ok false w) (hsz : ∀ w, (sizeOf elem).run P w = .ok 1 w)
    (cs : Array Value) (k : IntKind) (i : Nat) (hi : i < len) (v : Value) (hv : cs[i]? = some v) (w : World) : (Instr.index ty (.agg cs) (.int k i)).run P w = .ok v w := by
  unfold Instr.index
  have h1 : ¬ ((i : Int) < 0) := by omega
  simp [asIntOf, Sem.run_bind, run_underlying hu, hi, hsz, part, hna, hv]

theorem wl_indexA (hgd : o.guard = none) (ty : TypeId) (x y : Operand) (ho : o.op = .index ty x y) (elem len : Nat) (hu : P.underlying ty = some (.array len elem)) (hna : ∀ w, (isAgg elem).run P w = .ok false w) (hsz : ∀ w, (sizeOf elem).run P w = .ok 1 w)
    (cs : Array Value) (hx : a.eval x = .agg cs) (k : IntKind) (i : Nat) (hy : a.eval y = .int k i) (hi : i < len) (v : Value) (hv : cs[i]? = some v)
    (h : wpList P ops Q rest (a.put o.dst v) w) : wpList P ops Q (o :: rest) a w :=
  wpList_plain hgd fun _ hK => by
    unfold Oper.wp execOp
    simp only [ho, hx, hy, Sem.run_bind, run_index_row ty elem len hu hna hsz cs k i hi v hv]
    exact hK _ _ h

theorem wl_fieldR (hgd : o.guard = none) (ty : TypeId) (x : Operand) (f : Nat) (ho : o.op = .field ty x f) (X : Value) (hx : a.eval x = X) (v : Value) (hr : (Instr.field ty X f).run P w = .ok v w)
    (h : wpList P ops Q rest (a.put o.dst v) w) : wpList P ops Q (o :: rest) a w :=
  wpList_plain hgd fun _ hK => by
    unfold Oper.wp execOp
    simp only [ho, hx, Sem.run_bind, hr]
    exact hK _ _ h

/-- The result lies in a cell: a whole row. -/
theorem results_blk {fn : Func} {p : Tmp} {ty : TypeId} (h : fn.results = #[.cell p ty]) (tmps : Array Value) (w : World) (g n : Nat) (t : TypeId) (cs : Array Value)
    (hp : tmps.getD p undef = .pointer (some ⟨g, 0, none⟩)) (hb : Blk w g t cs) (hagg : ∀ w, (isAgg ty).run P w = .ok true w) (hsz : ∀ w, (sizeOf ty).run P w = .ok n w) (hn : n = cs.size) :
    (results fn tmps).run P w = .ok (.agg cs) w := by
  have hp' : tmps[p]?.getD undef = .pointer (some ⟨g, 0, none⟩) := by simpa using hp
  have := run_load_part (P := P) w ty g 0 n t cs (hagg w) (hsz w) hb (by omega)
  simp [results, h, hp', asAddr, this, hn]
end

theorem Blk.setRow {w : World} {g : Nat} {t : TypeId} {cs : Array Value} (h : Blk w g t cs) (vs : Array Value) : Blk (w.setRow g vs) g t vs := setRow_heap w g cs vs t _ h
theorem Blk.setRow_other {w : World} {g k : Nat} {t : TypeId} {cs : Array Value} (h : Blk w g t cs) (vs : Array Value) (hne : g ≠ k) : Blk (w.setRow k vs) g t cs :=
  (_root_.Go.setRow_other w k g vs hne).trans h
theorem below_setRow {B : Nat} {a w : World} (h : Below B a w) {g : Nat} (hg : B ≤ g) (vs : Array Value) : Below B a (w.setRow g vs) :=
  h.trans ⟨rfl, rfl, rfl, by simp, fun k hk => _root_.Go.setRow_other w g k vs (by omega)⟩

theorem nagg5 (w : World) : (isAgg 5).run Try.prog w = .ok false w := by kernel_rfl
theorem sz5 (w : World) : (sizeOf 5).run Try.prog w = .ok 1 w := by kernel_rfl
theorem fld71_0 (cs : Array Value) (w : World) : (Instr.field 71 (.agg cs) 0).run Try.prog w = .ok (.agg (cs.extract 0 256)) w := by kernel_rfl
theorem fld71_1 (cs : Array Value) (w : World) : (Instr.field 71 (.agg cs) 1).run Try.prog w = .ok (.agg (cs.extract 256 512)) w := by kernel_rfl
theorem agg23 (w : World) : (isAgg 23).run Try.prog w = .ok true w := by kernel_rfl
theorem sz23 (w : World) : (sizeOf 23).run Try.prog w = .ok 16 w := by kernel_rfl
theorem zero23 (w : World) : (zeroValue 23).run Try.prog w = .ok (.agg (row 16 fun _ => 0)) w := by kernel_rfl
theorem agg52 (w : World) : (isAgg 52).run Try.prog w = .ok true w := by kernel_rfl
theorem sz52 (w : World) : (sizeOf 52).run Try.prog w = .ok 256 w := by kernel_rfl
theorem zero52 (w : World) : (zeroValue 52).run Try.prog w = .ok (.agg (row 256 fun _ => 0)) w := by kernel_rfl
theorem agg96 (w : World) : (isAgg 96).run Try.prog w = .ok true w := by kernel_rfl
theorem sz96 (w : World) : (sizeOf 96).run Try.prog w = .ok 255 w := by kernel_rfl
theorem zero96 (w : World) : (zeroValue 96).run Try.prog w = .ok (.agg (row 255 fun _ => 0)) w := by kernel_rfl
theorem agg71 (w : World) : (isAgg 71).run Try.prog w = .ok true w := by kernel_rfl
theorem sz71 (w : World) : (sizeOf 71).run Try.prog w = .ok 512 w := by kernel_rfl
theorem zero71 (w : World) : (zeroValue 71).run Try.prog w = .ok (.agg (row 512 fun _ => 0)) w := by kernel_rfl

end Go.Proofs.Ytnigpobbckampaa
namespace Go.Proofs.Ytnigpobbckampaa
set_option linter.unusedSimpArgs false
set_option linter.unusedVariables false
open Go.RowKit

/-- v is a slice of n bytes f. -/
def RdF (w : World) (v : Value) (n : Nat) (f : Nat → Nat) : Prop :=
  ∃ ao cap, v = .slice ao n cap ∧ n ≤ cap ∧ (ao = none → cap = 0) ∧ ∀ i, i < n → f i < 256 ∧ ∃ a, ao = some a ∧ w.cell? (a.add i) = some (.int .u8 ((f i : Nat) : Int))

/-- v is a slice of n bytes f that lies in a block from base on, the spare cells with it; or nil. -/
def OwnF (w : World) (base : Nat) (v : Value) (n : Nat) (f : Nat → Nat) : Prop :=
  (v = .slice none 0 0 ∧ n = 0) ∨
  ∃ g off cap t cur, v = .slice (some ⟨g, off, none⟩) n cap ∧ base ≤ g ∧ Blk w g t cur ∧ n ≤ cap ∧ off + cap ≤ cur.size ∧ ∀ i, i < n → f i < 256 ∧ cur[off + i]? = some (.int .u8 ((f i : Nat) : Int))

theorem RdF.ext {w w' : World} {v : Value} {n : Nat} {f : Nat → Nat} (h : RdF w v n f) (hx : Ext w w') : RdF w' v n f := by
  obtain ⟨ao, cap, hv, hc, hn, hf⟩ := h
  refine ⟨ao, cap, hv, hc, hn, fun i hi => ?_⟩
  obtain ⟨h1, a, ha, h2⟩ := hf i hi
  exact ⟨h1, a, ha, hx.cell h2⟩
theorem OwnF.ext {w w' : World} {b : Nat} {v : Value} {n : Nat} {f : Nat → Nat} (h : OwnF w b v n f) (hx : Ext w w') : OwnF w' b v n f := by
  rcases h with h | ⟨g, off, cap, t, cur, hv, hb, hB, rest⟩
  · exact .inl h
  · exact .inr ⟨g, off, cap, t, cur, hv, hb, hB.ext hx, rest⟩
theorem OwnF.mono {w : World} {b b' : Nat} {v : Value} {n : Nat} {f : Nat → Nat} (h : OwnF w b v n f) (hb : b' ≤ b) : OwnF w b' v n f := by
  rcases h with h | ⟨g, off, cap, t, cur, hv, hg, rest⟩
  · exact .inl h
  · exact .inr ⟨g, off, cap, t, cur, hv, Nat.le_trans hb hg, rest⟩
theorem OwnF.congr {w : World} {b : Nat} {v : Value} {n : Nat} {f h : Nat → Nat} (ho : OwnF w b v n f) (he : ∀ i, i < n → h i = f i) : OwnF w b v n h := by
  rcases ho with ho | ⟨g, off, cap, t, cur, hv, hb, hB, hc, hs, hf⟩
  · exact .inl ho
  · exact .inr ⟨g, off, cap, t, cur, hv, hb, hB, hc, hs, fun i hi => by rw [he i hi]; exact hf i hi⟩
theorem RdF.congr {w : World} {v : Value} {n : Nat} {f h : Nat → Nat} (ho : RdF w v n f) (he : ∀ i, i < n → h i = f i) : RdF w v n h := by
  obtain ⟨ao, cap, hv, hc, hn, hf⟩ := ho
  exact ⟨ao, cap, hv, hc, hn, fun i hi => by rw [he i hi]; exact hf i hi⟩
theorem OwnF.rd {w : World} {b : Nat} {v : Value} {n : Nat} {f : Nat → Nat} (h : OwnF w b v n f) : RdF w v n f := by
  rcases h with ⟨rfl, rfl⟩ | ⟨g, off, cap, t, cur, rfl, hb, hB, hc, hs, hf⟩
  · exact ⟨none, 0, rfl, Nat.le_refl _, fun _ => rfl, fun i hi => absurd hi (Nat.not_lt_zero _)⟩
  · refine ⟨some ⟨g, off, none⟩, cap, rfl, hc, fun h => (by cases h), fun i hi => ⟨(hf i hi).1, _, rfl, ?_⟩⟩
    rw [Addr.add_lit, hB.cell]
    exact (hf i hi).2

/-- Written out, where there is an element. -/
theorem RdF.form {w : World} {v : Value} {n : Nat} {f : Nat → Nat} (h : RdF w v n f) (hn : 0 < n) :
    ∃ g off cap, v = .slice (some ⟨g, off, none⟩) n cap ∧ n ≤ cap ∧ ∀ i, i < n → f i < 256 ∧ w.cell? ⟨g, off + i, none⟩ = some (.int .u8 ((f i : Nat) : Int)) := by
  obtain ⟨ao, cap, hv, hc, _, hf⟩ := h
  obtain ⟨_, a, ha, h0⟩ := hf 0 hn
  subst ha
  obtain ⟨g, off, spot⟩ := a
  have hs : spot = none := by
    cases spot with
    | none => rfl
    | some s =>
      simp only [Addr.add, if_true, World.cell?] at h0
      split at h0 <;> simp at h0
  subst hs
  refine ⟨g, off, cap, hv, hc, fun i hi => ?_⟩
  obtain ⟨h1, a, ha, h2⟩ := hf i hi
  obtain rfl := Option.some.inj ha
  rw [Addr.add_lit] at h2
  exact ⟨h1, h2⟩
theorem RdF.len {w : World} {v : Value} {n : Nat} {f : Nat → Nat} (h : RdF w v n f) : ∃ ao cap, v = .slice ao n cap ∧ n ≤ cap := by
  obtain ⟨ao, cap, hv, hc, _⟩ := h
  exact ⟨ao, cap, hv, hc⟩
theorem RdF.lt {w : World} {v : Value} {n : Nat} {f : Nat → Nat} (h : RdF w v n f) : ∀ i, i < n → f i < 256 := by
  obtain ⟨_, _, _, _, _, hf⟩ := h
  exact fun i hi => (hf i hi).1
theorem OwnF.lt {w : World} {b : Nat} {v : Value} {n : Nat} {f : Nat → Nat} (h : OwnF w b v n f) : ∀ i, i < n → f i < 256 := h.rd.lt

theorem OwnF.form {w : World} {b : Nat} {v : Value} {n : Nat} {f : Nat → Nat} (h : OwnF w b v n f) (hn : 0 < n) :
    ∃ g off cap t cur, v = .slice (some ⟨g, off, none⟩) n cap ∧ b ≤ g ∧ Blk w g t cur ∧ n ≤ cap ∧ off + cap ≤ cur.size ∧ ∀ i, i < n → f i < 256 ∧ cur[off + i]? = some (.int .u8 ((f i : Nat) : Int)) := by
  rcases h with ⟨rfl, rfl⟩ | h
  · omega
  · exact h

/-- A byte of it written. -/
theorem OwnF.stored {w : World} {b g off cap t : Nat} {cur : Array Value} {n : Nat} {f : Nat → Nat} (hb : b ≤ g) (hB : Blk w g t cur) (hc : n ≤ cap) (hs : off + cap ≤ cur.size)
    (hf : ∀ i, i < n → f i < 256 ∧ cur[off + i]? = some (.int .u8 ((f i : Nat) : Int))) (j u : Nat) (hu : u < 256) (hj : j < n) :
    OwnF (w.setCell ⟨g, off + j, none⟩ (.int .u8 ((u : Nat) : Int))) b (.slice (some ⟨g, off, none⟩) n cap) n (upd f j u) := by
  refine .inr ⟨g, off, cap, t, cur.setIfInBounds (off + j) (.int .u8 ((u : Nat) : Int)), rfl, hb, hB.set _ _, hc, by simpa using hs, fun i hi => ?_⟩
  rw [Array.getElem?_setIfInBounds]
  by_cases h : i = j
  · subst h
    rw [upd_same, if_pos rfl, if_pos (by omega)]
    exact ⟨hu, rfl⟩
  · rw [upd_other _ _ _ _ h, if_neg (by omega)]
    exact hf i hi

def bs (n : Nat) (f : Nat → Nat) : List Value := (List.range n).map fun i => Value.int .u8 ((f i : Nat) : Int)
theorem bs_length (n : Nat) (f : Nat → Nat) : (bs n f).length = n := by simp [bs]
theorem bs_get (n : Nat) (f : Nat → Nat) (i : Nat) (h : i < n) : (bs n f)[i]? = some (.int .u8 ((f i : Nat) : Int)) := by simp [bs, h]
theorem bs_inv {n : Nat} {f : Nat → Nat} {i : Nat} {u : Value} (h : (bs n f)[i]? = some u) : i < n ∧ u = .int .u8 ((f i : Nat) : Int) := by
  have h1 : i < n := by have := (List.getElem?_eq_some_iff.1 h).1; rwa [bs_length] at this
  rw [bs_get n f i h1] at h
  exact ⟨h1, (Option.some.inj h).symm⟩
theorem bs_one (n : Nat) (f : Nat → Nat) : ∀ u ∈ bs n f, u.oneCell' = true := by
  intro u hu
  obtain ⟨i, _, rfl⟩ := List.mem_map.1 hu
  rfl

theorem info5 : (Try.prog.info? 5).map (fun i => (i.zero, i.size, i.bytes)) = some (some (.int .u8 0), 1, 1) := by kernel_rfl

theorem own_of_row {w : World} {base : Nat} {v : Value} {n : Nat} {f : Nat → Nat} (hf : ∀ i, i < n → f i < 256) (h : w.ownsRow base 5 1 v n (bs n f)) : OwnF w base v n f := by
  rcases h.2 with ⟨rfl, rfl⟩ | ⟨g, cap, cur, rfl, hb, hg, hc, _, hs, ht⟩
  · exact .inl ⟨rfl, rfl⟩
  · refine .inr ⟨g, 0, cap, 5, cur, rfl, hb, hg, hc, by omega, fun i hi => ⟨hf i hi, ?_⟩⟩
    have h1 := bs_get n f i hi
    rw [← ht, List.getElem?_take, if_pos (by omega)] at h1
    simpa using h1

theorem bs_append (n m : Nat) (f s h : Nat → Nat) (h1 : ∀ i, i < n → h i = f i) (h2 : ∀ j, j < m → h (n + j) = s j) : bs n f ++ bs m s = bs (n + m) h := by
  apply List.ext_getElem?
  intro i
  rw [List.getElem?_append, bs_length]
  split
  · rename_i hi
    rw [bs_get _ _ _ hi, bs_get _ _ _ (by omega), h1 i hi]
  · rename_i hi
    by_cases hm : i - n < m
    · rw [bs_get _ _ _ hm, bs_get _ _ _ (by omega), ← h2 _ hm, show n + (i - n) = i by omega]
    · rw [List.getElem?_eq_none (by rw [bs_length]; omega), List.getElem?_eq_none (by rw [bs_length]; omega)]

theorem Below.grownF {B : Nat} {w w' : World} {row : Option Nat} (hg : w.grownBy w' row) (hB : B ≤ w.heap.size) (hr : ∀ k, row = some k → B ≤ k) : Below B w w' := (Below.refl B w).grown hg hB hr

/-- append(v, x...): v the call's own, x any slice of bytes. -/
theorem run_appendF (w : World) (base : Nat) (ty : TypeId) (v x : Value) (n m : Nat) (f s h : Nat → Nat) (ho : OwnF w base v n f) (hx : RdF w x m s) (hb : base ≤ w.heap.size) (hnm : n + m ≤ 140737488355328)
    (h1 : ∀ i, i < n → h i = f i) (h2 : ∀ j, j < m → h (n + j) = s j) :
    ∃ v' w', (Builtin.append_ #[22, 22] ty #[v, x]).run Try.prog w = .ok v' w' ∧ OwnF w' base v' (n + m) h ∧ Below base w w' := by
  obtain ⟨i0, hi, hz0, hz1, hz2⟩ := info_parts info5
  have hlt : ∀ i, i < n + m → h i < 256 := by
    intro i hi
    by_cases hin : i < n
    · rw [h1 i hin]; exact ho.lt i hin
    · have := h2 (i - n) (by omega)
      rw [show n + (i - n) = i by omega] at this
      rw [this]; exact hx.lt _ (by omega)
  by_cases hm : m = 0
  · -- nothing is appended
    subst hm
    obtain ⟨ao, cap, rfl, _⟩ := hx.len
    have hfc : ∀ ao, (Builtin.firstCells 1 0 (.slice ao 0 cap)).run Try.prog w = .ok #[] w := by
      intro ao
      cases ao with
      | none => exact run_firstCells_none w 1 0 0 cap
      | some a => exact run_firstCells_some (P := Try.prog) w 1 0 a 0 cap [] rfl (fun j v hv => by simp at hv)
    refine ⟨v, w, ?_, ho.congr h1, Below.refl _ _⟩
    rcases ho with ⟨rfl, rfl⟩ | ⟨g, off, cap', t, cur, rfl, _, _, hc, _⟩
    · simp [Builtin.append_, run_underlying Try.underlying22, sizeOf, typeInfo, hi, hz1, Builtin.lenOf, hfc]
    · simp [Builtin.append_, run_underlying Try.underlying22, sizeOf, typeInfo, hi, hz1, Builtin.lenOf, hfc, hc, storeCells]
  · obtain ⟨gs, os, cs, rfl, hcs, hcell⟩ := hx.form (by omega)
    have hnews : ∀ j u, (bs m s)[j]? = some u → w.cell? ((⟨gs, os, none⟩ : Addr).add j) = some u := by
      intro j u hj
      obtain ⟨hjm, rfl⟩ := bs_inv hj
      rw [Addr.add_lit]
      exact (hcell j hjm).2
    rcases ho with ⟨rfl, rfl⟩ | ⟨g, off, cap, t, cur, rfl, hg, hB, hc, hsz, hf⟩
    · obtain ⟨v', w', hr, hown, hgr, _⟩ := run_append_own (P := Try.prog) w base 22 ty 5 i0 (.int .u8 0) 1 1 Try.underlying22 hi hz0 hz1 hz2 rfl (by decide) (.slice none 0 0) 0 [] (World.ownsRow_nil _ _ _ _) ⟨gs, os, none⟩ m cs (bs m s) (by simp [bs_length]) hnews (bs_one _ _)
        (by unfold maxLen; omega) (by omega) hb
      refine ⟨v', w', hr, ?_, Below.grownF hgr hb (fun k hk => by cases hk)⟩
      have e : ([] : List Value) ++ bs m s = bs (0 + m) h := bs_append 0 m f s h h1 h2
      rw [e] at hown
      exact own_of_row hlt hown
    · by_cases hroom : n + m ≤ cap
      · have hst := run_storeCells_at Try.prog g (off + n) t (bs m s) 0 cur w hB (by rw [bs_length]; omega) (bs_one _ _)
        simp only [Nat.add_zero] at hst
        have hfc := run_firstCells_some (P := Try.prog) w 1 m ⟨gs, os, none⟩ m cs (bs m s) (by simp [bs_length]) hnews
        have hr : (Builtin.append_ #[22, 22] ty #[.slice (some ⟨g, off, none⟩) n cap, .slice (some ⟨gs, os, none⟩) m cs]).run Try.prog w = .ok (.slice (some ⟨g, off, none⟩) (n + m) cap) (w.setRow g (cur.toList.take (off + n) ++ bs m s ++ cur.toList.drop (off + n + (bs m s).length)).toArray) := by
          simp [Builtin.append_, run_underlying Try.underlying22, sizeOf, typeInfo, hi, hz1, Builtin.lenOf, hroom, hfc, Addr.add_lit, hst]
        refine ⟨_, _, hr, ?_, below_setRow (Below.refl _ _) hg _⟩
        refine .inr ⟨g, off, cap, t, _, rfl, hg, hB.setRow _, hroom, ?_, fun i hi' => ⟨hlt i hi', ?_⟩⟩
        · simp [bs_length]; omega
        · have hl := lay_get cur (off + n) (bs m s).toArray (by simp [bs_length]; omega) (off + i)
          unfold lay at hl
          simp only [List.size_toArray] at hl
          rw [hl]
          simp only [bs_length]
          by_cases hin : i < n
          · rw [if_pos (by omega), h1 i hin]; exact (hf i hin).2
          · rw [if_neg (by omega), if_pos (by omega), List.getElem?_toArray, show off + i - (off + n) = i - n by omega, bs_get _ _ _ (by omega), ← h2 _ (by omega), show n + (i - n) = i by omega]
      · have holds : ∀ j u, (bs n f)[j]? = some u → w.cell? ((⟨g, off, none⟩ : Addr).add j) = some u := by
          intro j u hj
          obtain ⟨hjn, rfl⟩ := bs_inv hj
          rw [Addr.add_lit, hB.cell]
          exact (hf j hjn).2
        obtain ⟨v', w', hr, hown, hgr⟩ := run_append_arg_grows (P := Try.prog) w 22 ty 5 i0 (.int .u8 0) 1 1 Try.underlying22 hi hz0 hz1 hz2 rfl (by decide) ⟨g, off, none⟩ n cap (bs n f) (by simp [bs_length]) holds ⟨gs, os, none⟩ m cs (bs m s) (by simp [bs_length]) hnews
          (by omega) (by unfold maxLen; omega) (by omega)
        refine ⟨v', w', hr, ?_, Below.grownF hgr hb (fun k hk => by cases hk)⟩
        rw [bs_append n m f s h h1 h2] at hown
        exact (own_of_row hlt hown).mono hb

section
variable {ops : Array Oper} {rest : List Oper} {o : Oper} {a : Act} {w : World} {Q : Exit → Act → World → Prop} {K : Act → World → Prop}

theorem wp_appendF (s x : Operand) (hop : o.op = .call { callee := .builtin .append, args := #[s, x], argTypes := #[22, 22] }) (base : Nat) (v X : Value) (n m : Nat) (f sf h : Nat → Nat)
    (hs : a.eval s = v) (hx : a.eval x = X) (ho : OwnF w base v n f) (hX : RdF w X m sf) (hb : base ≤ w.heap.size) (hnm : n + m ≤ 140737488355328)
    (h1 : ∀ i, i < n → h i = f i) (h2 : ∀ j, j < m → h (n + j) = sf j)
    (hK : ∀ v' w', OwnF w' base v' (n + m) h → Below base w w' → K (a.put o.dst v') w') : o.wp Try.prog a w K Q := by
  obtain ⟨v', w', hr, ho', hb'⟩ := run_appendF w base o.type v X n m f sf h ho hX hb hnm h1 h2
  have := hK v' w' ho' hb'
  unfold Oper.wp
  simp [execOp, hop, resolve, invoke, builtin, hs, hx, hr, Result.andThen, Oper.upon]
  exact this

theorem wl_appendF (hgd : o.guard = none) (s x : Operand) (hop : o.op = .call { callee := .builtin .append, args := #[s, x], argTypes := #[22, 22] }) (base : Nat) (v X : Value) (n m : Nat) (f sf h : Nat → Nat)
    (hs : a.eval s = v) (hx : a.eval x = X) (ho : OwnF w base v n f) (hX : RdF w X m sf) (hb : base ≤ w.heap.size) (hnm : n + m ≤ 140737488355328)
    (h1 : ∀ i, i < n → h i = f i) (h2 : ∀ j, j < m → h (n + j) = sf j)
    (hK : ∀ v' w', OwnF w' base v' (n + m) h → Below base w w' → wpList Try.prog ops Q rest (a.put o.dst v') w') : wpList Try.prog ops Q (o :: rest) a w :=
  wpList_plain hgd fun _ hK' => wp_appendF s x hop base v X n m f sf h hs hx ho hX hb hnm h1 h2 fun v' w' p q => hK' _ _ (hK v' w' p q)
end

end Go.Proofs.Ytnigpobbckampaa
namespace Go.Proofs.Ytnigpobbckampaa
set_option linter.unusedSimpArgs false
set_option linter.unusedVariables false
open Go.RowKit

def eqN (n : Nat) (f g : Nat → Nat) : Bool := (List.range n).all fun i => f i == g i
theorem eqN_iff {n : Nat} {f g : Nat → Nat} : eqN n f g = true ↔ ∀ i, i < n → f i = g i := by
  unfold eqN
  rw [List.all_eq_true]
  exact ⟨fun h i hi => by simpa using h i (List.mem_range.2 hi), fun h i hi => by simpa using h i (List.mem_range.1 hi)⟩
theorem eqN_refl (n : Nat) (f : Nat → Nat) : eqN n f f = true := eqN_iff.2 fun _ _ => rfl
theorem eqN_false {n : Nat} {f g : Nat → Nat} : eqN n f g = false ↔ ¬ ∀ i, i < n → f i = g i := by
  rw [← eqN_iff]; simp

theorem plain5 : Try.prog.plainKey 5 = true := by kernel_rfl
theorem cells5 : Try.prog.cellsOf 5 = 1 := by kernel_rfl

theorem run_items (d n : Nat) (f g : Nat → Nat) (w : World) : ∀ (is : List Nat), (∀ i ∈ is, i < n) →
    (Op.eqItems (d + 1) 5 1 (row n f) (row n g) is).run Try.prog w = .ok (is.all fun i => f i == g i) w := by
  intro is
  induction is with
  | nil => intro _; simp [Op.eqItems]
  | cons i is ih =>
    intro h
    have hi := h i (List.mem_cons_self ..)
    have h1 := run_part_plain (P := Try.prog) w plain5 (xs := row n f) (off := i * 1) (by rw [Nat.mul_one]; exact row_get n f i hi)
    have h2 := run_part_plain (P := Try.prog) w plain5 (xs := row n g) (off := i * 1) (by rw [Nat.mul_one]; exact row_get n g i hi)
    have h3 := run_equalIn_int (P := Try.prog) w d 5 .u8 .u8 ((f i : Nat) : Int) ((g i : Nat) : Int) Try.underlying5
    simp only [Op.eqItems, Sem.run_bind, h1, h2, h3, Result.andThen_ok]
    have hb : ((((f i : Nat) : Int)) == ((g i : Nat) : Int)) = (f i == g i) := by
      by_cases he : f i = g i
      · simp [he]
      · have : ¬ ((f i : Nat) : Int) = ((g i : Nat) : Int) := by omega
        rw [beq_eq_false_iff_ne.2 this, beq_eq_false_iff_ne.2 he]
    rw [hb]
    cases he : f i == g i
    · simp only [Bool.not_false, if_true, Sem.run_pure, List.all_cons, he, Bool.false_and]
    · simp only [Bool.not_true, Bool.false_eq_true, if_false, List.all_cons, he, Bool.true_and]
      exact ih fun j hj => h j (List.mem_cons_of_mem _ hj)

theorem run_eqA (n t : Nat) (hu : Try.prog.underlying t = some (.array n 5)) (f g : Nat → Nat) (w : World) : (Op.equalIn 10000 t (.agg (row n f)) (.agg (row n g))).run Try.prog w = .ok (eqN n f g) w := by
  obtain ⟨i, hi, _⟩ : ∃ i, Try.prog.info? 5 = some i ∧ True := by
    cases h : Try.prog.info? 5 with
    | none =>
      have : (Try.prog.info? 5).isSome = true := by kernel_rfl
      rw [h] at this
      cases this
    | some i => exact ⟨i, rfl, trivial⟩
  rw [show (10000 : Nat) = 9999 + 1 from rfl, run_equalIn_array w 9999 _ _ hu hi, cells5]
  exact run_items 9998 n f g w _ fun i hi => List.mem_range.1 hi

section
variable {ops : Array Oper} {w0 : World} {T : Act → List (Tmp × (World → Prop)) → Prop} {o : Oper} {l : List Oper} {es : List Ent} {a : Act} {F : List (Tmp × (World → Prop))} {rest : List Oper} {w : World} {Q : Exit → Act → World → Prop}

theorem run_eql23 (x y : Operand) (ho : o.op = .binOp .eql 23 x y 23) (f g : Nat → Nat) (hx : a.eval x = .agg (row 16 f)) (hy : a.eval y = .agg (row 16 g)) (w : World) : (execOp a.eval o).run Try.prog w = .ok (.value (.bool (eqN 16 f g))) w := by
  have hg : Try.prog.eqGuardType Try.prog.depth 23 = false := by kernel_rfl
  have h := run_eqA 16 23 Try.underlying23 f g w
  unfold execOp
  rw [ho]
  simp [hx, hy, run_eqGuard_agg w .eql 23 x y _ _ hg, run_eql_struct w 23 (row 16 f) (row 16 g), h]

theorem wpE_eql23 (hw : Region.wanted o (yielded ops a.tmps) = true) (x y : Operand) (ho : o.op = .binOp .eql 23 x y 23) (f g : Nat → Nat) (hx : a.eval x = .agg (row 16 f)) (hy : a.eval y = .agg (row 16 g))
    (h : wpE Try.prog ops w0 T l es (a.put o.dst (.bool (eqN 16 f g))) F) : wpE Try.prog ops w0 T (o :: l) (.det (.bool (eqN 16 f g)) :: es) a F :=
  wpE_val hw (fun w _ _ => run_eql23 x y ho f g hx hy w) h

theorem wl_eql23 (hgd : o.guard = none) (x y : Operand) (ho : o.op = .binOp .eql 23 x y 23) (f g : Nat → Nat) (hx : a.eval x = .agg (row 16 f)) (hy : a.eval y = .agg (row 16 g))
    (h : wpList Try.prog ops Q rest (a.put o.dst (.bool (eqN 16 f g))) w) : wpList Try.prog ops Q (o :: rest) a w :=
  wpList_plain hgd fun _ hK => by
    have h1 := hK _ _ h
    unfold Oper.wp
    rw [run_eql23 x y ho f g hx hy w]
    exact h1
end

end Go.Proofs.Ytnigpobbckampaa
namespace Go.Proofs.Ytnigpobbckampaa
set_option linter.unusedSimpArgs false
set_option linter.unusedVariables false
open Go.RowKit

theorem made_row (c : Nat) : madeCells (Value.int .u8 0).cells c = row c fun _ => 0 := by
  rw [← row_zero]
  unfold madeCells
  apply Array.ext
  · simp
  · intro i h1 h2
    simp [Value.cells, Nat.mod_one]

theorem run_makeF (l c : Nat) (h : l ≤ c) (hc : c ≤ 1000000) (w : World) : (Instr.makeSlice 22 (.int .i64 l) (.int .i64 c)).run Try.prog w = .ok (.slice (some ⟨w.heap.size, 0, none⟩) l c) (w.alloc (.cells (row c fun _ => 0) 5)) := by
  obtain ⟨i0, hi, hz0, hz1, hz2⟩ := info_parts info5
  have := run_makeSlice (P := Try.prog) w 22 5 i0 _ Try.underlying22 hi hz0 .i64 .i64 (l : Int) (c : Int) (by omega) (by omega) (by rw [hz1]; simp; omega) (by rw [hz2]; omega) (by omega)
  rw [this, hz1]
  simp only [Int.toNat_natCast, Nat.mul_one, made_row]

section
variable {ops : Array Oper} {rest : List Oper} {o : Oper} {a : Act} {w : World} {Q : Exit → Act → World → Prop} {K : Act → World → Prop}
theorem wp_makeF (x y : Operand) (ho : o.op = .makeSlice 22 x y) (l c : Nat) (hx : a.eval x = .int .i64 l) (hy : a.eval y = .int .i64 c) (h : l ≤ c) (hc : c ≤ 1000000)
    (hK : K (a.put o.dst (.slice (some ⟨w.heap.size, 0, none⟩) l c)) (w.alloc (.cells (row c fun _ => 0) 5))) : o.wp Try.prog a w K Q := by
  have hr := run_makeF l c h hc w
  unfold Oper.wp execOp
  simp only [ho, hx, hy, Sem.run_bind, hr, Result.andThen_ok]
  exact hK
theorem wl_makeF (hgd : o.guard = none) (x y : Operand) (ho : o.op = .makeSlice 22 x y) (l c : Nat) (hx : a.eval x = .int .i64 l) (hy : a.eval y = .int .i64 c) (h : l ≤ c) (hc : c ≤ 1000000)
    (hK : wpList Try.prog ops Q rest (a.put o.dst (.slice (some ⟨w.heap.size, 0, none⟩) l c)) (w.alloc (.cells (row c fun _ => 0) 5))) : wpList Try.prog ops Q (o :: rest) a w :=
  wpList_plain hgd fun _ hK' => wp_makeF x y ho l c hx hy h hc (hK' _ _ hK)
end

end Go.Proofs.Ytnigpobbckampaa
namespace Go.Proofs.Ytnigpobbckampaa
open Go.RowKit
set_option linter.unusedSimpArgs false
set_option linter.unusedVariables false

theorem goInt_nat (m : Nat) : goInt m = .int .i64 (m : Int) := rfl
theorem copy_row (n m : Nat) (f F0 : Nat → Nat) (h : m ≤ n) : ((row n F0).toList.take 0 ++ bs m f ++ (row n F0).toList.drop (0 + (bs m f).length)).toArray = row n (mixF m f F0) := by
  refine row_ext ?_ (fun j hj => ?_)
  · simp [bs_length, row_size]
    omega
  · rw [List.getElem?_toArray, List.take_zero, List.nil_append, List.getElem?_append, bs_length]
    by_cases hjm : j < m
    · rw [if_pos hjm, bs_get _ _ _ hjm]
      simp [mixF, hjm]
    · rw [if_neg hjm, List.getElem?_drop, Nat.zero_add, show m + (j - m) = j by omega, Array.getElem?_toList, row_get _ _ _ hj]
      simp [mixF, hjm]
section
variable {ops : Array Oper} {rest : List Oper} {o : Oper} {a : Act} {w : World} {Q : Exit → Act → World → Prop} {K : Act → World → Prop}
theorem wp_copyF (d s : Operand) (ho : o.op = .call { callee := .builtin .copy, args := #[d, s], argTypes := #[22, 22] }) (g n dCap : Nat) (X : Value) (m : Nat) (f F0 : Nat → Nat) (t : TypeId)
    (hd : a.eval d = .slice (some ⟨g, 0, none⟩) n dCap) (hs : a.eval s = X) (hX : RdF w X m f) (hm : 0 < m) (hmn : m ≤ n) (hB : Blk w g t (row n F0))
    (hK : K (a.put o.dst (.int .i64 (m : Int))) (w.setRow g (row n (mixF m f F0)))) : o.wp Try.prog a w K Q := by
  obtain ⟨gs, os, cs, rfl, hcs, hcell⟩ := hX.form hm
  have hrun := run_copy_row (P := Try.prog) w 22 22 o.type 5 g 0 n dCap ⟨gs, os, none⟩ m cs (row n F0) t (bs m f) Try.underlying22 (by kernel_rfl) hB (by rw [bs_length]; exact (Nat.min_eq_left hmn).symm)
    (fun j u hj => by
      obtain ⟨hjm, rfl⟩ := bs_inv hj
      rw [Addr.add_lit]
      exact (hcell j hjm).2) (by rw [bs_length, row_size]; omega) (bs_one _ _)
  rw [copy_row n m f F0 hmn, bs_length] at hrun
  unfold Oper.wp
  simp [execOp, ho, resolve, invoke, builtin, hd, hs, hrun, Result.andThen]
  exact hK
theorem wl_copyF (hgd : o.guard = none) (d s : Operand) (ho : o.op = .call { callee := .builtin .copy, args := #[d, s], argTypes := #[22, 22] }) (g n dCap : Nat) (X : Value) (m : Nat) (f F0 : Nat → Nat) (t : TypeId)
    (hd : a.eval d = .slice (some ⟨g, 0, none⟩) n dCap) (hs : a.eval s = X) (hX : RdF w X m f) (hm : 0 < m) (hmn : m ≤ n) (hB : Blk w g t (row n F0))
    (hK : wpList Try.prog ops Q rest (a.put o.dst (.int .i64 (m : Int))) (w.setRow g (row n (mixF m f F0)))) : wpList Try.prog ops Q (o :: rest) a w :=
  wpList_plain hgd fun _ hK' => wp_copyF d s ho g n dCap X m f F0 t hd hs hX hm hmn hB (hK' _ _ hK)
end
theorem cells_of_cell {W : World} {B o : Nat} {v : Value} (h : W.cell? ⟨B, o, none⟩ = some v) : ∃ cs t f, W.heap[B]? = some (.cells cs t f) := by
  unfold World.cell? at h
  cases hb : W.heap[B]? with
  | none => simp [hb] at h
  | some x =>
    cases x with
    | cells cs t f => exact ⟨cs, t, f, rfl⟩
    | _ => simp [hb] at h
end Go.Proofs.Ytnigpobbckampaa
namespace Go.Proofs.Ytnigpobbckampaa
set_option linter.unusedSimpArgs false
set_option linter.unusedVariables false
open Go.RowKit

set_option maxHeartbeats 400000 in
theorem clone_any (v : Value) (n : Nat) (f : Nat → Nat) (w : World) (hn : n ≤ 1000000) (hv : RdF w v n f) :
    Calls Try.prog 48 #[v] w fun e w' => ∃ v', e = .returned v' ∧ OwnF w' w.heap.size v' n f ∧ Ext w w' := by
  obtain ⟨ao, cap, rfl, hc, hnil, hf⟩ := hv
  have hv : RdF w (.slice ao n cap) n f := ⟨ao, cap, rfl, hc, hnil, hf⟩
  have HV := Lib.hid hv
  cases ao with
  | none =>
    obtain rfl : cap = 0 := hnil rfl
    obtain rfl : n = 0 := by omega
    clear hv hf hnil hn hc HV
    have hnl := fun (wx : World) => Lib.run_eql_slice_nil (P := Try.prog) wx 22 5 none 0 0 0 0 Try.underlying22
    go_enter Try.func48, Try.ntmps48
    go_wp2
    go_ret
    exact ⟨_, rfl, .inl ⟨rfl, rfl⟩, Ext.refl _⟩
  | some a =>
    have HN := Lib.hid hn
    clear hv hf hnil hn
    have hnl := fun (wx : World) => Lib.run_eql_slice_nil (P := Try.prog) wx 22 5 (some a) n cap 0 0 Try.underlying22
    go_enter Try.func48, Try.ntmps48
    go_wp2_with (refine wl_appendF rfl (.tmp 5) (.tmp 6) rfl w.heap.size (.slice (some ⟨w.heap.size, 0, none⟩) 0 0) (.slice (some a) n cap) 0 n f f f rfl rfl (.inr ⟨w.heap.size, 0, 0, 5, #[], rfl, Nat.le_refl _, Blk.new w 5 #[], Nat.le_refl _, Nat.le_refl _, fun i hi => absurd hi (Nat.not_lt_zero _)⟩) (HV.out.ext (Ext.alloc w _)) (by simp) (by have := HN.out; omega) (fun _ _ => rfl) (fun j _ => by rw [Nat.zero_add]) ?_; intro v' w' hv' hb')
    go_ret
    rw [Nat.zero_add] at hv'
    exact ⟨v', rfl, hv', ((Below.refl _ w).alloc (Nat.le_refl _) _).trans hb'⟩

set_option maxHeartbeats 400000 in
theorem copy_any (v : Value) (n : Nat) (f : Nat → Nat) (w : World) (hn : n ≤ 1000000) (hv : RdF w v n f) :
    Calls Try.prog 18 #[v] w fun e w' => ∃ v', e = .returned v' ∧ OwnF w' w.heap.size v' n f ∧ Ext w w' := by
  have HV := Lib.hid hv
  have HN := Lib.hid hn
  clear hv hn
  go_enter Try.func18, Try.ntmps18
  go_wp2_with (refine wl_appendF rfl (.tmp 4) (.tmp 5) rfl w.heap.size (.slice none 0 0) v 0 n f f f rfl rfl (.inl ⟨rfl, rfl⟩) HV.out (Nat.le_refl _) (by have := HN.out; omega) (fun _ _ => rfl) (fun j _ => by rw [Nat.zero_add]) ?_; intro v' w' hv' hb')
  go_ret
  rw [Nat.zero_add] at hv'
  exact ⟨v', rfl, hv', hb'⟩

theorem own_one (w : World) (x : Nat) (hx : x < 256) : OwnF (w.alloc (.cells #[.int .u8 ((x : Nat) : Int)] 5)) w.heap.size (.slice (some ⟨w.heap.size, 0, none⟩) 1 1) 1 (fun _ => x) :=
  .inr ⟨w.heap.size, 0, 1, 5, _, rfl, Nat.le_refl _, Blk.new w 5 _, Nat.le_refl _, by simp, fun i hi => by
    obtain rfl : i = 0 := by omega
    exact ⟨hx, by simp⟩⟩

set_option maxRecDepth 100000 in
set_option maxHeartbeats 1000000 in
theorem counting_any (n c : Nat) (w : World) (hn : n ≤ 100) (hc : c ≤ 100) :
    Calls Try.prog 36 #[.int .i64 n, .int .i64 c] w fun e w' => ∃ v', e = .returned v' ∧ OwnF w' w.heap.size v' n (fun i => i * c % 256) ∧ Ext w w' := by
  go_enter Try.func36, Try.ntmps36
  go_wp2
  go_loopw [5, 6] (fun v i wr => ∃ k : Nat, k ≤ n ∧ i = .int .i64 k ∧ OwnF wr w.heap.size v k (fun i => i * c % 256) ∧ Ext w wr) (fun _ i _ => n - (intOf i).toNat)
  case atStart => exact ⟨0, Nat.zero_le _, rfl, .inl ⟨rfl, rfl⟩, Ext.refl _⟩
  case round =>
    obtain ⟨k, hk, rfl, ho, hx⟩ := hrel
    have HO := Lib.hid ho
    have hxs := hx.size
    clear ho
    have hm : k * c ≤ 100 * 100 := Nat.mul_le_mul (by omega) hc
    have hm2 : (k : Int) * (c : Int) ≤ 10000 := by have : ((k * c : Nat) : Int) ≤ 10000 := by omega
                                                   simpa using this
    have hm3 : 0 ≤ (k : Int) * (c : Int) := by have : 0 ≤ ((k * c : Nat) : Int) := by omega
                                               simpa using this
    by_cases hlt : k < n
    · have hlt' : (k : Int) < (n : Int) := by omega
      have HB : Hid (RdF (wr.alloc (.cells #[.int .u8 ((k : Int) * (c : Int) % 256)] 5)) (.slice (some ⟨wr.heap.size, 0, none⟩) 1 1) 1 (fun _ => k * c % 256)) := by
        have := (own_one wr (k * c % 256) (Nat.mod_lt _ (by omega))).rd
        rw [show (((k * c % 256 : Nat)) : Int) = (k : Int) * (c : Int) % 256 by simp] at this
        exact this
      go_wp2_with (refine wl_appendF rfl (.tmp 12) (.tmp 17) rfl w.heap.size _ (.slice (some ⟨wr.heap.size, 0, none⟩) 1 1) k 1 (fun i => i * c % 256) (fun _ => k * c % 256) (fun i => i * c % 256) rfl rfl (HO.out.ext (Ext.alloc wr _)) HB.out (by simp; omega) (by omega) (fun _ _ => rfl) (fun j hj => by rw [show j = 0 by omega, Nat.add_zero]) ?_; intro v' w' hv' hb')
      go_roundw
      case rel => exact ⟨k + 1, by omega, by go_num, hv', Below.trans (hx.trans (Ext.alloc wr _)) hb'⟩
      case measure => simp [intOf]; omega
    · obtain rfl : k = n := by omega
      have hlt' : ¬ (k : Int) < (k : Int) := by omega
      clear hm hm2 hm3
      go_wp2_with fail
      go_ret
      exact ⟨_, rfl, HO.out, hx⟩

/-- A text as a block: cut, or filled up with 0. -/
def fixF (n : Nat) (f : Nat → Nat) : Nat → Nat := fun i => if i < n then f i else 0

set_option maxRecDepth 100000 in
set_option maxHeartbeats 1000000 in
theorem fixed_any (v : Value) (n : Nat) (f : Nat → Nat) (w : World) (hn : n ≤ 1000000) (hv : RdF w v n f) :
    Calls Try.prog 37 #[v] w fun e w' => e = .returned (.agg (row 16 (fixF n f))) ∧ Ext w w' := by
  obtain ⟨ao, cap, rfl, hcap⟩ := hv.len
  have HV := Lib.hid hv
  clear hv
  go_enter Try.func37, Try.ntmps37
  go_wp2_with (refine wl_allocA rfl 23 rfl _ zero23 ?_)
  have hB0 : Blk ((w.alloc (.cells (row 16 fun _ => 0) 23)).alloc (.cells (row 16 fun _ => 0) 23)) w.heap.size 23 (row 16 fun _ => 0) := (Blk.new w _ _).alloc _
  have hB1 : Blk ((w.alloc (.cells (row 16 fun _ => 0) 23)).alloc (.cells (row 16 fun _ => 0) 23)) (w.heap.size + 1) 23 (row 16 fun _ => 0) := by
    have := Blk.new (w.alloc (.cells (row 16 fun _ => 0) 23)) 23 (row 16 fun _ => 0)
    simpa using this
  go_loopw [4] (fun i wr => ∃ k : Nat, k ≤ 16 ∧ k ≤ n ∧ i = .int .i64 k ∧ Blk wr w.heap.size 23 (row 16 fun _ => 0) ∧ Blk wr (w.heap.size + 1) 23 (row 16 (mixF k f fun _ => 0)) ∧ Ext w wr) (fun i _ => 16 - (intOf i).toNat)
  case atStart => exact ⟨0, by omega, Nat.zero_le _, rfl, hB0, by rw [mixF_zero]; exact hB1, (Ext.alloc _ _).trans (Ext.alloc _ _)⟩
  case round =>
    clear hB0 hB1
    obtain ⟨k, hk, hkn, rfl, hb0, hb1, hx⟩ := hrel
    have H0 := Lib.hid hb0
    have H1 := Lib.hid hb1
    have hxs := hx.size
    by_cases hlt : k < 16
    · have hlt' : (k : Int) < 16 := by omega
      by_cases hln : k < n
      · have hln' : (k : Int) < (n : Int) := by omega
        obtain ⟨g, off, cap', hs, _, hf⟩ := (HV.out.ext hx).form (by omega)
        obtain ⟨rfl, rfl⟩ : ao = some ⟨g, off, none⟩ ∧ cap = cap' := by cases hs; exact ⟨rfl, rfl⟩
        have hc := (hf k hln).2
        have hfk := (hf k hln).1
        have ht := hb1.byte k hlt
        have hfr := hb1.frozen k
        clear hf hs hb0 hb1
        go_wp2_with fail
        go_roundw
        case rel =>
          refine ⟨k + 1, by omega, by omega, by go_num, H0.out.other _ (by simp), ?_, Below.setCell hx (by simp) _⟩
          rw [← mixF_upd]
          exact H1.out.setB k _
        case measure => simp [intOf]; omega
      · obtain rfl : n = k := by omega
        have hln' : (n : Int) ≤ (n : Int) := by omega
        clear hb0 hb1
        go_wp2_with (first | (refine wl_loadA rfl 23 _ rfl _ 0 16 rfl agg23 sz23 _ _ H1.out (by simp [row_size]) (row 16 (fixF n f)) ?e1 ?_) | (refine wl_storeA rfl 23 _ _ rfl _ 0 16 rfl (row 16 (fixF n f)) rfl sz23 (row_size _ _) _ _ H0.out (by simp [row_size]) (row_one _ _) (row 16 (fixF n f)) (lay_all _ _ (by simp [row_size])) ?_))
        case e1 => rw [row_whole]; exact row_congr fun j _ => by simp [mixF, fixF]
        refine bodyPost_ret (results_blk rfl _ _ w.heap.size 16 23 (row 16 (fixF n f)) rfl (H0.out.setRow _) agg23 sz23 (row_size _ _).symm) rfl ?_
        exact ⟨rfl, below_setRow (g := w.heap.size) hx (by omega) _⟩
    · obtain rfl : k = 16 := by omega
      have hlt' : ¬ ((16 : Nat) : Int) < 16 := by omega
      clear hb0 hb1
      go_wp2_with (first | (refine wl_loadA rfl 23 _ rfl _ 0 16 rfl agg23 sz23 _ _ H1.out (by simp [row_size]) (row 16 (fixF n f)) ?e1 ?_) | (refine wl_storeA rfl 23 _ _ rfl _ 0 16 rfl (row 16 (fixF n f)) rfl sz23 (row_size _ _) _ _ H0.out (by simp [row_size]) (row_one _ _) (row 16 (fixF n f)) (lay_all _ _ (by simp [row_size])) ?_))
      case e1 => rw [row_whole]; exact row_congr fun j hj => by simp [mixF, fixF, hj, show j < n by omega]
      refine bodyPost_ret (results_blk rfl _ _ w.heap.size 16 23 (row 16 (fixF n f)) rfl (H0.out.setRow _) agg23 sz23 (row_size _ _).symm) rfl ?_
      exact ⟨rfl, below_setRow (g := w.heap.size) hx (by omega) _⟩

end Go.Proofs.Ytnigpobbckampaa
