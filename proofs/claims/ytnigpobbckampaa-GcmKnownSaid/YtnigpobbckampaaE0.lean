/- For aes.New: how a function with a range loop ends; a slice built of one byte in a region; a key that is none. Composite literals whose parts are aggregates; appending arrays of 16 bytes. -/
import Derived.Test.YtnigpobbckampaaD
import Derived.Test.YtnigpobbckampaaA0
import Derived.Test.YtnigpobbckampaaL
import Derived.Test.YtnigpobbckampaaM
import Derived.Test.YtnigpobbckampaaK
import Derived.Great.BuildSlice
import Derived.Maps.AppendAt
namespace Go.Proofs.Ytnigpobbckampaa
set_option linter.unusedSimpArgs false
set_option linter.unusedVariables false
open Go.RowKit Go.Shelf

theorem tab_box : (row 512 tabP).extract 256 512 = row 256 boxP := by
  have := row_part 512 256 256 tabP (by omega)
  rw [show (256 : Nat) + 256 = 512 from rfl] at this
  rw [this]
  exact row_congr fun j _ => by simp only [tabP]; rw [if_neg (by omega), Nat.add_sub_cancel_left]

theorem Blk.below {B : Nat} {w w' : World} {g : Nat} {t : TypeId} {cs : Array Value} (h : Blk w g t cs) (hb : Below B w w') (hg : g < B) : Blk w' g t cs := (hb.block g hg).trans h

theorem RdF.part {w : World} {g off n cap : Nat} {f : Nat → Nat} (h : RdF w (.slice (some ⟨g, off, none⟩) n cap) n f) (i m cap' : Nat) (hm : i + m ≤ n) (hc : m ≤ cap') :
    RdF w (.slice (some ⟨g, off + i, none⟩) m cap') m (fun j => f (i + j)) := by
  obtain ⟨ao, c, hv, _, _, hf⟩ := h
  cases hv
  refine ⟨_, _, rfl, hc, fun h => (by cases h), fun j hj => ?_⟩
  obtain ⟨h1, a, ha, h2⟩ := hf (i + j) (by omega)
  cases ha
  rw [Addr.add_lit] at h2
  refine ⟨h1, _, rfl, ?_⟩
  rw [Addr.add_lit, Nat.add_assoc]
  exact h2

theorem marks_ret {n : Nat} {fn : Func} {R : Ending → World → Prop} {tmps : Array Value} {w : World} {v : Value} (hv : (results fn tmps).run Try.prog w = .ok v w) (h : R (.returned v) w) :
    bodyPostM Fence.wide n Try.prog fn R .ret { tmps, defers := [] } w := ⟨v, hv, h⟩

theorem marks_retD {n D : Nat} {fn : Func} {R : Ending → World → Prop} {tmps : Array Value} {w : World} {v : Value} (hD : w.heap[D]? = some (.deferred (some [])))
    (hv : (results fn tmps).run Try.prog (w.putObj D (.deferred none)) = .ok v (w.putObj D (.deferred none))) (h : R (.returned v) (w.putObj D (.deferred none))) :
    bodyPostM Fence.wide n Try.prog fn R .ret { tmps, defers := [{ target := .collected D, args := #[] }] } w :=
  ⟨by simp, .inl ⟨_, _, rfl, run_takeDeferred hD, v, hv, h⟩⟩

section
variable {P : Program} {ops : Array Oper} {w0 : World} {T : Act → List (Tmp × (World → Prop)) → Prop} {o : Oper} {l : List Oper} {es : List Ent} {a : Act} {F : List (Tmp × (World → Prop))}

/-- A slice of one byte, new in the region. -/
def One (w0 : World) (x : Value) (v : Value) (w : World) : Prop := ∃ g, v = .slice (some ⟨g, 0, none⟩) 1 1 ∧ w0.heap.size ≤ g ∧ Blk w g 5 #[x]
theorem One.mono {w0 w w' : World} {x v : Value} (hx : Ext w w') (h : One w0 x v w) : One w0 x v w' := by
  obtain ⟨g, hv, hg, hb⟩ := h
  exact ⟨g, hv, hg, hb.ext hx⟩
theorem One.rd {w0 w : World} {n : Nat} {v : Value} (hn : n < 256) (h : One w0 (.int .u8 ((n : Nat) : Int)) v w) : RdF w v 1 (fun _ => n) := by
  obtain ⟨g, rfl, hg, hb⟩ := h
  refine ⟨_, _, rfl, Nat.le_refl _, fun h => (by cases h), fun i hi => ⟨hn, _, rfl, ?_⟩⟩
  obtain rfl : i = 0 := by omega
  rw [Addr.add_lit, hb.cell]
  simp
end

/-- A slice's tail, the call's own. -/
theorem OwnF.tail {w : World} {b g off cap n : Nat} {f : Nat → Nat} (h : OwnF w b (.slice (some ⟨g, off, none⟩) n cap) n f) (i : Nat) (hi : i ≤ n) (n' cap' : Nat) (hn : n' = n - i) (hc : cap' = cap - i) :
    OwnF w b (.slice (some ⟨g, off + i, none⟩) n' cap') n' (fun j => f (i + j)) := by
  subst hn hc
  rcases h with ⟨h, _⟩ | ⟨g', off', cap', t, cur, hv, hb, hB, hc, hs, hf⟩
  · cases h
  · cases hv
    refine .inr ⟨g, off + i, cap - i, t, cur, rfl, hb, hB, by omega, by omega, fun j hj => ?_⟩
    have := hf (i + j) (by omega)
    rw [Nat.add_assoc]
    exact this

theorem OwnF.stored1 {w : World} {b g off cap n : Nat} {f : Nat → Nat} (h : OwnF w b (.slice (some ⟨g, off, none⟩) n cap) n f) (j u : Nat) (hu : u < 256) (hj : j < n) :
    OwnF (w.setCell ⟨g, off + j, none⟩ (.int .u8 ((u : Nat) : Int))) b (.slice (some ⟨g, off, none⟩) n cap) n (upd f j u) := by
  rcases h with ⟨h, _⟩ | ⟨g', off', cap', t, cur, hv, hb, hB, hc, hs, hf⟩
  · cases h
  · cases hv
    exact OwnF.stored hb hB hc hs hf j u hu hj

set_option maxHeartbeats 400000 in
set_option maxRecDepth 100000 in
theorem new_bad (v : Value) (n : Nat) (f : Nat → Nat) (w : World) (h16 : n ≠ 16) (h32 : n ≠ 32) (hn : n ≤ 1000000) (hv : RdF w v n f) :
    Calls Try.prog 19 #[v] w fun e w' => e = .returned (.tuple #[.pointer none, .int .i64 2]) ∧ w = w' := by
  obtain ⟨ao, cap, rfl, hcap⟩ := hv.len
  clear hv
  refine callsIn_wide.1 (callsIn_of_wp_marks (n := 0) Try.func19 rfl trivial (wpIn_wide.2 ?_) rfl)
  simp only [Try.ntmps19, List.size_toArray, List.length_cons, List.length_nil, Nat.reduceAdd, Nat.reduceSub, Array.replicate_succ, Array.replicate_zero, List.push_toArray, List.append_toArray, List.nil_append, List.cons_append]
  have h1 : ¬ ((n : Nat) : Int) = 16 := by omega
  have h2 : ¬ ((n : Nat) : Int) = 32 := by omega
  go_wp2_with fail
  · exact marks_ret (by kernel_rfl) ⟨rfl, rfl⟩
  · have h : (((n : Nat) : Int) != 16) = false ∨ (((n : Nat) : Int) != 32) = false := by assumption
    exfalso
    rcases h with h | h
    · exact h1 (by simpa using h)
    · exact h2 (by simpa using h)

end Go.Proofs.Ytnigpobbckampaa
namespace Go.Proofs.Ytnigpobbckampaa
set_option linter.unusedSimpArgs false
set_option linter.unusedVariables false
open Go.RowKit Go.Shelf

theorem fold_get (vs : List Value) (off : Nat) : ∀ (k : Nat) (cells : Array Value) (i : Nat),
    ((vs.zipIdx k).foldl (fun (cs : Array Value) (p : Value × Nat) => cs.setIfInBounds (off + p.2) p.1) cells)[i]? = if off + k ≤ i ∧ i < off + k + vs.length ∧ i < cells.size then vs[i - (off + k)]? else cells[i]? := by
  induction vs with
  | nil => intro k cells i; simp; intro h1 h2; omega
  | cons v vs ih =>
    intro k cells i
    simp only [List.zipIdx_cons, List.foldl_cons]
    rw [ih, Array.size_setIfInBounds, List.length_cons, Array.getElem?_setIfInBounds]
    by_cases h1 : off + k ≤ i ∧ i < off + k + (vs.length + 1) ∧ i < cells.size
    · rw [if_pos h1]
      by_cases h2 : off + (k + 1) ≤ i
      · rw [if_pos (by omega), show i - (off + k) = (i - (off + (k + 1))) + 1 by omega, List.getElem?_cons_succ]
      · obtain rfl : i = off + k := by omega
        rw [if_neg (by omega), if_pos rfl, if_pos (by omega)]
        simp
    · rw [if_neg h1, if_neg (by omega)]
      split
      · rename_i h3
        subst h3
        have : ¬ off + k < cells.size := by omega
        rw [if_neg this, Array.getElem?_eq_none (by omega)]
      · rfl

theorem fold_size (vs : List Value) (off : Nat) : ∀ (k : Nat) (cells : Array Value),
    ((vs.zipIdx k).foldl (fun (cs : Array Value) (p : Value × Nat) => cs.setIfInBounds (off + p.2) p.1) cells).size = cells.size := by
  induction vs with
  | nil => intro k cells; rfl
  | cons v vs ih =>
    intro k cells
    simp only [List.zipIdx_cons, List.foldl_cons]
    rw [ih, Array.size_setIfInBounds]

theorem fill_one (place : Nat → Option (Nat × Nat)) (cells cs out : Array Value) (i off : Nat) (hp : place i = some (off, cs.size)) (hs : off + cs.size ≤ cells.size) (ho : out.size = cells.size)
    (hout : ∀ j, j < cells.size → out[j]? = if off ≤ j ∧ j < off + cs.size then cs[j - off]? else cells[j]?) : Instr.fill place cells [(i, .agg cs)] = some out := by
  have hlt : ¬ cells.size < off + cs.size := by omega
  have hf : Instr.fill place cells [(i, .agg cs)] = some (cs.zipIdx.foldl (fun cs (p : Value × Nat) => cs.setIfInBounds (off + p.2) p.1) cells) := by
    simp [Instr.fill, hp, Value.cells, hlt]
  rw [hf]
  congr 1
  apply Array.ext_getElem?
  intro j
  have h := fold_get cs.toList off 0 cells j
  rw [← Array.foldl_toList, Array.toList_zipIdx, h]
  by_cases hj : j < cells.size
  · rw [hout j hj]
    simp only [Nat.add_zero, Array.length_toList, Array.getElem?_toList]
    by_cases h2 : off ≤ j ∧ j < off + cs.size
    · rw [if_pos h2, if_pos (by omega)]
    · rw [if_neg h2, if_neg (by omega)]
  · rw [Array.getElem?_eq_none (by omega), if_neg (by omega), Array.getElem?_eq_none (by omega)]

theorem built54 (cs : Array Value) (hs : cs.size = 256) : Try.prog.built 54 [(1, .agg cs)] = some (#[.slice none 0 0] ++ cs) := by
  have h : ∀ l, Try.prog.built 54 l = Instr.fill (#[(0, 1), (1, 256)][·]?) (#[.slice none 0 0] ++ Array.replicate 256 (.int .u8 0)) l := fun l => by kernel_rfl
  rw [h]
  refine fill_one _ _ cs _ 1 1 (by rw [hs]; rfl) (by simp; omega) (by simp; omega) (fun j hj => ?_)
  simp at hj
  rw [Array.getElem?_append, Array.getElem?_append]
  simp only [List.size_toArray, List.length_cons, List.length_nil, Nat.zero_add]
  by_cases h1 : j < 1
  · rw [if_pos h1, if_neg (by omega), if_pos h1]
  · rw [if_neg h1, if_pos (by omega)]

theorem run_build54 (f : Nat → Nat) (w : World) : (Instr.build 54 #[(1, .agg (row 256 f))]).run Try.prog w = .ok (.agg (#[.slice none 0 0] ++ row 256 f)) w :=
  run_build w 54 _ _ (built54 _ (row_size _ _))

theorem info23 : (Try.prog.info? 23).map (fun i => (i.zero, i.size, i.bytes)) = some (some (.agg (Array.replicate 16 (.int .u8 0))), 16, 16) := by kernel_rfl

theorem run_one23 (f : Nat → Nat) (t : TypeId) (ht : Try.prog.underlying t = some (.slice 23)) (w : World) : (Instr.buildSlice t 1 #[(0, .agg (row 16 f))]).run Try.prog w = .ok (.slice (some ⟨w.heap.size, 0, none⟩) 1 1) (w.alloc (.cells (row 16 f) 23)) := by
  obtain ⟨i0, hi, hz0, hz1, hz2⟩ := info_parts info23
  refine run_buildSlice w t 23 1 _ _ i0 _ ht hi hz0 (by rw [hz1]; decide) (by rw [hz1]; decide) ?_
  rw [hz1]
  refine fill_one _ _ (row 16 f) _ 0 0 (by rw [row_size]) (by simp [row_size]) (by simp [row_size]) (fun j hj => ?_)
  simp at hj
  rw [if_pos (by rw [row_size]; omega), Nat.sub_zero]

/-- A slice of one array, new in the region. -/
def OneA (w0 : World) (cs : Array Value) (v : Value) (w : World) : Prop := ∃ g, v = .slice (some ⟨g, 0, none⟩) 1 1 ∧ w0.heap.size ≤ g ∧ Blk w g 23 cs
theorem OneA.mono {w0 w w' : World} {x : Array Value} {v : Value} (hx : Ext w w') (h : OneA w0 x v w) : OneA w0 x v w' := by
  obtain ⟨g, hv, hg, hb⟩ := h
  exact ⟨g, hv, hg, hb.ext hx⟩

/-- m arrays of 16 bytes of F, the call's own. -/
def KeysF (w : World) (base : Nat) (v : Value) (m : Nat) (F : Nat → Nat) : Prop := w.ownsRow base 23 16 v m (bs (m * 16) F)

theorem set_head (u v : Value) (r : Array Value) : (#[u] ++ r).setIfInBounds 0 v = #[v] ++ r := by
  apply Array.ext_getElem?
  intro i
  rw [Array.getElem?_setIfInBounds]
  by_cases h : 0 = i
  · subst h
    rw [if_pos rfl, if_pos (by simp; omega), Array.getElem?_append_left (by simp)]
    rfl
  · rw [if_neg h, Array.getElem?_append_right (by simp; omega), Array.getElem?_append_right (by simp; omega)]
    simp

theorem KeysF.nil (w : World) (base : Nat) (F : Nat → Nat) : KeysF w base (.slice none 0 0) 0 F := ⟨by simp [bs], .inl ⟨rfl, rfl⟩⟩

theorem KeysF.kept {w w' : World} {b m : Nat} {v : Value} {F : Nat → Nat} (h : KeysF w b v m F) (hk : ∀ r cs t f, b ≤ r → w.heap[r]? = some (.cells cs t f) → w'.heap[r]? = some (.cells cs t f)) : KeysF w' b v m F := by
  obtain ⟨hl, h⟩ := h
  refine ⟨hl, ?_⟩
  rcases h with h | ⟨g, cap, cur, hv, hb, hg, rest⟩
  · exact .inl h
  · exact .inr ⟨g, cap, cur, hv, hb, hk _ _ _ _ hb hg, rest⟩

theorem KeysF.ext {w w' : World} {b m : Nat} {v : Value} {F : Nat → Nat} (h : KeysF w b v m F) (hx : Ext w w') : KeysF w' b v m F := h.kept fun _ _ _ _ _ hr => hx.heap hr

theorem KeysF.grown {w w' : World} {b m : Nat} {v : Value} {F : Nat → Nat} {row : Option Nat} (h : KeysF w b v m F) (hg : w.grownBy w' row) (hr : ∀ r, row = some r → ∃ o : Obj, w.heap[r]? = some o ∧ o.isCells = false) : KeysF w' b v m F :=
  h.kept fun r cs t f _ he => (hg.block r (Array.getElem?_eq_some_iff.1 he).1 (fun e => by
    obtain ⟨o, ho, hc⟩ := hr r e.symm
    rw [he] at ho
    cases ho
    cases hc)).trans he

theorem KeysF.block {w : World} {b m : Nat} {v : Value} {F : Nat → Nat} (h : KeysF w b v m F) : ∀ r, v.ownBlock = some r → b ≤ r ∧ ∃ o : Obj, w.heap[r]? = some o ∧ o.isCells = true := by
  intro r hr
  rcases h.2 with ⟨rfl, _⟩ | ⟨g, cap, cur, rfl, hb, hg, rest⟩
  · cases hr
  · cases hr
    exact ⟨hb, _, hg, rfl⟩

theorem KeysF.form {w : World} {b m : Nat} {v : Value} {F : Nat → Nat} (h : KeysF w b v m F) (hm : 0 < m) : ∃ g cap, v = .slice (some ⟨g, 0, none⟩) m cap ∧ b ≤ g := by
  rcases h.2 with ⟨_, h0⟩ | ⟨g, cap, cur, hv, hb, rest⟩
  · omega
  · exact ⟨g, cap, hv, hb⟩

theorem cph_of_keys {w : World} {gc b m : Nat} {v : Value} {F : Nat → Nat} {ks : Nat → Nat → Nat} (hm : 0 < m) (h : KeysF w b v m F) (hc : Blk w gc 54 (#[v] ++ row 256 boxP)) (hks : ∀ i j, ks i j = F (i * 16 + j)) (hlt : ∀ i, i < m * 16 → F i < 256) : Cph w gc m ks := by
  rcases h.2 with ⟨_, h0⟩ | ⟨g, cap, cur, rfl, hb, hg, hle, _, hsz, ht⟩
  · omega
  · refine ⟨g, cap, cur, hc, hg, ?_, fun i hi j hj => ?_⟩
    · rw [hsz]; exact Nat.mul_le_mul_right _ hle
    · have h1 : i * 16 + j < m * 16 := by omega
      have h2 := bs_get (m * 16) F (i * 16 + j) h1
      rw [← ht, List.getElem?_take, if_pos h1] at h2
      rw [hks]
      exact ⟨by simpa using h2, hlt _ h1⟩

theorem run_appendK (w : World) (base : Nat) (ty : TypeId) (v x : Value) (m g : Nat) (F : Nat → Nat) (ho : KeysF w base v m F) (hx : x = .slice (some ⟨g, 0, none⟩) 1 1) (hB : Blk w g 23 (row 16 fun j => F (m * 16 + j))) (hb : base ≤ w.heap.size) (hm : m ≤ 1000) :
    ∃ v' w', (Builtin.append_ #[51, 51] ty #[v, x]).run Try.prog w = .ok v' w' ∧ KeysF w' base v' (m + 1) F ∧ w.grownBy w' v.ownBlock := by
  subst hx
  obtain ⟨i0, hi, hz0, hz1, hz2⟩ := info_parts info23
  have hnews : ∀ j u, (bs 16 fun j => F (m * 16 + j))[j]? = some u → w.cell? ((⟨g, 0, none⟩ : Addr).add j) = some u := by
    intro j u hj
    obtain ⟨hjm, rfl⟩ := bs_inv hj
    rw [Addr.add_lit, Nat.zero_add]
    exact hB.byte j hjm
  obtain ⟨v', w', hr, hown, hgr, _⟩ := run_append_own_at (P := Try.prog) w base 51 ty 23 i0 _ 16 16 Try.underlying51 hi hz0 hz1 hz2 (by simp [Value.cells]) (by decide) v m _ ho ⟨g, 0, none⟩ 1 1 (bs 16 fun j => F (m * 16 + j)) (by simp [bs_length]) hnews (bs_one _ _)
    (by unfold maxLen; omega) (by omega) hb
  refine ⟨v', w', hr, ?_, hgr⟩
  unfold KeysF
  rw [show (m + 1) * 16 = m * 16 + 16 by omega, ← bs_append (m * 16) 16 F (fun j => F (m * 16 + j)) F (fun _ _ => rfl) (fun _ _ => rfl)]
  exact hown

section
variable {ops : Array Oper} {rest : List Oper} {o : Oper} {a : Act} {w : World} {Q : Exit → Act → World → Prop}
theorem wp_appendK {K : Act → World → Prop} (s x : Operand) (hop : o.op = .call { callee := .builtin .append, args := #[s, x], argTypes := #[51, 51] }) (base : Nat) (v X : Value) (m g : Nat) (F : Nat → Nat)
    (hs : a.eval s = v) (hx : a.eval x = X) (ho : KeysF w base v m F) (hX : X = .slice (some ⟨g, 0, none⟩) 1 1) (hB : Blk w g 23 (row 16 fun j => F (m * 16 + j))) (hb : base ≤ w.heap.size) (hm : m ≤ 1000)
    (hK : ∀ v' w', KeysF w' base v' (m + 1) F → w.grownBy w' v.ownBlock → K (a.put o.dst v') w') : o.wp Try.prog a w K Q := by
  obtain ⟨v', w', hr, ho', hb'⟩ := run_appendK w base o.type v X m g F ho hX hB hb hm
  have := hK v' w' ho' hb'
  unfold Oper.wp
  simp [execOp, hop, resolve, invoke, builtin, hs, hx, hr, Result.andThen, Oper.upon]
  exact this
theorem wl_appendK (hgd : o.guard = none) (s x : Operand) (hop : o.op = .call { callee := .builtin .append, args := #[s, x], argTypes := #[51, 51] }) (base : Nat) (v X : Value) (m g : Nat) (F : Nat → Nat)
    (hs : a.eval s = v) (hx : a.eval x = X) (ho : KeysF w base v m F) (hX : X = .slice (some ⟨g, 0, none⟩) 1 1) (hB : Blk w g 23 (row 16 fun j => F (m * 16 + j))) (hb : base ≤ w.heap.size) (hm : m ≤ 1000)
    (hK : ∀ v' w', KeysF w' base v' (m + 1) F → w.grownBy w' v.ownBlock → wpList Try.prog ops Q rest (a.put o.dst v') w') : wpList Try.prog ops Q (o :: rest) a w :=
  wpList_plain hgd fun _ hK' => by
    obtain ⟨v', w', hr, ho', hb'⟩ := run_appendK w base o.type v X m g F ho hX hB hb hm
    have := hK' _ _ (hK v' w' ho' hb')
    unfold Oper.wp
    simp [execOp, hop, resolve, invoke, builtin, hs, hx, hr, Result.andThen, Oper.upon]
    exact this

theorem runs_load25 {R : Value} {g off : Nat} {x : Operand} (ho : o.op = .load 25 x) (hx : a.eval x = .pointer (some ⟨g, off, none⟩)) (hc : w.cell? ⟨g, off, none⟩ = some R) : runs Try.prog o a w (fun u w' => w' = w ∧ u = R) := by
  unfold runs execOp
  simp only [ho, hx]
  simp [go_sem, hc, runsUpon]
theorem wp_build54 {K : Act → World → Prop} (x : Operand) (ho : o.op = .build 54 #[(1, x)]) (f : Nat → Nat) (hx : a.eval x = .agg (row 256 f))
    (h : K (a.put o.dst (.agg (#[.slice none 0 0] ++ row 256 f))) w) : o.wp Try.prog a w K Q := by
  have hr := run_build54 f w
  unfold Oper.wp execOp
  simp only [ho, List.map_toArray, List.map_cons, List.map_nil, hx, Sem.run_bind, hr, Result.andThen_ok]
  exact h
theorem wl_build54 (hgd : o.guard = none) (x : Operand) (ho : o.op = .build 54 #[(1, x)]) (f : Nat → Nat) (hx : a.eval x = .agg (row 256 f))
    (h : wpList Try.prog ops Q rest (a.put o.dst (.agg (#[.slice none 0 0] ++ row 256 f))) w) : wpList Try.prog ops Q (o :: rest) a w :=
  wpList_plain hgd fun _ hK => wp_build54 x ho f hx (hK _ _ h)
theorem wp_one23 {K : Act → World → Prop} (t : TypeId) (ht : Try.prog.underlying t = some (.slice 23)) (x : Operand) (ho : o.op = .buildSlice t 1 #[(0, x)]) (f : Nat → Nat) (hx : a.eval x = .agg (row 16 f))
    (h : K (a.put o.dst (.slice (some ⟨w.heap.size, 0, none⟩) 1 1)) (w.alloc (.cells (row 16 f) 23))) : o.wp Try.prog a w K Q := by
  have hr := run_one23 f t ht w
  unfold Oper.wp execOp
  simp only [ho, List.map_toArray, List.map_cons, List.map_nil, hx, Sem.run_bind, hr, Result.andThen_ok]
  exact h
end

end Go.Proofs.Ytnigpobbckampaa
