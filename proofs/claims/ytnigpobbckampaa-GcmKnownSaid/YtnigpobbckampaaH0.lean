/- The document's growth of a key: rows of four bytes, appended; the next word. For the document's New: its cipher's cells. -/
import Derived.Test.YtnigpobbckampaaE0
import Derived.Test.YtnigpobbckampaaG4
namespace Go.Proofs.Ytnigpobbckampaa
open Go.RowKit Go.Shelf
set_option linter.unusedSimpArgs false
set_option linter.unusedVariables false

theorem agg80 (w : World) : (isAgg 80).run Try.prog w = .ok true w := by kernel_rfl
theorem sz80 (w : World) : (sizeOf 80).run Try.prog w = .ok 4 w := by kernel_rfl
theorem zero80 (w : World) : (zeroValue 80).run Try.prog w = .ok (.agg (row 4 fun _ => 0)) w := by kernel_rfl
theorem info80 : (Try.prog.info? 80).map (fun i => (i.zero, i.size, i.bytes)) = some (some (.agg (Array.replicate 4 (.int .u8 0))), 4, 4) := by kernel_rfl

theorem run_one80 (f : Nat → Nat) (w : World) : (Instr.buildSlice 79 1 #[(0, .agg (row 4 f))]).run Try.prog w = .ok (.slice (some ⟨w.heap.size, 0, none⟩) 1 1) (w.alloc (.cells (row 4 f) 80)) := by
  obtain ⟨i0, hi, hz0, hz1, hz2⟩ := info_parts info80
  refine run_buildSlice w 79 80 1 _ _ i0 _ Try.underlying79 hi hz0 (by rw [hz1]; decide) (by rw [hz1]; decide) ?_
  rw [hz1]
  refine fill_one _ _ (row 4 f) _ 0 0 (by rw [row_size]) (by simp [row_size]) (by simp [row_size]) (fun j hj => ?_)
  simp at hj
  rw [if_pos (by rw [row_size]; omega), Nat.sub_zero]

/-- A slice of one word, new in the region. -/
def OneW (w0 : World) (cs : Array Value) (v : Value) (w : World) : Prop := ∃ g, v = .slice (some ⟨g, 0, none⟩) 1 1 ∧ w0.heap.size ≤ g ∧ Blk w g 80 cs
theorem OneW.mono {w0 w w' : World} {x : Array Value} {v : Value} (hx : Ext w w') (h : OneW w0 x v w) : OneW w0 x v w' := by
  obtain ⟨g, hv, hg, hb⟩ := h
  exact ⟨g, hv, hg, hb.ext hx⟩

/-- m words of F, the call's own. -/
def WordsF (w : World) (base : Nat) (v : Value) (m : Nat) (F : Nat → Nat) : Prop := w.ownsRow base 80 4 v m (bs (m * 4) F)
theorem WordsF.nil (w : World) (base : Nat) (F : Nat → Nat) : WordsF w base (.slice none 0 0) 0 F := ⟨by simp [bs], .inl ⟨rfl, rfl⟩⟩
theorem WordsF.kept {w w' : World} {b m : Nat} {v : Value} {F : Nat → Nat} (h : WordsF w b v m F) (hk : ∀ r cs t f, b ≤ r → w.heap[r]? = some (.cells cs t f) → w'.heap[r]? = some (.cells cs t f)) : WordsF w' b v m F := by
  obtain ⟨hl, h⟩ := h
  refine ⟨hl, ?_⟩
  rcases h with h | ⟨g, cap, cur, hv, hb, hg, rest⟩
  · exact .inl h
  · exact .inr ⟨g, cap, cur, hv, hb, hk _ _ _ _ hb hg, rest⟩
theorem WordsF.ext {w w' : World} {b m : Nat} {v : Value} {F : Nat → Nat} (h : WordsF w b v m F) (hx : Ext w w') : WordsF w' b v m F := h.kept fun _ _ _ _ _ hr => hx.heap hr
/-- Written out. -/
theorem WordsF.form {w : World} {b m : Nat} {v : Value} {F : Nat → Nat} (h : WordsF w b v m F) (hm : 0 < m) :
    ∃ g cap cur, v = .slice (some ⟨g, 0, none⟩) m cap ∧ b ≤ g ∧ Blk w g 80 cur ∧ m ≤ cap ∧ m * 4 ≤ cur.size ∧ ∀ i, i < m * 4 → cur[i]? = some (.int .u8 ((F i : Nat) : Int)) := by
  rcases h.2 with ⟨_, h0⟩ | ⟨g, cap, cur, hv, hb, hg, hle, _, hsz, ht⟩
  · omega
  · refine ⟨g, cap, cur, hv, hb, hg, hle, by rw [hsz]; exact Nat.mul_le_mul_right _ hle, fun i hi => ?_⟩
    have h2 := bs_get (m * 4) F i hi
    rw [← ht, List.getElem?_take, if_pos hi] at h2
    simpa using h2

theorem run_appendW (w : World) (base : Nat) (ty : TypeId) (v x : Value) (m g : Nat) (F : Nat → Nat) (ho : WordsF w base v m F) (hx : x = .slice (some ⟨g, 0, none⟩) 1 1) (hB : Blk w g 80 (row 4 fun j => F (m * 4 + j))) (hb : base ≤ w.heap.size) (hm : m ≤ 1000) :
    ∃ v' w', (Builtin.append_ #[79, 79] ty #[v, x]).run Try.prog w = .ok v' w' ∧ WordsF w' base v' (m + 1) F ∧ w.grownBy w' v.ownBlock := by
  subst hx
  obtain ⟨i0, hi, hz0, hz1, hz2⟩ := info_parts info80
  have hnews : ∀ j u, (bs 4 fun j => F (m * 4 + j))[j]? = some u → w.cell? ((⟨g, 0, none⟩ : Addr).add j) = some u := by
    intro j u hj
    obtain ⟨hjm, rfl⟩ := bs_inv hj
    rw [Addr.add_lit, Nat.zero_add]
    exact hB.byte j hjm
  obtain ⟨v', w', hr, hown, hgr, _⟩ := run_append_own_at (P := Try.prog) w base 79 ty 80 i0 _ 4 4 Try.underlying79 hi hz0 hz1 hz2 (by simp [Value.cells]) (by decide) v m _ ho ⟨g, 0, none⟩ 1 1 (bs 4 fun j => F (m * 4 + j)) (by simp [bs_length]) hnews (bs_one _ _)
    (by unfold maxLen; omega) (by omega) hb
  refine ⟨v', w', hr, ?_, hgr⟩
  unfold WordsF
  rw [show (m + 1) * 4 = m * 4 + 4 by omega, ← bs_append (m * 4) 4 F (fun j => F (m * 4 + j)) F (fun _ _ => rfl) (fun _ _ => rfl)]
  exact hown

section
variable {ops : Array Oper} {rest : List Oper} {o : Oper} {a : Act} {w : World} {Q : Exit → Act → World → Prop}
theorem wp_appendW {K : Act → World → Prop} (s x : Operand) (hop : o.op = .call { callee := .builtin .append, args := #[s, x], argTypes := #[79, 79] }) (base : Nat) (v X : Value) (m g : Nat) (F : Nat → Nat)
    (hs : a.eval s = v) (hx : a.eval x = X) (ho : WordsF w base v m F) (hX : X = .slice (some ⟨g, 0, none⟩) 1 1) (hB : Blk w g 80 (row 4 fun j => F (m * 4 + j))) (hb : base ≤ w.heap.size) (hm : m ≤ 1000)
    (hK : ∀ v' w', WordsF w' base v' (m + 1) F → w.grownBy w' v.ownBlock → K (a.put o.dst v') w') : o.wp Try.prog a w K Q := by
  obtain ⟨v', w', hr, ho', hb'⟩ := run_appendW w base o.type v X m g F ho hX hB hb hm
  have := hK v' w' ho' hb'
  unfold Oper.wp
  simp [execOp, hop, resolve, invoke, builtin, hs, hx, hr, Result.andThen, Oper.upon]
  exact this
theorem wl_appendW (hgd : o.guard = none) (s x : Operand) (hop : o.op = .call { callee := .builtin .append, args := #[s, x], argTypes := #[79, 79] }) (base : Nat) (v X : Value) (m g : Nat) (F : Nat → Nat)
    (hs : a.eval s = v) (hx : a.eval x = X) (ho : WordsF w base v m F) (hX : X = .slice (some ⟨g, 0, none⟩) 1 1) (hB : Blk w g 80 (row 4 fun j => F (m * 4 + j))) (hb : base ≤ w.heap.size) (hm : m ≤ 1000)
    (hK : ∀ v' w', WordsF w' base v' (m + 1) F → w.grownBy w' v.ownBlock → wpList Try.prog ops Q rest (a.put o.dst v') w') : wpList Try.prog ops Q (o :: rest) a w :=
  wpList_plain hgd fun _ hK' => wp_appendW s x hop base v X m g F hs hx ho hX hB hb hm (fun v' w' h1 h2 => hK' _ _ (hK v' w' h1 h2))
theorem wp_one80 {K : Act → World → Prop} (x : Operand) (ho : o.op = .buildSlice 79 1 #[(0, x)]) (f : Nat → Nat) (hx : a.eval x = .agg (row 4 f))
    (h : K (a.put o.dst (.slice (some ⟨w.heap.size, 0, none⟩) 1 1)) (w.alloc (.cells (row 4 f) 80))) : o.wp Try.prog a w K Q := by
  have hr := run_one80 f w
  unfold Oper.wp execOp
  simp only [ho, List.map_toArray, List.map_cons, List.map_nil, hx, Sem.run_bind, hr, Result.andThen_ok]
  exact h
theorem wl_one80 (hgd : o.guard = none) (x : Operand) (ho : o.op = .buildSlice 79 1 #[(0, x)]) (f : Nat → Nat) (hx : a.eval x = .agg (row 4 f))
    (h : wpList Try.prog ops Q rest (a.put o.dst (.slice (some ⟨w.heap.size, 0, none⟩) 1 1)) (w.alloc (.cells (row 4 f) 80))) : wpList Try.prog ops Q (o :: rest) a w :=
  wpList_plain hgd fun _ hK => wp_one80 x ho f hx (hK _ _ h)
end

theorem build80 (a b c d : Nat) (w : World) : (Instr.build 80 #[(0, .int .u8 (a : Int)), (1, .int .u8 (b : Int)), (2, .int .u8 (c : Int)), (3, .int .u8 (d : Int))]).run Try.prog w = .ok (.agg #[.int .u8 (a : Int), .int .u8 (b : Int), .int .u8 (c : Int), .int .u8 (d : Int)]) w := by kernel_rfl
theorem row4 (f : Nat → Nat) : row 4 f = #[.int .u8 ((f 0 : Nat) : Int), .int .u8 ((f 1 : Nat) : Int), .int .u8 ((f 2 : Nat) : Int), .int .u8 ((f 3 : Nat) : Int)] := rfl
end Go.Proofs.Ytnigpobbckampaa
namespace Go.Proofs.Ytnigpobbckampaa
open Go.RowKit Go.Shelf
set_option linter.unusedSimpArgs false
set_option linter.unusedVariables false

theorem built78 (cs : Array Value) (hs : cs.size = 256) : Try.prog.built 78 [(1, .agg cs)] = some (#[.slice none 0 0] ++ cs) := by
  have h : ∀ l, Try.prog.built 78 l = Instr.fill (#[(0, 1), (1, 256)][·]?) (#[.slice none 0 0] ++ Array.replicate 256 (.int .u8 0)) l := fun l => by kernel_rfl
  rw [h]
  refine fill_one _ _ cs _ 1 1 (by rw [hs]; rfl) (by simp; omega) (by simp; omega) (fun j hj => ?_)
  simp at hj
  rw [Array.getElem?_append, Array.getElem?_append]
  simp only [List.size_toArray, List.length_cons, List.length_nil, Nat.zero_add]
  by_cases h1 : j < 1
  · rw [if_pos h1, if_neg (by omega), if_pos h1]
  · rw [if_neg h1, if_pos (by omega)]
theorem run_build78 (f : Nat → Nat) (w : World) : (Instr.build 78 #[(1, .agg (row 256 f))]).run Try.prog w = .ok (.agg (#[.slice none 0 0] ++ row 256 f)) w :=
  run_build w 78 _ _ (built78 _ (row_size _ _))
theorem wl_build78 {ops : Array Oper} {rest : List Oper} {o : Oper} {a : Act} {w : World} {Q : Exit → Act → World → Prop} (hgd : o.guard = none) (x : Operand) (ho : o.op = .build 78 #[(1, x)]) (f : Nat → Nat) (hx : a.eval x = .agg (row 256 f))
    (h : wpList Try.prog ops Q rest (a.put o.dst (.agg (#[.slice none 0 0] ++ row 256 f))) w) : wpList Try.prog ops Q (o :: rest) a w :=
  wpList_plain hgd fun _ hK => by
    have hr := run_build78 f w
    unfold Oper.wp execOp
    simp only [ho, List.map_toArray, List.map_cons, List.map_nil, hx, Sem.run_bind, hr, Result.andThen_ok]
    exact hK _ _ h
theorem WordsF.block {w : World} {b m : Nat} {v : Value} {F : Nat → Nat} (h : WordsF w b v m F) : ∀ r, v.ownBlock = some r → b ≤ r ∧ ∃ o : Obj, w.heap[r]? = some o ∧ o.isCells = true := by
  intro r hr
  rcases h.2 with ⟨rfl, _⟩ | ⟨g, cap, cur, rfl, hb, hg, rest⟩
  · cases hr
  · cases hr
    exact ⟨hb, _, hg, rfl⟩
theorem WordsF.congr {w : World} {b m : Nat} {v : Value} {F G : Nat → Nat} (h : WordsF w b v m F) (he : ∀ i, i < m * 4 → F i = G i) : WordsF w b v m G := by
  have : bs (m * 4) G = bs (m * 4) F := by
    apply List.ext_getElem?
    intro j
    by_cases hj : j < m * 4
    · rw [bs_get _ _ _ hj, bs_get _ _ _ hj, he j hj]
    · rw [List.getElem?_eq_none (by rw [bs_length]; omega), List.getElem?_eq_none (by rw [bs_length]; omega)]
  unfold WordsF
  rw [this]
  exact h
theorem head_part (v : Value) (f : Nat → Nat) : (#[v] ++ row 256 f).extract 1 (1 + 256) = row 256 f := by
  apply Array.ext_getElem?
  intro i
  rw [Array.getElem?_extract]
  by_cases h : i < 256
  · rw [if_pos (by simp [row_size]; omega), Array.getElem?_append_right (by simp)]
    simp
  · rw [if_neg (by simp [row_size]; omega), Array.getElem?_eq_none (by rw [row_size]; omega)]
theorem cphR_of_keys {w : World} {gc b m : Nat} {v : Value} {F : Nat → Nat} {ks : Nat → Nat → Nat} (hm : 0 < m) (h : KeysF w b v m F) (hc : Blk w gc 78 (#[v] ++ row 256 boxP)) (hks : ∀ i j, ks i j = F (i * 16 + j)) (hlt : ∀ i, i < m * 16 → F i < 256) : CphR w gc m ks := by
  rcases h.2 with ⟨_, h0⟩ | ⟨g, cap, cur, rfl, hb, hg, hle, _, hsz, ht⟩
  · omega
  · refine ⟨g, cap, cur, hc, hg, ?_, fun i hi j hj => ?_⟩
    · rw [hsz]; exact Nat.mul_le_mul_right _ hle
    · have h1 : i * 16 + j < m * 16 := by omega
      have h2 := bs_get (m * 16) F (i * 16 + j) h1
      rw [← ht, List.getElem?_take, if_pos h1] at h2
      rw [hks]
      exact ⟨by simpa using h2, hlt _ h1⟩
theorem mulP_two : ∀ p, p < 256 → mulP p 2 = dbl p := by
  have h : ((List.range 256).all fun p => mulP p 2 == dbl p) = true := by kernel_rfl
  intro p hp
  have := List.all_eq_true.1 h p (List.mem_range.2 hp)
  simpa using this
theorem runs_move {o : Oper} {a : Act} {w : World} {R : Value} {x : Operand} (ho : o.op = .move x) (hx : a.eval x = R) : runs Try.prog o a w (fun u w' => w' = w ∧ u = R) := by
  unfold runs execOp
  simp only [ho, hx]
  exact ⟨rfl, rfl⟩
def lenOf : Value → Nat
  | .slice _ n _ => n
  | _ => 0
end Go.Proofs.Ytnigpobbckampaa
