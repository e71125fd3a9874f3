/- Slices of bytes, by what they read as: RdF (read alone), OwnF (the call's own, to be appended to and written). -/
import Derived.Test.YtnigpobbckampaaL
namespace Go.Proofs.Ytnigpobbckampaa
set_option linter.unusedSimpArgs false
set_option linter.unusedVariables false
open Go.RowKit

/-- v is a slice of n bytes f. -/
def RdF (w : World) (v : Value) (n : Nat) (f : Nat → Nat) : Prop :=
  ∃ ao cap, v = .slice ao n cap ∧ n ≤ cap ∧ (ao = none → cap = 0) ∧ ∀ i, i < n → f i < 256 ∧ ∃ a, ao = some a ∧ w.cell? (a.add i) = some (.int .u8 ((f i : Nat) : Int))

/-- v is a slice of n bytes f that lies in a block from base on, the spare cells with it; or nil. -/
def OwnF (w : World) (base : Nat) (v : Value) (n : Nat) (f : Nat → Nat) : Prop :=
  (v = .slice none 0 0 ∧ n = 0) ∨
  ∃ g off cap t cur, v = .slice (some ⟨g, off, none⟩) n cap ∧ base ≤ g ∧ Blk w g t cur ∧ n ≤ cap ∧ off + cap ≤ cur.size ∧ ∀ i, i < n → f i < 256 ∧ cur[off + i]? = some (.int .u8 ((f i : Nat) : Int))

theorem RdF.ext {w w' : World} {v : Value} {n : Nat} {f : Nat → Nat} (h : RdF w v n f) (hx : Ext w w') : RdF w' v n f := by
  obtain ⟨ao, cap, hv, hc, hn, hf⟩ := h
  refine ⟨ao, cap, hv, hc, hn, fun i hi => ?_⟩
  obtain ⟨h1, a, ha, h2⟩ := hf i hi
  exact ⟨h1, a, ha, hx.cell h2⟩
theorem OwnF.ext {w w' : World} {b : Nat} {v : Value} {n : Nat} {f : Nat → Nat} (h : OwnF w b v n f) (hx : Ext w w') : OwnF w' b v n f := by
  rcases h with h | ⟨g, off, cap, t, cur, hv, hb, hB, rest⟩
  · exact .inl h
  · exact .inr ⟨g, off, cap, t, cur, hv, hb, hB.ext hx, rest⟩
theorem OwnF.mono {w : World} {b b' : Nat} {v : Value} {n : Nat} {f : Nat → Nat} (h : OwnF w b v n f) (hb : b' ≤ b) : OwnF w b' v n f := by
  rcases h with h | ⟨g, off, cap, t, cur, hv, hg, rest⟩
  · exact .inl h
  · exact .inr ⟨g, off, cap, t, cur, hv, Nat.le_trans hb hg, rest⟩
theorem OwnF.congr {w : World} {b : Nat} {v : Value} {n : Nat} {f h : Nat → Nat} (ho : OwnF w b v n f) (he : ∀ i, i < n → h i = f i) : OwnF w b v n h := by
  rcases ho with ho | ⟨g, off, cap, t, cur, hv, hb, hB, hc, hs, hf⟩
  · exact .inl ho
  · exact .inr ⟨g, off, cap, t, cur, hv, hb, hB, hc, hs, fun i hi => by rw [he i hi]; exact hf i hi⟩
theorem RdF.congr {w : World} {v : Value} {n : Nat} {f h : Nat → Nat} (ho : RdF w v n f) (he : ∀ i, i < n → h i = f i) : RdF w v n h := by
  obtain ⟨ao, cap, hv, hc, hn, hf⟩ := ho
  exact ⟨ao, cap, hv, hc, hn, fun i hi => by rw [he i hi]; exact hf i hi⟩
theorem OwnF.rd {w : World} {b : Nat} {v : Value} {n : Nat} {f : Nat → Nat} (h : OwnF w b v n f) : RdF w v n f := by
  rcases h with ⟨rfl, rfl⟩ | ⟨g, off, cap, t, cur, rfl, hb, hB, hc, hs, hf⟩
  · exact ⟨none, 0, rfl, Nat.le_refl _, fun _ => rfl, fun i hi => absurd hi (Nat.not_lt_zero _)⟩
  · refine ⟨some ⟨g, off, none⟩, cap, rfl, hc, fun h => (by cases h), fun i hi => ⟨(hf i hi).1, _, rfl, ?_⟩⟩
    rw [Addr.add_lit, hB.cell]
    exact (hf i hi).2

/-- Written out, where there is an element. -/
theorem RdF.form {w : World} {v : Value} {n : Nat} {f : Nat → Nat} (h : RdF w v n f) (hn : 0 < n) :
    ∃ g off cap, v = .slice (some ⟨g, off, none⟩) n cap ∧ n ≤ cap ∧ ∀ i, i < n → f i < 256 ∧ w.cell? ⟨g, off + i, none⟩ = some (.int .u8 ((f i : Nat) : Int)) := by
  obtain ⟨ao, cap, hv, hc, _, hf⟩ := h
  obtain ⟨_, a, ha, h0⟩ := hf 0 hn
  subst ha
  obtain ⟨g, off, spot⟩ := a
  have hs : spot = none := by
    cases spot with
    | none => rfl
    | some s =>
      simp only [Addr.add, if_true, World.cell?] at h0
      split at h0 <;> simp at h0
  subst hs
  refine ⟨g, off, cap, hv, hc, fun i hi => ?_⟩
  obtain ⟨h1, a, ha, h2⟩ := hf i hi
  obtain rfl := Option.some.inj ha
  rw [Addr.add_lit] at h2
  exact ⟨h1, h2⟩
theorem RdF.len {w : World} {v : Value} {n : Nat} {f : Nat → Nat} (h : RdF w v n f) : ∃ ao cap, v = .slice ao n cap ∧ n ≤ cap := by
  obtain ⟨ao, cap, hv, hc, _⟩ := h
  exact ⟨ao, cap, hv, hc⟩
theorem RdF.lt {w : World} {v : Value} {n : Nat} {f : Nat → Nat} (h : RdF w v n f) : ∀ i, i < n → f i < 256 := by
  obtain ⟨_, _, _, _, _, hf⟩ := h
  exact fun i hi => (hf i hi).1
theorem OwnF.lt {w : World} {b : Nat} {v : Value} {n : Nat} {f : Nat → Nat} (h : OwnF w b v n f) : ∀ i, i < n → f i < 256 := h.rd.lt

theorem OwnF.form {w : World} {b : Nat} {v : Value} {n : Nat} {f : Nat → Nat} (h : OwnF w b v n f) (hn : 0 < n) :
    ∃ g off cap t cur, v = .slice (some ⟨g, off, none⟩) n cap ∧ b ≤ g ∧ Blk w g t cur ∧ n ≤ cap ∧ off + cap ≤ cur.size ∧ ∀ i, i < n → f i < 256 ∧ cur[off + i]? = some (.int .u8 ((f i : Nat) : Int)) := by
  rcases h with ⟨rfl, rfl⟩ | h
  · omega
  · exact h

/-- A byte of it written. -/
theorem OwnF.stored {w : World} {b g off cap t : Nat} {cur : Array Value} {n : Nat} {f : Nat → Nat} (hb : b ≤ g) (hB : Blk w g t cur) (hc : n ≤ cap) (hs : off + cap ≤ cur.size)
    (hf : ∀ i, i < n → f i < 256 ∧ cur[off + i]? = some (.int .u8 ((f i : Nat) : Int))) (j u : Nat) (hu : u < 256) (hj : j < n) :
    OwnF (w.setCell ⟨g, off + j, none⟩ (.int .u8 ((u : Nat) : Int))) b (.slice (some ⟨g, off, none⟩) n cap) n (upd f j u) := by
  refine .inr ⟨g, off, cap, t, cur.setIfInBounds (off + j) (.int .u8 ((u : Nat) : Int)), rfl, hb, hB.set _ _, hc, by simpa using hs, fun i hi => ?_⟩
  rw [Array.getElem?_setIfInBounds]
  by_cases h : i = j
  · subst h
    rw [upd_same, if_pos rfl, if_pos (by omega)]
    exact ⟨hu, rfl⟩
  · rw [upd_other _ _ _ _ h, if_neg (by omega)]
    exact hf i hi

def bs (n : Nat) (f : Nat → Nat) : List Value := (List.range n).map fun i => Value.int .u8 ((f i : Nat) : Int)
theorem bs_length (n : Nat) (f : Nat → Nat) : (bs n f).length = n := by simp [bs]
theorem bs_get (n : Nat) (f : Nat → Nat) (i : Nat) (h : i < n) : (bs n f)[i]? = some (.int .u8 ((f i : Nat) : Int)) := by simp [bs, h]
theorem bs_inv {n : Nat} {f : Nat → Nat} {i : Nat} {u : Value} (h : (bs n f)[i]? = some u) : i < n ∧ u = .int .u8 ((f i : Nat) : Int) := by
  have h1 : i < n := by have := (List.getElem?_eq_some_iff.1 h).1; rwa [bs_length] at this
  rw [bs_get n f i h1] at h
  exact ⟨h1, (Option.some.inj h).symm⟩
theorem bs_one (n : Nat) (f : Nat → Nat) : ∀ u ∈ bs n f, u.oneCell' = true := by
  intro u hu
  obtain ⟨i, _, rfl⟩ := List.mem_map.1 hu
  rfl

theorem info5 : (Try.prog.info? 5).map (fun i => (i.zero, i.size, i.bytes)) = some (some (.int .u8 0), 1, 1) := by kernel_rfl

theorem own_of_row {w : World} {base : Nat} {v : Value} {n : Nat} {f : Nat → Nat} (hf : ∀ i, i < n → f i < 256) (h : w.ownsRow base 5 1 v n (bs n f)) : OwnF w base v n f := by
  rcases h.2 with ⟨rfl, rfl⟩ | ⟨g, cap, cur, rfl, hb, hg, hc, _, hs, ht⟩
  · exact .inl ⟨rfl, rfl⟩
  · refine .inr ⟨g, 0, cap, 5, cur, rfl, hb, hg, hc, by omega, fun i hi => ⟨hf i hi, ?_⟩⟩
    have h1 := bs_get n f i hi
    rw [← ht, List.getElem?_take, if_pos (by omega)] at h1
    simpa using h1

theorem bs_append (n m : Nat) (f s h : Nat → Nat) (h1 : ∀ i, i < n → h i = f i) (h2 : ∀ j, j < m → h (n + j) = s j) : bs n f ++ bs m s = bs (n + m) h := by
  apply List.ext_getElem?
  intro i
  rw [List.getElem?_append, bs_length]
  split
  · rename_i hi
    rw [bs_get _ _ _ hi, bs_get _ _ _ (by omega), h1 i hi]
  · rename_i hi
    by_cases hm : i - n < m
    · rw [bs_get _ _ _ hm, bs_get _ _ _ (by omega), ← h2 _ hm, show n + (i - n) = i by omega]
    · rw [List.getElem?_eq_none (by rw [bs_length]; omega), List.getElem?_eq_none (by rw [bs_length]; omega)]

theorem Below.grownF {B : Nat} {w w' : World} {row : Option Nat} (hg : w.grownBy w' row) (hB : B ≤ w.heap.size) (hr : ∀ k, row = some k → B ≤ k) : Below B w w' := (Below.refl B w).grown hg hB hr

/-- append(v, x...): v the call's own, x any slice of bytes. -/
theorem run_appendF (w : World) (base : Nat) (ty : TypeId) (v x : Value) (n m : Nat) (f s h : Nat → Nat) (ho : OwnF w base v n f) (hx : RdF w x m s) (hb : base ≤ w.heap.size) (hnm : n + m ≤ 140737488355328)
    (h1 : ∀ i, i < n → h i = f i) (h2 : ∀ j, j < m → h (n + j) = s j) :
    ∃ v' w', (Builtin.append_ #[22, 22] ty #[v, x]).run Try.prog w = .ok v' w' ∧ OwnF w' base v' (n + m) h ∧ Below base w w' := by
  obtain ⟨i0, hi, hz0, hz1, hz2⟩ := info_parts info5
  have hlt : ∀ i, i < n + m → h i < 256 := by
    intro i hi
    by_cases hin : i < n
    · rw [h1 i hin]; exact ho.lt i hin
    · have := h2 (i - n) (by omega)
      rw [show n + (i - n) = i by omega] at this
      rw [this]; exact hx.lt _ (by omega)
  by_cases hm : m = 0
  · -- nothing is appended
    subst hm
    obtain ⟨ao, cap, rfl, _⟩ := hx.len
    have hfc : ∀ ao, (Builtin.firstCells 1 0 (.slice ao 0 cap)).run Try.prog w = .ok #[] w := by
      intro ao
      cases ao with
      | none => exact run_firstCells_none w 1 0 0 cap
      | some a => exact run_firstCells_some (P := Try.prog) w 1 0 a 0 cap [] rfl (fun j v hv => by simp at hv)
    refine ⟨v, w, ?_, ho.congr h1, Below.refl _ _⟩
    rcases ho with ⟨rfl, rfl⟩ | ⟨g, off, cap', t, cur, rfl, _, _, hc, _⟩
    · simp [Builtin.append_, run_underlying Try.underlying22, sizeOf, typeInfo, hi, hz1, Builtin.lenOf, hfc]
    · simp [Builtin.append_, run_underlying Try.underlying22, sizeOf, typeInfo, hi, hz1, Builtin.lenOf, hfc, hc, storeCells]
  · obtain ⟨gs, os, cs, rfl, hcs, hcell⟩ := hx.form (by omega)
    have hnews : ∀ j u, (bs m s)[j]? = some u → w.cell? ((⟨gs, os, none⟩ : Addr).add j) = some u := by
      intro j u hj
      obtain ⟨hjm, rfl⟩ := bs_inv hj
      rw [Addr.add_lit]
      exact (hcell j hjm).2
    rcases ho with ⟨rfl, rfl⟩ | ⟨g, off, cap, t, cur, rfl, hg, hB, hc, hsz, hf⟩
    · obtain ⟨v', w', hr, hown, hgr, _⟩ := run_append_own (P := Try.prog) w base 22 ty 5 i0 (.int .u8 0) 1 1 Try.underlying22 hi hz0 hz1 hz2 rfl (by decide) (.slice none 0 0) 0 [] (World.ownsRow_nil _ _ _ _) ⟨gs, os, none⟩ m cs (bs m s) (by simp [bs_length]) hnews (bs_one _ _)
        (by unfold maxLen; omega) (by omega) hb
      refine ⟨v', w', hr, ?_, Below.grownF hgr hb (fun k hk => by cases hk)⟩
      have e : ([] : List Value) ++ bs m s = bs (0 + m) h := bs_append 0 m f s h h1 h2
      rw [e] at hown
      exact own_of_row hlt hown
    · by_cases hroom : n + m ≤ cap
      · have hst := run_storeCells_at Try.prog g (off + n) t (bs m s) 0 cur w hB (by rw [bs_length]; omega) (bs_one _ _)
        simp only [Nat.add_zero] at hst
        have hfc := run_firstCells_some (P := Try.prog) w 1 m ⟨gs, os, none⟩ m cs (bs m s) (by simp [bs_length]) hnews
        have hr : (Builtin.append_ #[22, 22] ty #[.slice (some ⟨g, off, none⟩) n cap, .slice (some ⟨gs, os, none⟩) m cs]).run Try.prog w = .ok (.slice (some ⟨g, off, none⟩) (n + m) cap) (w.setRow g (cur.toList.take (off + n) ++ bs m s ++ cur.toList.drop (off + n + (bs m s).length)).toArray) := by
          simp [Builtin.append_, run_underlying Try.underlying22, sizeOf, typeInfo, hi, hz1, Builtin.lenOf, hroom, hfc, Addr.add_lit, hst]
        refine ⟨_, _, hr, ?_, below_setRow (Below.refl _ _) hg _⟩
        refine .inr ⟨g, off, cap, t, _, rfl, hg, hB.setRow _, hroom, ?_, fun i hi' => ⟨hlt i hi', ?_⟩⟩
        · simp [bs_length]; omega
        · have hl := lay_get cur (off + n) (bs m s).toArray (by simp [bs_length]; omega) (off + i)
          unfold lay at hl
          simp only [List.size_toArray] at hl
          rw [hl]
          simp only [bs_length]
          by_cases hin : i < n
          · rw [if_pos (by omega), h1 i hin]; exact (hf i hin).2
          · rw [if_neg (by omega), if_pos (by omega), List.getElem?_toArray, show off + i - (off + n) = i - n by omega, bs_get _ _ _ (by omega), ← h2 _ (by omega), show n + (i - n) = i by omega]
      · have holds : ∀ j u, (bs n f)[j]? = some u → w.cell? ((⟨g, off, none⟩ : Addr).add j) = some u := by
          intro j u hj
          obtain ⟨hjn, rfl⟩ := bs_inv hj
          rw [Addr.add_lit, hB.cell]
          exact (hf j hjn).2
        obtain ⟨v', w', hr, hown, hgr⟩ := run_append_arg_grows (P := Try.prog) w 22 ty 5 i0 (.int .u8 0) 1 1 Try.underlying22 hi hz0 hz1 hz2 rfl (by decide) ⟨g, off, none⟩ n cap (bs n f) (by simp [bs_length]) holds ⟨gs, os, none⟩ m cs (bs m s) (by simp [bs_length]) hnews
          (by omega) (by unfold maxLen; omega) (by omega)
        refine ⟨v', w', hr, ?_, Below.grownF hgr hb (fun k hk => by cases hk)⟩
        rw [bs_append n m f s h h1 h2] at hown
        exact (own_of_row hlt hown).mono hb

section
variable {ops : Array Oper} {rest : List Oper} {o : Oper} {a : Act} {w : World} {Q : Exit → Act → World → Prop} {K : Act → World → Prop}

theorem wp_appendF (s x : Operand) (hop : o.op = .call { callee := .builtin .append, args := #[s, x], argTypes := #[22, 22] }) (base : Nat) (v X : Value) (n m : Nat) (f sf h : Nat → Nat)
    (hs : a.eval s = v) (hx : a.eval x = X) (ho : OwnF w base v n f) (hX : RdF w X m sf) (hb : base ≤ w.heap.size) (hnm : n + m ≤ 140737488355328)
    (h1 : ∀ i, i < n → h i = f i) (h2 : ∀ j, j < m → h (n + j) = sf j)
    (hK : ∀ v' w', OwnF w' base v' (n + m) h → Below base w w' → K (a.put o.dst v') w') : o.wp Try.prog a w K Q := by
  obtain ⟨v', w', hr, ho', hb'⟩ := run_appendF w base o.type v X n m f sf h ho hX hb hnm h1 h2
  have := hK v' w' ho' hb'
  unfold Oper.wp
  simp [execOp, hop, resolve, invoke, builtin, hs, hx, hr, Result.andThen, Oper.upon]
  exact this

theorem wl_appendF (hgd : o.guard = none) (s x : Operand) (hop : o.op = .call { callee := .builtin .append, args := #[s, x], argTypes := #[22, 22] }) (base : Nat) (v X : Value) (n m : Nat) (f sf h : Nat → Nat)
    (hs : a.eval s = v) (hx : a.eval x = X) (ho : OwnF w base v n f) (hX : RdF w X m sf) (hb : base ≤ w.heap.size) (hnm : n + m ≤ 140737488355328)
    (h1 : ∀ i, i < n → h i = f i) (h2 : ∀ j, j < m → h (n + j) = sf j)
    (hK : ∀ v' w', OwnF w' base v' (n + m) h → Below base w w' → wpList Try.prog ops Q rest (a.put o.dst v') w') : wpList Try.prog ops Q (o :: rest) a w :=
  wpList_plain hgd fun _ hK' => wp_appendF s x hop base v X n m f sf h hs hx ho hX hb hnm h1 h2 fun v' w' p q => hK' _ _ (hK v' w' p q)
end

end Go.Proofs.Ytnigpobbckampaa
