/- For the document's New: its cipher's cells. -/
import Derived.Test.YtnigpobbckampaaH0
namespace Go.Proofs.Ytnigpobbckampaa
open Go.RowKit Go.Shelf
set_option linter.unusedSimpArgs false
set_option linter.unusedVariables false

theorem built78 (cs : Array Value) (hs : cs.size = 256) : Try.prog.built 78 [(1, .agg cs)] = some (#[.slice none 0 0] ++ cs) := by
  have h : ∀ l, Try.prog.built 78 l = Instr.fill (#[(0, 1), (1, 256)][·]?) (#[.slice none 0 0] ++ Array.replicate 256 (.int .u8 0)) l := fun l => by kernel_rfl
  rw [h]
  refine fill_one _ _ cs _ 1 1 (by rw [hs]; rfl) (by simp; omega) (by simp; omega) (fun j hj => ?_)
  simp at hj
  rw [Array.getElem?_append, Array.getElem?_append]
  simp only [List.size_toArray, List.length_cons, List.length_nil, Nat.zero_add]
  by_cases h1 : j < 1
  · rw [if_pos h1, if_neg (by omega), if_pos h1]
  · rw [if_neg h1, if_pos (by omega)]
theorem run_build78 (f : Nat → Nat) (w : World) : (Instr.build 78 #[(1, .agg (row 256 f))]).run Try.prog w = .ok (.agg (#[.slice none 0 0] ++ row 256 f)) w :=
  run_build w 78 _ _ (built78 _ (row_size _ _))
theorem wl_build78 {ops : Array Oper} {rest : List Oper} {o : Oper} {a : Act} {w : World} {Q : Exit → Act → World → Prop} (hgd : o.guard = none) (x : Operand) (ho : o.op = .build 78 #[(1, x)]) (f : Nat → Nat) (hx : a.eval x = .agg (row 256 f))
    (h : wpList Try.prog ops Q rest (a.put o.dst (.agg (#[.slice none 0 0] ++ row 256 f))) w) : wpList Try.prog ops Q (o :: rest) a w :=
  wpList_plain hgd fun _ hK => by
    have hr := run_build78 f w
    unfold Oper.wp execOp
    simp only [ho, List.map_toArray, List.map_cons, List.map_nil, hx, Sem.run_bind, hr, Result.andThen_ok]
    exact hK _ _ h
theorem WordsF.block {w : World} {b m : Nat} {v : Value} {F : Nat → Nat} (h : WordsF w b v m F) : ∀ r, v.ownBlock = some r → b ≤ r ∧ ∃ o : Obj, w.heap[r]? = some o ∧ o.isCells = true := by
  intro r hr
  rcases h.2 with ⟨rfl, _⟩ | ⟨g, cap, cur, rfl, hb, hg, rest⟩
  · cases hr
  · cases hr
    exact ⟨hb, _, hg, rfl⟩
theorem WordsF.congr {w : World} {b m : Nat} {v : Value} {F G : Nat → Nat} (h : WordsF w b v m F) (he : ∀ i, i < m * 4 → F i = G i) : WordsF w b v m G := by
  have : bs (m * 4) G = bs (m * 4) F := by
    apply List.ext_getElem?
    intro j
    by_cases hj : j < m * 4
    · rw [bs_get _ _ _ hj, bs_get _ _ _ hj, he j hj]
    · rw [List.getElem?_eq_none (by rw [bs_length]; omega), List.getElem?_eq_none (by rw [bs_length]; omega)]
  unfold WordsF
  rw [this]
  exact h
theorem head_part (v : Value) (f : Nat → Nat) : (#[v] ++ row 256 f).extract 1 (1 + 256) = row 256 f := by
  apply Array.ext_getElem?
  intro i
  rw [Array.getElem?_extract]
  by_cases h : i < 256
  · rw [if_pos (by simp [row_size]; omega), Array.getElem?_append_right (by simp)]
    simp
  · rw [if_neg (by simp [row_size]; omega), Array.getElem?_eq_none (by rw [row_size]; omega)]
theorem cphR_of_keys {w : World} {gc b m : Nat} {v : Value} {F : Nat → Nat} {ks : Nat → Nat → Nat} (hm : 0 < m) (h : KeysF w b v m F) (hc : Blk w gc 78 (#[v] ++ row 256 boxP)) (hks : ∀ i j, ks i j = F (i * 16 + j)) (hlt : ∀ i, i < m * 16 → F i < 256) : CphR w gc m ks := by
  rcases h.2 with ⟨_, h0⟩ | ⟨g, cap, cur, rfl, hb, hg, hle, _, hsz, ht⟩
  · omega
  · refine ⟨g, cap, cur, hc, hg, ?_, fun i hi j hj => ?_⟩
    · rw [hsz]; exact Nat.mul_le_mul_right _ hle
    · have h1 : i * 16 + j < m * 16 := by omega
      have h2 := bs_get (m * 16) F (i * 16 + j) h1
      rw [← ht, List.getElem?_take, if_pos h1] at h2
      rw [hks]
      exact ⟨by simpa using h2, hlt _ h1⟩
theorem mulP_two : ∀ p, p < 256 → mulP p 2 = dbl p := by
  have h : ((List.range 256).all fun p => mulP p 2 == dbl p) = true := by kernel_rfl
  intro p hp
  have := List.all_eq_true.1 h p (List.mem_range.2 hp)
  simpa using this
theorem runs_move {o : Oper} {a : Act} {w : World} {R : Value} {x : Operand} (ho : o.op = .move x) (hx : a.eval x = R) : runs Try.prog o a w (fun u w' => w' = w ∧ u = R) := by
  unfold runs execOp
  simp only [ho, hx]
  exact ⟨rfl, rfl⟩
def lenOf : Value → Nat
  | .slice _ n _ => n
  | _ => 0
end Go.Proofs.Ytnigpobbckampaa
