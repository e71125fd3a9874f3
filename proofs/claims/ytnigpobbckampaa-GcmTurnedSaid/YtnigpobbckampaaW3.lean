/- For GcmTurned: what turned bits do to a box; the struct that comes in. -/
import Derived.Test.YtnigpobbckampaaW2
import Derived.Test.YtnigpobbckampaaJ1
import Derived.Test.YtnigpobbckampaaP6
import Derived.BigFrame
namespace Go.Proofs.Ytnigpobbckampaa
open Go.RowKit Go.ChangeShapes Go.WideShapes
set_option linter.unusedSimpArgs false
set_option linter.unusedVariables false

theorem turn_ne {q k : Nat} {f B : Nat → Nat} {j : Nat} (hj : j < k) (hb : B j ≠ 0) : f (16 * q + j) ≠ turnK q k f B (16 * q + j) := by
  unfold turnK
  rw [if_pos (by omega), Nat.add_sub_cancel_left]
  intro h
  exact hb (xor_left_inj (C := f (16 * q + j)) (by rw [← h, Nat.xor_zero]))
theorem turn_same {q k : Nat} {f B : Nat → Nat} (h : ∀ j, j < k → B j = 0) (i : Nat) : turnK q k f B i = f i := by
  unfold turnK
  split
  · rw [h _ (by omega), Nat.xor_zero]
  · rfl
theorem turn_other {q k : Nat} {f B : Nat → Nat} (hk : k ≤ 16) (i : Nat) (h : i / 16 ≠ q) : turnK q k f B i = f i := by
  unfold turnK
  rw [if_neg (by omega)]
/-- A text and a tag behind it. -/
def joinF (p : Nat) (fs ft : Nat → Nat) : Nat → Nat := fun i => if i < p then fs i else ft (i - p)
theorem joinF_lt {p : Nat} {fs ft : Nat → Nat} (i : Nat) (h : i < p) : joinF p fs ft i = fs i := if_pos h
theorem joinF_ge {p : Nat} {fs ft : Nat → Nat} (j : Nat) : joinF p fs ft (p + j) = ft j := by
  unfold joinF
  rw [if_neg (by omega), Nat.add_sub_cancel_left]

section
variable {K : Nat} {ks : Nat → Nat → Nat} {N : Nat → Nat} {p q : Nat} {g e : Nat → Nat}
theorem seal_join (i : Nat) : sealP K ks N p q g e i = joinF p (hideP K ks N g) (byP (tagN K ks N p q (hideP K ks N g) e)) i := rfl
theorem nw_gen {N' fs' fh' : Nat → Nat} (hK : 1 ≤ K) (hks : ∀ i, i < K → ∀ j, j < 16 → ks i j < 256) (hp : p ≤ 100000) (hq : q ≤ 100000) (hN : ∀ j, j < 12 → N j < 256) (hN' : ∀ j, j < 12 → N' j < 256)
    (hg : ∀ i, i < p → hideP K ks N g i < 256) (he : ∀ i, i < q → e i < 256) (hfs : ∀ i, i < p → fs' i < 256) (hfh : ∀ i, i < q → fh' i < 256)
    (hne : tagN K ks N' p q fs' fh' ≠ tagN K ks N p q (hideP K ks N g) e) : ¬ WholeP K ks N' (p + 16) q (joinF p fs' (byP (tagN K ks N p q (hideP K ks N g) e))) fh' := by
  refine not_whole (fs := hideP K ks N g) (fh' := e) (nonce' := N) ?_ (tagN_lt hK hks hp hq he hg hN) (fun j _ => joinF_ge j) ?_
  · rw [tagN_congr K ks N' (fun _ _ => rfl) (fun i hi => joinF_lt i hi)]
    exact tagN_lt hK hks hp hq hfh hfs hN'
  · rw [tagN_congr K ks N' (fun _ _ => rfl) (fun i hi => joinF_lt i hi)]
    exact hne
theorem nw_tag {ft' : Nat → Nat} (hp : p ≤ 100000) (j : Nat) (hj : j < 16) (hd : byP (tagN K ks N p q (hideP K ks N g) e) j ≠ ft' j) : ¬ WholeP K ks N (p + 16) q (joinF p (hideP K ks N g) ft') e := fun h => by
  have h1 := h.2 j hj
  rw [Nat.add_sub_cancel, joinF_ge, tagN_congr K ks N (fun _ _ => rfl) (fun i hi => joinF_lt i hi)] at h1
  exact hd h1
end

/-! ### The struct that comes in -/
set_option maxRecDepth 20000
def turnA (N : Nat → Nat) (wh at' : Int) (B : Nat → Nat) : Array Value := row 12 N ++ #[.int .i64 wh, .int .i64 at'] ++ row 16 B
theorem turnA_size (N : Nat → Nat) (wh at' : Int) (B : Nat → Nat) : (turnA N wh at' B).size = 30 := by simp [turnA, row_size]
theorem turnA_nonce (N : Nat → Nat) (wh at' : Int) (B : Nat → Nat) : (turnA N wh at' B).extract 0 (0 + 12) = row 12 N := by
  refine row_ext (by simp [turnA_size]) (fun j hj => ?_)
  rw [Array.getElem?_extract, if_pos (by rw [turnA_size]; omega)]
  unfold turnA
  rw [Array.getElem?_append, if_pos (by simp [row_size]; omega), Array.getElem?_append, if_pos (by simp [row_size]; omega), Nat.zero_add, row_get 12 N j hj]
theorem turnA_which (N : Nat → Nat) (wh at' : Int) (B : Nat → Nat) : (turnA N wh at' B)[12]? = some (.int .i64 wh) := by
  unfold turnA
  rw [Array.getElem?_append, if_pos (by simp [row_size]), Array.getElem?_append, if_neg (by simp [row_size])]
  simp [row_size]
theorem turnA_at (N : Nat → Nat) (wh at' : Int) (B : Nat → Nat) : (turnA N wh at' B)[13]? = some (.int .i64 at') := by
  unfold turnA
  rw [Array.getElem?_append, if_pos (by simp [row_size]), Array.getElem?_append, if_neg (by simp [row_size])]
  simp [row_size]
theorem turnA_byte (N : Nat → Nat) (wh at' : Int) (B : Nat → Nat) (j : Nat) (hj : j < 16) : (turnA N wh at' B)[14 + j]? = some (.int .u8 ((B j : Nat) : Int)) := by
  unfold turnA
  rw [Array.getElem?_append, if_neg (by simp [row_size])]
  simp only [Array.size_append, row_size]
  rw [show 14 + j - (12 + #[Value.int .i64 wh, Value.int .i64 at'].size) = j from by simp, row_get 16 B j hj]
theorem turnA_bits (N : Nat → Nat) (wh at' : Int) (B : Nat → Nat) : (turnA N wh at' B).extract 14 (14 + 16) = row 16 B := by
  refine row_ext (by simp [turnA_size]) (fun j hj => ?_)
  rw [Array.getElem?_extract, if_pos (by rw [turnA_size]; omega)]
  exact turnA_byte N wh at' B j hj

theorem open_turn {H : Type} {enc : TypeId × Value → H} {w : World} {base base' : Nat} {spare : Nat → Bool} {held : Bool} {v : Value} {d : DataW H} {ps : List MemPlace} {r : Reach}
    (hv : Value.okWide Try.prog w r base' 64 v) (h : DataW.Trod enc Try.prog w base spare held 64 v d ps) :
    ∃ N wh at' B, v = .agg (turnA N wh at' B) ∧ (∀ j, j < 12 → N j < 256) ∧ ∀ j, j < 16 → B j < 256 := by
  have hv0 := hv
  simp only [Value.okWide, Try.underlying64] at hv
  obtain ⟨cs, rfl, hc, _⟩ := hv
  obtain ⟨fuel, hf⟩ := h
  obtain ⟨xs, m, rfl, _, hl, hn, hf⟩ := DataW.trod_struct Try.underlying64 hf
  have c64 : Try.prog.cellsOf 64 = 30 := by kernel_rfl
  rw [c64] at hc
  have c55 : Try.prog.cellsOf 55 = 12 := by kernel_rfl
  have c23 : Try.prog.cellsOf 23 = 16 := by kernel_rfl
  have c3 : Try.prog.cellsOf 3 = 1 := by kernel_rfl
  have hn4 : xs.length = 4 := hn
  have hL : cs.toList.length = 30 := by simpa using hc
  obtain ⟨y0, hy0⟩ : ∃ y, xs[0]? = some y := ⟨xs[0]'(by omega), List.getElem?_eq_getElem (by omega)⟩
  obtain ⟨y1, hy1⟩ : ∃ y, xs[1]? = some y := ⟨xs[1]'(by omega), List.getElem?_eq_getElem (by omega)⟩
  obtain ⟨y2, hy2⟩ : ∃ y, xs[2]? = some y := ⟨xs[2]'(by omega), List.getElem?_eq_getElem (by omega)⟩
  obtain ⟨y3, hy3⟩ : ∃ y, xs[3]? = some y := ⟨xs[3]'(by omega), List.getElem?_eq_getElem (by omega)⟩
  have h0 : DataW.trod enc Try.prog w base spare held m 55 ((cs.toList.drop 0).take (Try.prog.cellsOf 55)) = xs[0]? := hf 0 _ (by rfl)
  have h1 : DataW.trod enc Try.prog w base spare held m 3 ((cs.toList.drop 12).take (Try.prog.cellsOf 3)) = xs[1]? := hf 1 _ (by rfl)
  have h2 : DataW.trod enc Try.prog w base spare held m 3 ((cs.toList.drop 13).take (Try.prog.cellsOf 3)) = xs[2]? := hf 2 _ (by rfl)
  have h3 : DataW.trod enc Try.prog w base spare held m 23 ((cs.toList.drop 14).take (Try.prog.cellsOf 23)) = xs[3]? := hf 3 _ (by rfl)
  rw [hy0, c55] at h0
  rw [hy1, c3] at h1
  rw [hy2, c3] at h2
  rw [hy3, c23] at h3
  obtain ⟨N, hN, eN⟩ := trod_bytes Try.underlying55 c55 h0
  obtain ⟨z1, e1, _⟩ := DataW.trod_int Try.underlying3 h1
  obtain ⟨z2, e2, _⟩ := DataW.trod_int Try.underlying3 h2
  obtain ⟨B, hB, eB⟩ := trod_bytes Try.underlying23 c23 h3
  refine ⟨N, z1, z2, B, ?_, hN, hB⟩
  have hd1 : cs.toList.drop 12 = [.int .i64 z1] ++ cs.toList.drop 13 := by
    rw [← e1]
    have := List.take_append_drop 1 (cs.toList.drop 12)
    rw [List.drop_drop] at this
    exact this.symm
  have hd2 : cs.toList.drop 13 = [.int .i64 z2] ++ cs.toList.drop 14 := by
    rw [← e2]
    have := List.take_append_drop 1 (cs.toList.drop 13)
    rw [List.drop_drop] at this
    exact this.symm
  have hd3 : cs.toList.drop 14 = (row 16 B).toList := by
    rw [← eB, List.take_of_length_le (by simp; omega)]
  have hd0 : cs.toList.take 12 = (row 12 N).toList := by
    rw [← eN]
    simp
  have hall : cs.toList = (turnA N z1 z2 B).toList := by
    rw [← List.take_append_drop 12 cs.toList, hd0, hd1, hd2, hd3]
    simp [turnA]
  have : cs = turnA N z1 z2 B := by
    cases cs
    simp only at hall
    rw [hall]
  rw [this]
end Go.Proofs.Ytnigpobbckampaa
