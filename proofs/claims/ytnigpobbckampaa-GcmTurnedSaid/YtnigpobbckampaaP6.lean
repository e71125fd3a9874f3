/- What comes in, opened: rows of bytes, slices of bytes. -/
import Derived.Test.YtnigpobbckampaaL
import Derived.Test.YtnigpobbckampaaP0
import Derived.OpenShut
import Derived.ShutString
import Derived.ChangeOld
import Derived.Below
namespace Go.Proofs.Ytnigpobbckampaa
set_option linter.unusedSimpArgs false
set_option linter.unusedVariables false
open Go.RowKit Go.ChangeShapes Go.WideShapes
set_option maxRecDepth 20000

/-- Cells that are bytes are a row. -/
theorem row_of_cells (l : List Value) (n : Nat) (hl : l.length = n) (h : ∀ i, i < n → ∃ m : Nat, m < 256 ∧ l[i]? = some (.int .u8 ((m : Nat) : Int))) :
    ∃ X : Nat → Nat, (∀ i, i < n → X i < 256) ∧ l.toArray = row n X := by
  refine ⟨fun i => match l[i]? with | some (.int .u8 z) => z.toNat | _ => 0, fun i hi => ?_, ?_⟩
  · obtain ⟨m, hm, e⟩ := h i hi
    simp only [e]
    simpa using hm
  · apply Array.ext
    · simp [row_size, hl]
    · intro i h1 h2
      have hi : i < n := by simpa [hl] using h1
      obtain ⟨m, hm, e⟩ := h i hi
      have h3 : (row n (fun i => match l[i]? with | some (.int .u8 z) => z.toNat | _ => 0))[i]? = some (.int .u8 ((m : Nat) : Int)) := by
        rw [row_get _ _ _ hi]
        simp [e]
      have h4 : l.toArray[i]? = some (.int .u8 ((m : Nat) : Int)) := by simpa using e
      have := h4.trans h3.symm
      rw [Array.getElem?_eq_getElem h1, Array.getElem?_eq_getElem h2] at this
      exact Option.some.inj this

theorem trod_bytes {H : Type} {enc : TypeId × Value → H} {w : World} {base : Nat} {spare : Nat → Bool} {held : Bool} {fuel : Nat} {cs : List Value} {x : DataW H × List MemPlace} {t n : Nat}
    (ht : Try.prog.underlying t = some (.array n 5)) (hs : Try.prog.cellsOf t = n) (h : DataW.trod enc Try.prog w base spare held fuel t cs = some x) :
    ∃ X : Nat → Nat, (∀ i, i < n → X i < 256) ∧ cs.toArray = row n X := by
  obtain ⟨xs, m, rfl, rfl, hl, hn, hf⟩ := DataW.trod_array ht h
  have c5 : Try.prog.cellsOf 5 = 1 := by kernel_rfl
  rw [hs] at hl
  refine row_of_cells cs n hl fun i hi => ?_
  have h1 := hf i hi
  rw [c5, Nat.mul_one] at h1
  have hx : ∃ y, xs[i]? = some y := ⟨xs[i]'(by omega), List.getElem?_eq_getElem (by omega)⟩
  obtain ⟨y, hy⟩ := hx
  rw [hy] at h1
  obtain ⟨z, hz, _, hw⟩ := DataW.trod_int Try.underlying5 h1
  obtain ⟨k, rfl, hk⟩ := nat_u8 hw
  refine ⟨k, hk, ?_⟩
  have h2 : ((cs.drop i).take 1)[0]? = some (.int .u8 (k : Int)) := by rw [hz]; rfl
  simpa [List.getElem?_take, List.getElem?_drop] using h2

/-- An array of bytes that came in. -/
theorem open_bytes {H : Type} {enc : TypeId × Value → H} {w : World} {base base' : Nat} {spare : Nat → Bool} {held : Bool} {v : Value} {d : DataW H} {ps : List MemPlace} {t n : Nat} {r : Reach}
    (ht : Try.prog.underlying t = some (.array n 5)) (hs : Try.prog.cellsOf t = n) (hv : Value.okWide Try.prog w r base' t v) (h : DataW.Trod enc Try.prog w base spare held t v d ps) :
    ∃ X : Nat → Nat, (∀ i, i < n → X i < 256) ∧ v = .agg (row n X) := by
  simp only [Value.okWide, ht] at hv
  obtain ⟨cs, rfl, hc, _⟩ := hv
  obtain ⟨fuel, hf⟩ := h
  obtain ⟨X, hX, e⟩ := trod_bytes ht hs hf
  exact ⟨X, hX, by rw [← e]; simp [Value.cells]⟩
/-- Two arrays of 16 bytes that came in. -/
theorem open_pair {H : Type} {enc : TypeId × Value → H} {w : World} {base base' : Nat} {spare : Nat → Bool} {held : Bool} {v : Value} {d : DataW H} {ps : List MemPlace} {r : Reach}
    (hv : Value.okWide Try.prog w r base' 43 v) (h : DataW.Trod enc Try.prog w base spare held 43 v d ps) :
    ∃ X : Nat → Nat, (∀ i, i < 32 → X i < 256) ∧ v = .agg (row 32 X) := by
  simp only [Value.okWide, Try.underlying43] at hv
  obtain ⟨cs, rfl, hc, _⟩ := hv
  obtain ⟨fuel, hf⟩ := h
  obtain ⟨xs, m, rfl, _, hl, hn, hf⟩ := DataW.trod_array Try.underlying43 hf
  have c23 : Try.prog.cellsOf 23 = 16 := by kernel_rfl
  have c43 : Try.prog.cellsOf 43 = 32 := by kernel_rfl
  rw [c43] at hc
  have hl' : cs.toList.length = 32 := by simpa using hc
  obtain ⟨X, hX, e⟩ := row_of_cells cs.toList 32 hl' fun i hi => by
    have hk : i / 16 < 2 := by omega
    have h1 := hf (i / 16) hk
    rw [c23] at h1
    obtain ⟨y, hy⟩ : ∃ y, xs[i / 16]? = some y := ⟨xs[i / 16]'(by omega), List.getElem?_eq_getElem (by omega)⟩
    rw [hy] at h1
    obtain ⟨Y, hY, e⟩ := trod_bytes Try.underlying23 c23 h1
    refine ⟨Y (i % 16), hY _ (by omega), ?_⟩
    have h2 : ((((Value.agg cs).cells.toList.drop (i / 16 * 16)).take 16).toArray)[i % 16]? = some (.int .u8 ((Y (i % 16) : Nat) : Int)) := by rw [e, row_get _ _ _ (by omega)]
    simp only [Value.cells, List.getElem?_toArray, List.getElem?_take, List.getElem?_drop] at h2
    rw [if_pos (by omega)] at h2
    rw [← h2]
    congr 1
    omega
  exact ⟨X, hX, by rw [← e]⟩

/-- A slice of bytes that came in. -/
theorem cells_slice {H : Type} {enc : TypeId × Value → H} {w : World} {base : Nat} {spare : Nat → Bool} {held : Bool} {fuel : Nat} {v : Value} {x : DataW H × List MemPlace}
    (h : DataW.trod enc Try.prog w base spare held fuel 22 [v] = some x) : ∃ n f, n ≤ 9223372036854775807 ∧ RdF w v n f := by
  rcases open_ints Try.underlying22 Try.underlying5 (by kernel_rfl) h with ⟨hcs, _⟩ | ⟨a, l, c, zs, hcs, _, hl, hm, hz, _, hcell, hwz⟩
  · obtain rfl : v = .slice none 0 0 := by simpa using hcs
    exact ⟨0, fun _ => 0, by omega, none, 0, rfl, Nat.le_refl _, fun _ => rfl, fun i hi => absurd hi (Nat.not_lt_zero _)⟩
  · obtain rfl : v = .slice (some a) l c := by simpa using hcs
    have hm' : c ≤ 9223372036854775807 := hm
    have hlz : l ≤ zs.length := by rw [hz]; split <;> omega
    refine ⟨l, fun i => (zs.getD i 0).toNat, by omega, some a, c, rfl, hl, fun h => (by cases h), fun i hi => ?_⟩
    have hi' : i < zs.length := by omega
    have hmem : zs.getD i 0 ∈ zs := by
      have : zs.getD i 0 = zs[i] := by simp [List.getD, List.getElem?_eq_getElem hi']
      rw [this]; exact List.getElem_mem hi'
    obtain ⟨k, e, hk⟩ := nat_u8 (hwz _ hmem)
    have h1 := hcell i hi'
    simp only [e] at h1 ⊢
    exact ⟨by simpa using hk, a, rfl, by simpa using h1⟩
theorem open_slice {H : Type} {enc : TypeId × Value → H} {w : World} {base base' : Nat} {spare : Nat → Bool} {held : Bool} {v : Value} {d : DataW H} {ps : List MemPlace} {r : Reach}
    (hv : Value.okWide Try.prog w r base' 22 v) (h : DataW.Trod enc Try.prog w base spare held 22 v d ps) :
    ∃ n f, n ≤ 9223372036854775807 ∧ RdF w v n f := by
  obtain ⟨a, l, c, rfl⟩ := okWide_slice Try.underlying22 hv
  obtain ⟨fuel, hf⟩ := h
  exact cells_slice (by simpa [Value.cells] using hf)

/-- Two slices of bytes that came in. -/
theorem open_slices {H : Type} {enc : TypeId × Value → H} {w : World} {base base' : Nat} {spare : Nat → Bool} {held : Bool} {v : Value} {d : DataW H} {ps : List MemPlace} {r : Reach}
    (hv : Value.okWide Try.prog w r base' 56 v) (h : DataW.Trod enc Try.prog w base spare held 56 v d ps) :
    ∃ v0 v1 n0 f0 n1 f1, v = .agg #[v0, v1] ∧ n0 ≤ 9223372036854775807 ∧ RdF w v0 n0 f0 ∧ n1 ≤ 9223372036854775807 ∧ RdF w v1 n1 f1 := by
  simp only [Value.okWide, Try.underlying56] at hv
  obtain ⟨cs, rfl, hc, _⟩ := hv
  obtain ⟨fuel, hf⟩ := h
  obtain ⟨xs, m, rfl, _, hl, hn, hf⟩ := DataW.trod_array Try.underlying56 hf
  have c22 : Try.prog.cellsOf 22 = 1 := by kernel_rfl
  have c56 : Try.prog.cellsOf 56 = 2 := by kernel_rfl
  rw [c56] at hc
  obtain ⟨l⟩ := cs
  match l, hc with
  | [v0, v1], _ =>
    have h0 := hf 0 (by omega)
    have h1 := hf 1 (by omega)
    obtain ⟨y0, hy0⟩ : ∃ y, xs[0]? = some y := ⟨xs[0]'(by omega), List.getElem?_eq_getElem (by omega)⟩
    obtain ⟨y1, hy1⟩ : ∃ y, xs[1]? = some y := ⟨xs[1]'(by omega), List.getElem?_eq_getElem (by omega)⟩
    rw [hy0, c22] at h0
    rw [hy1, c22] at h1
    obtain ⟨n0, f0, a0, r0⟩ := cells_slice (v := v0) (by simpa [Value.cells] using h0)
    obtain ⟨n1, f1, a1, r1⟩ := cells_slice (v := v1) (by simpa [Value.cells] using h1)
    exact ⟨v0, v1, n0, f0, n1, f1, rfl, a0, r0, a1, r1⟩
end Go.Proofs.Ytnigpobbckampaa
