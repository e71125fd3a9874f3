/- For aes.New: how a function with a range loop ends; a slice built of one byte in a region; a key that is none. -/
import Derived.Test.YtnigpobbckampaaD
import Derived.Test.YtnigpobbckampaaA2
import Derived.Test.YtnigpobbckampaaC0
import Derived.Test.YtnigpobbckampaaX
namespace Go.Proofs.Ytnigpobbckampaa
set_option linter.unusedSimpArgs false
set_option linter.unusedVariables false
open Go.RowKit Go.Shelf

theorem tab_box : (row 512 tabP).extract 256 512 = row 256 boxP := by
  have := row_part 512 256 256 tabP (by omega)
  rw [show (256 : Nat) + 256 = 512 from rfl] at this
  rw [this]
  exact row_congr fun j _ => by simp only [tabP]; rw [if_neg (by omega), Nat.add_sub_cancel_left]

theorem Blk.below {B : Nat} {w w' : World} {g : Nat} {t : TypeId} {cs : Array Value} (h : Blk w g t cs) (hb : Below B w w') (hg : g < B) : Blk w' g t cs := (hb.block g hg).trans h

theorem RdF.part {w : World} {g off n cap : Nat} {f : Nat → Nat} (h : RdF w (.slice (some ⟨g, off, none⟩) n cap) n f) (i m cap' : Nat) (hm : i + m ≤ n) (hc : m ≤ cap') :
    RdF w (.slice (some ⟨g, off + i, none⟩) m cap') m (fun j => f (i + j)) := by
  obtain ⟨ao, c, hv, _, _, hf⟩ := h
  cases hv
  refine ⟨_, _, rfl, hc, fun h => (by cases h), fun j hj => ?_⟩
  obtain ⟨h1, a, ha, h2⟩ := hf (i + j) (by omega)
  cases ha
  rw [Addr.add_lit] at h2
  refine ⟨h1, _, rfl, ?_⟩
  rw [Addr.add_lit, Nat.add_assoc]
  exact h2

theorem marks_ret {n : Nat} {fn : Func} {R : Ending → World → Prop} {tmps : Array Value} {w : World} {v : Value} (hv : (results fn tmps).run Try.prog w = .ok v w) (h : R (.returned v) w) :
    bodyPostM Fence.wide n Try.prog fn R .ret { tmps, defers := [] } w := ⟨v, hv, h⟩

theorem marks_retD {n D : Nat} {fn : Func} {R : Ending → World → Prop} {tmps : Array Value} {w : World} {v : Value} (hD : w.heap[D]? = some (.deferred (some [])))
    (hv : (results fn tmps).run Try.prog (w.putObj D (.deferred none)) = .ok v (w.putObj D (.deferred none))) (h : R (.returned v) (w.putObj D (.deferred none))) :
    bodyPostM Fence.wide n Try.prog fn R .ret { tmps, defers := [{ target := .collected D, args := #[] }] } w :=
  ⟨by simp, .inl ⟨_, _, rfl, run_takeDeferred hD, v, hv, h⟩⟩

section
variable {P : Program} {ops : Array Oper} {w0 : World} {T : Act → List (Tmp × (World → Prop)) → Prop} {o : Oper} {l : List Oper} {es : List Ent} {a : Act} {F : List (Tmp × (World → Prop))}

/-- A slice of one byte, new in the region. -/
def One (w0 : World) (x : Value) (v : Value) (w : World) : Prop := ∃ g, v = .slice (some ⟨g, 0, none⟩) 1 1 ∧ w0.heap.size ≤ g ∧ Blk w g 5 #[x]
theorem One.mono {w0 w w' : World} {x v : Value} (hx : Ext w w') (h : One w0 x v w) : One w0 x v w' := by
  obtain ⟨g, hv, hg, hb⟩ := h
  exact ⟨g, hv, hg, hb.ext hx⟩
theorem One.rd {w0 w : World} {n : Nat} {v : Value} (hn : n < 256) (h : One w0 (.int .u8 ((n : Nat) : Int)) v w) : RdF w v 1 (fun _ => n) := by
  obtain ⟨g, rfl, hg, hb⟩ := h
  refine ⟨_, _, rfl, Nat.le_refl _, fun h => (by cases h), fun i hi => ⟨hn, _, rfl, ?_⟩⟩
  obtain rfl : i = 0 := by omega
  rw [Addr.add_lit, hb.cell]
  simp
end

/-- A slice's tail, the call's own. -/
theorem OwnF.tail {w : World} {b g off cap n : Nat} {f : Nat → Nat} (h : OwnF w b (.slice (some ⟨g, off, none⟩) n cap) n f) (i : Nat) (hi : i ≤ n) (n' cap' : Nat) (hn : n' = n - i) (hc : cap' = cap - i) :
    OwnF w b (.slice (some ⟨g, off + i, none⟩) n' cap') n' (fun j => f (i + j)) := by
  subst hn hc
  rcases h with ⟨h, _⟩ | ⟨g', off', cap', t, cur, hv, hb, hB, hc, hs, hf⟩
  · cases h
  · cases hv
    refine .inr ⟨g, off + i, cap - i, t, cur, rfl, hb, hB, by omega, by omega, fun j hj => ?_⟩
    have := hf (i + j) (by omega)
    rw [Nat.add_assoc]
    exact this

theorem OwnF.stored1 {w : World} {b g off cap n : Nat} {f : Nat → Nat} (h : OwnF w b (.slice (some ⟨g, off, none⟩) n cap) n f) (j u : Nat) (hu : u < 256) (hj : j < n) :
    OwnF (w.setCell ⟨g, off + j, none⟩ (.int .u8 ((u : Nat) : Int))) b (.slice (some ⟨g, off, none⟩) n cap) n (upd f j u) := by
  rcases h with ⟨h, _⟩ | ⟨g', off', cap', t, cur, hv, hb, hB, hc, hs, hf⟩
  · cases h
  · cases hv
    exact OwnF.stored hb hB hc hs hf j u hu hj

set_option maxHeartbeats 400000 in
set_option maxRecDepth 100000 in
theorem new_bad (v : Value) (n : Nat) (f : Nat → Nat) (w : World) (h16 : n ≠ 16) (h32 : n ≠ 32) (hn : n ≤ 1000000) (hv : RdF w v n f) :
    Calls Try.prog 19 #[v] w fun e w' => e = .returned (.tuple #[.pointer none, .int .i64 2]) ∧ w = w' := by
  obtain ⟨ao, cap, rfl, hcap⟩ := hv.len
  clear hv
  refine callsIn_wide.1 (callsIn_of_wp_marks (n := 0) Try.func19 rfl trivial (wpIn_wide.2 ?_) rfl)
  simp only [Try.ntmps19, List.size_toArray, List.length_cons, List.length_nil, Nat.reduceAdd, Nat.reduceSub, Array.replicate_succ, Array.replicate_zero, List.push_toArray, List.append_toArray, List.nil_append, List.cons_append]
  have h1 : ¬ ((n : Nat) : Int) = 16 := by omega
  have h2 : ¬ ((n : Nat) : Int) = 32 := by omega
  go_wp2_with fail
  · exact marks_ret (by kernel_rfl) ⟨rfl, rfl⟩
  · have h : (((n : Nat) : Int) != 16) = false ∨ (((n : Nat) : Int) != 32) = false := by assumption
    exfalso
    rcases h with h | h
    · exact h1 (by simpa using h)
    · exact h2 (by simpa using h)

end Go.Proofs.Ytnigpobbckampaa
