/- Rounds of a range over a function: what is walked plainly may be walked in a round; a law for loops that run out. -/
import Derived.Test.YtnigpobbckampaaR
import Derived.RangeFuncNested
import Derived.RangeFuncCalls
import Derived.RangeFuncLeaves
import Derived.RangeFuncBox
import Derived.Shelf.Abstract
import Derived.OrdersIn
import Derived.TacticsInMore
import Derived.LoopNIn
import Derived.LoopIn
namespace Go.Proofs.Ytnigpobbckampaa
set_option linter.unusedSimpArgs false
set_option linter.unusedVariables false
open Go.RowKit Go.Shelf

section
variable {P : Program} {n : Nat}

theorem rows_round {r : String} {args : Array Value} {w : World} {R : Value → World → Prop} (l : Nat) (h : Rows P r args w R) : RowsIn (Fence.wide.inRound l) n P r args w R :=
  fun c cs _ => let ⟨v, w', q, s⟩ := h c cs; ⟨v, w', q, stepsIn_wide.2 s⟩

theorem op_round {o : Oper} {a : Act} {w : World} {K : Act → World → Prop} {Q : Exit → Act → World → Prop} (l : Nat) (hd : ∀ c, o.op ≠ .defer c) (h : o.wp P a w K Q) : o.wpIn (Fence.wide.inRound l) n P a w K Q := by
  refine ⟨fun _ _ => trivial, ?_⟩
  rw [Fence.inRound_round, Oper.semAt_some l _ _ hd]
  unfold Oper.wp at h
  generalize (execOp a.eval o).run P w = r at h ⊢
  cases r with
  | ok nx w' =>
    cases nx with
    | value v => exact h
    | skip => exact h
    | defer d => exact h
    | enter f args => exact ⟨fun hh => by simp [Fence.wide] at hh, CallsIn.inRound l (callsIn_wide.2 h)⟩
    | row r args => exact ⟨fun hh => by simp [Fence.wide] at hh, rows_round l h⟩
    | _ => exact h.elim
  | halt x w' =>
    cases x with
    | panic v => exact h
    | _ => exact h.elim

def noDefer (ops : List Oper) : Bool := ops.all fun o => match o.op with | .defer _ => false | _ => true
theorem noDefer_spec {ops : List Oper} (h : noDefer ops = true) : ∀ o ∈ ops, ∀ c, o.op ≠ .defer c := by
  intro o ho c hc
  have := List.all_eq_true.1 h o ho
  simp [hc] at this

theorem any_round {ops : List Oper} {md : Region.Mode} {Q : Exit → Act → World → Prop} (l : Nat) (hQ : ¬ LetsOut Q) (hd : noDefer ops = true) : ∀ (fuel : Nat) (listed : Array Bool) (a : Act) (w : World),
    wpAny P md ops.toArray Q fuel listed a w → wpAnyIn (Fence.wide.inRound l) n P md ops.toArray Q fuel listed a w := by
  intro fuel
  induction fuel with
  | zero => exact fun _ _ _ h => h
  | succ m ih =>
    intro listed a w h
    refine ⟨h.1, fun i hi => ?_⟩
    have h1 := h.2 i hi
    unfold wpOp at h1
    unfold wpOpIn
    cases ho : ops.toArray[i]? with
    | none => rw [ho] at h1; exact ih _ _ _ h1
    | some o =>
      rw [ho] at h1
      have hmem : o ∈ ops := by
        have := List.mem_of_getElem? (l := ops) (i := i) (a := o) (by simpa using ho)
        exact this
      simp only at h1 ⊢
      split at h1
      · rename_i hw
        simp only [hw, if_true]
        rcases h1 with h1 | h1
        · exact Oper.wpIn_mono (fun a w => ih _ a w) (op_round l (noDefer_spec hd o hmem) h1)
        · exact absurd h1.2 hQ
      · rename_i hw
        simp only [hw, if_false]
        exact ⟨fun _ _ => trivial, ih _ _ _ h1⟩

/-- The rule for a region that draws its order, in a round. -/
theorem wpIn_region_mid {id : Nat} {Q : Exit → Act → World → Prop} {a : Act} {w : World} {l : List Oper} (lp : Nat) (k : Nat) (es : List Ent) (hm : P.follows .mixedOrders = true) (hes : es.length = k)
    (hB : midB l k a.tmps.size = true) (hd : noDefer l = true) (hQ : ¬ LetsOut Q)
    (h : wpE P l.toArray w (fun a' F => ∀ w', Ext w w' → (∀ p ∈ F, p.2 w') → wpList P l.toArray Q (l.drop k) a' w') l es a []) : (Code.region id l.toArray true).wpIn (Fence.wide.inRound lp) n P Q a w :=
  wpIn_region_any hm (any_round lp hQ hd _ _ _ _ (any_mid k es hes hB h))

/-- One operation of a list, in a round, from the plain rule. -/
theorem wlIn_one {ops : Array Oper} {rest : List Oper} {o : Oper} {a : Act} {w : World} {Q : Exit → Act → World → Prop} (l : Nat) (hg : o.guard = none) (hd : ∀ c, o.op ≠ .defer c)
    (h : ∀ K : Act → World → Prop, (∀ a w, wpListIn (Fence.wide.inRound l) n P ops Q rest a w → K a w) → o.wp P a w K Q) : wpListIn (Fence.wide.inRound l) n P ops Q (o :: rest) a w :=
  wpListIn_plain hg fun K hK => op_round l hd (h K hK)

theorem grown_of_ext {w w' : World} (h : Ext w w') : w.grownBy w' none := ⟨h.os, h.tape, h.output, h.size, fun k hk _ => h.block hk⟩
theorem keeps_of_ext {w w' : World} (h : Ext w w') : KeepsOthers w w' := ⟨h.size, fun k o hk _ => h.heap hk⟩

/-- How a round ends: the loop goes on. -/
def roundDone (Kp : World → World → Prop) (I : World → Prop) (W : World) : Exit → Act → World → Prop
  | .normal, _, W' => KeepsOthers W W' ∧ Kp W W' ∧ I W'
  | _, _, _ => False
theorem roundDone_lets {Kp : World → World → Prop} {I : World → Prop} {W : World} : ¬ LetsOut (roundDone Kp I W) := fun ⟨_, _, h⟩ => h

/-- An iterator: N rounds, the k-th at encs k; over loops that run out. -/
def Iter (P : Program) (g : Nat) (lb : Array Value) (encs : Nat → Array Value) (Kp : World → World → Prop) (N : Nat) (w : World) : Prop :=
  ∀ (n l : Nat) (J : Nat → World → Prop) (W : World), Below w.heap.size w W → OwnFrom W.heap.size J →
    (∀ m k W1, k < N → J k W1 → YieldAt Fence.wide m P l (encs k) W1 fun e W' => e = .returned (.bool true) ∧ J (k + 1) W' ∧ KeepsOthers W1 W' ∧ Kp W1 W') →
    J 0 W → CallsIn Fence.wide n P g (#[.func (.yield l) #[] #[]] ++ lb) W fun e W' => (∃ v, e = .returned v) ∧ J N W'

theorem range_law {g : Operand} {ps : Array Tmp} {assign body : Code} {Q : Exit → Act → World → Prop} {a : Act} {w : World} {gf : Nat} {lb : Array Value}
    (hg : a.eval g = .func (.func gf) #[] lb) (eg : ∀ args w, (callFunc gf args).run P w = .ok (.enter gf args) w)
    {encs : Nat → Array Value} {Kp : World → World → Prop} {N : Nat} {w0 : World} (hseq : Iter P gf lb encs Kp N w0) (hb0 : Below w0.heap.size w0 w) (hps : ∀ k, (encs k).size = ps.size)
    (hKt : ∀ {A B C : World}, Kp A B → Kp B C → Kp A C) (hKb : ∀ (W : World) (l : Nat) (o o' : Obj), w.heap.size ≤ l → W.heap[l]? = some o → o.isCells = false → Kp W (W.putObj l o'))
    (I : Nat → World → Prop) (hI : OwnFrom w.heap.size I) (h0 : I 0 w)
    (hround : ∀ (m l k : Nat) (W : World), k < N → I k W → assign.wpIn (Fence.wide.inRound l) m P (Exit.then (fun a' W' => KeepsOthers W W' ∧ Kp W W' ∧ I k W' ∧ ∃ Z : World → Prop, OwnFrom w.heap.size (fun (_ : Unit) W => Z W) ∧ Z W' ∧
        ∀ W'', I k W'' → Z W'' → body.wpIn (Fence.wide.inRound l) m P (roundDone Kp (I (k + 1)) W'') a' W'') (fun _ _ _ => False))
      { tmps := (ps.zip (encs k)).foldl (fun t (p, v) => t.setIfInBounds p v) a.tmps, defers := [] } W)
    (hdone : ∀ (D : Nat) (W : World), w.heap.size ≤ D → I N W → W.heap[D]? = some (.deferred (some [])) → Q .normal { a with defers := { target := .collected D, args := #[] } :: a.defers } W) :
    (Code.rangeFunc g ps assign body).wpIn Fence.wide n P Q a w := by
  refine wpIn_rangeFunc fun fn _ => ?_
  obtain ⟨rec, hrec⟩ : ∃ rec : LoopState → Loop, rec = fun st => { state := st, pending := none, fn, tmps := a.tmps, params := ps, assign, body, defers := w.heap.size } := ⟨_, rfl⟩
  have hx0 : Ext w (w.alloc (.deferred (some []))) := Ext.alloc _ _
  have hx1 : Ext (w.alloc (.deferred (some []))) ((w.alloc (.deferred (some []))).alloc (.loop (rec .ready))) := Ext.alloc _ _
  obtain ⟨W1, hW1⟩ : ∃ W1, (w.alloc (.deferred (some []))).alloc (.loop (rec .ready)) = W1 := ⟨_, rfl⟩
  rw [hW1] at hx1
  have hL1 : W1.heap[w.heap.size + 1]? = some (.loop (rec .ready)) := by
    rw [← hW1]
    have := heap_alloc_new (w.alloc (.deferred (some []))) (.loop (rec .ready))
    simpa using this
  have hD1 : W1.heap[w.heap.size]? = some (.deferred (some [])) := hx1.heap (heap_alloc_new w _)
  have hs1 : W1.heap.size = w.heap.size + 2 := by rw [← hW1]; simp
  have hI1 : I 0 W1 := by rw [← hW1]; exact hI.alloc _ (hI.alloc _ h0)
  refine ⟨w.heap.size + 1, [{ target := .collected w.heap.size, args := #[] }], W1, { target := .fn (.func gf) lb, args := #[.func (.yield (w.heap.size + 1)) #[] #[]] }, W1, gf, #[.func (.yield (w.heap.size + 1)) #[] #[]] ++ lb, W1, ?_, ?_, fun _ _ => trivial, ?_, fun hh => (by simp [Fence.wide] at hh), ?_⟩
  · rw [← hW1, hrec]; exact run_enterLoop_outer _ _ _ _ _
  · simp only [resolve, hg]
    simp [go_sem]
  · simp [invoke, go_sem, eg]
  refine (hseq (n - 1) (w.heap.size + 1) (fun k W => I k W ∧ W.heap[w.heap.size + 1]? = some (.loop (rec .ready)) ∧ W.heap[w.heap.size]? = some (.deferred (some []))) W1
    (hb0.trans (Below.mono (Ext.trans hx0 hx1) hb0.size)) ?_ ?_ ⟨hI1, hL1, hD1⟩).mono ?_
  · rintro k A B row ⟨hi, hl, hd⟩ hg' hr
    have hlt : ∀ j, j < W1.heap.size → (some j) ≠ row := fun j hj e => by have := (hr j e.symm).1; omega
    have hA : ∀ j o, A.heap[j]? = some o → j < A.heap.size := fun j o h => (Array.getElem?_eq_some_iff.1 h).1
    exact ⟨hI k A B row hi hg' (fun r e => ⟨by have := (hr r e).1; omega, (hr r e).2⟩), (hg'.block _ (hA _ _ hl) (hlt _ (by omega))).trans hl, (hg'.block _ (hA _ _ hd) (hlt _ (by omega))).trans hd⟩
  · rintro m k W hk ⟨hi, hl, hd⟩
    have hy := run_yield (P := P) (args := encs k) hl (by rw [hrec]; exact hps k)
    rw [hrec] at hy
    refine ⟨fn, _, assign, body, hy, roundIn_of_wpIn trivial (wpIn_mono (hround m _ k W hk hi) ?_)⟩
    intro e a' W2 hq
    cases e with
    | normal => ?_
    | _ => exact hq.elim
    obtain ⟨hk2, hp2, hi2, Z, hZ, hz, hbody⟩ := hq
    have hl2 := hk2.same _ _ hl rfl
    have hd2 := hk2.same _ _ hd rfl
    have hlt2 : w.heap.size + 1 < W2.heap.size := (Array.getElem?_eq_some_iff.1 hl2).1
    refine ⟨_, run_beginRound hl2 (by rw [hrec]), ?_⟩
    refine wpIn_mono (hbody _ (hI.putObj _ hi2 (by omega) hl2 rfl) (hZ.putObj (s := ()) _ hz (by omega) hl2 rfl)) ?_
    have hlb : (W2.putObj (w.heap.size + 1) (.loop { rec .ready with state := .busy })).heap[w.heap.size + 1]? = some (.loop { rec .ready with state := .busy }) := World.putObj_heap_same hlt2
    have hdb : (W2.putObj (w.heap.size + 1) (.loop { rec .ready with state := .busy })).heap[w.heap.size]? = some (.deferred (some [])) := (World.putObj_heap_other (by omega)).trans hd2
    have hpb : Kp W2 (W2.putObj (w.heap.size + 1) (.loop { rec .ready with state := .busy })) := hKb _ _ _ _ (by omega) hl2 rfl
    rintro e a3 W3 hp
    cases e with
    | normal =>
      obtain ⟨hk3, hp3, hi3⟩ := hp
      have hl3 := hk3.same _ _ hlb rfl
      have hd3 := hk3.same _ _ hdb rfl
      have hlt3 : w.heap.size + 1 < W3.heap.size := (Array.getElem?_eq_some_iff.1 hl3).1
      have hr := run_endRound (P := P) none hl3
      refine ⟨_, _, hr, rfl, ⟨hI.putObj _ hi3 (by omega) hl3 rfl, ?_, (World.putObj_heap_other (by omega)).trans hd3⟩, ⟨?_, fun j o hj ho => ?_⟩, hKt hp2 (hKt hpb (hKt hp3 (hKb _ _ _ _ (by omega) hl3 rfl)))⟩
      · rw [World.putObj_heap_same hlt3, hrec]; rfl
      · have h1 := hk2.size
        have h2 := hk3.size
        simp at h2 ⊢
        omega
      · by_cases hjl : j = w.heap.size + 1
        · subst hjl
          rw [World.putObj_heap_same hlt3, ← hj, hl, hrec]; rfl
        · rw [World.putObj_heap_other (by omega)]
          exact hk3.same _ _ ((World.putObj_heap_other (by omega)).trans (hk2.same _ _ hj ho)) ho
    | _ => exact hp.elim
  · rintro e W2 ⟨⟨v, rfl⟩, hi, hl, hd⟩
    exact ⟨none, _, by have := run_endLoop (P := P) hl (by rw [hrec]; simp); rw [hrec] at this; exact this, hdone _ _ (Nat.le_refl _) (hI.putObj _ hi (by omega) hl rfl) ((World.putObj_heap_other (by omega)).trans hd)⟩
end

end Go.Proofs.Ytnigpobbckampaa
