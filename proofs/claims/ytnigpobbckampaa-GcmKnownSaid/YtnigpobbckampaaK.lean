/- Small laws for this seat: worlds that only grow, rows of bytes in memory. A rule for a region that draws its order, some of whose operations make memory: each head operation is run once, in whatever world has only grown; then the tail in its order. Rounds of a range over a function: what is walked plainly may be walked in a round; a law for loops that run out. The rule for a region whose first operation may come before or behind the one that writes. -/
import Derived.Test.YtnigpobbckampaaProg
import Derived.WalkKit
import Derived.WalkSpells
import Derived.WalkLawsBesides
import Derived.Lib.Hide
import Derived.StillTail
import Derived.RangeFuncNested
import Derived.RangeFuncCalls
import Derived.RangeFuncLeaves
import Derived.RangeFuncBox
import Derived.Shelf.Abstract
import Derived.OrdersIn
import Derived.TacticsInMore
import Derived.LoopNIn
import Derived.LoopIn
namespace Go.Proofs.Ytnigpobbckampaa
set_option linter.unusedSimpArgs false
set_option linter.unusedVariables false
open Go.RowKit

/-- Everything that lay in w lies in w' as it lay. -/
def Ext (w w' : World) : Prop := Below w.heap.size w w'

theorem Ext.refl (w : World) : Ext w w := Below.refl _ _
theorem Ext.size {w w' : World} (h : Ext w w') : w.heap.size ≤ w'.heap.size := Below.size h
theorem Ext.trans {a b c : World} (h : Ext a b) (k : Ext b c) : Ext a c := Below.trans h (Below.mono k h.size)
theorem Ext.block {w w' : World} (h : Ext w w') {k : Nat} (hk : k < w.heap.size) : w'.heap[k]? = w.heap[k]? := Below.block h k hk
theorem Ext.cell {w w' : World} (h : Ext w w') {p : Addr} {v : Value} (hc : w.cell? p = some v) : w'.cell? p = some v :=
  (Below.cell h (World.block_lt_of_cell? w p hc)).trans hc
theorem Ext.heap {w w' : World} (h : Ext w w') {k : Nat} {o : Obj} (hk : w.heap[k]? = some o) : w'.heap[k]? = some o :=
  (h.block (Array.getElem?_eq_some_iff.1 hk).1).trans hk
theorem Ext.alloc (w : World) (o : Obj) : Ext w (w.alloc o) := (Below.refl _ w).alloc (Nat.le_refl _) o
theorem Ext.drew (w : World) : Ext w w.drew := (Below.refl _ w).drew
theorem Ext.drewN (w : World) (n : Nat) : Ext w (w.drewN n) := ⟨rfl, rfl, rfl, Nat.le_refl _, fun _ _ => rfl⟩
theorem Ext.bcell {w w' : World} (h : Ext w w') : ∀ b o, b < w.heap.size → w'.cell? ⟨b, o, none⟩ = w.cell? ⟨b, o, none⟩ :=
  fun b o hb => Below.cell (p := ⟨b, o, none⟩) h hb
theorem Ext.bfrozen {w w' : World} (h : Ext w w') : ∀ b o, b < w.heap.size → w'.frozen? ⟨b, o, none⟩ = w.frozen? ⟨b, o, none⟩ :=
  fun b o hb => Below.frozen (p := ⟨b, o, none⟩) h hb

/-- n bytes as values. -/
def row (n : Nat) (f : Nat → Nat) : Array Value := Array.ofFn (n := n) fun i => Value.int .u8 ((f i.val : Nat) : Int)

theorem row_size (n : Nat) (f : Nat → Nat) : (row n f).size = n := by simp [row]
theorem row_get (n : Nat) (f : Nat → Nat) (j : Nat) (h : j < n) : (row n f)[j]? = some (.int .u8 ((f j : Nat) : Int)) := by
  simp [row, h]
theorem row_none (n : Nat) (f : Nat → Nat) (j : Nat) (h : n ≤ j) : (row n f)[j]? = none := by
  simp [row]; omega
theorem row_ext {A : Array Value} {n : Nat} {f : Nat → Nat} (hs : A.size = n) (h : ∀ j, j < n → A[j]? = some (.int .u8 ((f j : Nat) : Int))) : A = row n f := by
  apply Array.ext_getElem?
  intro j
  by_cases hj : j < n
  · rw [h j hj, row_get n f j hj]
  · rw [row_none n f j (by omega), Array.getElem?_eq_none (by omega)]
theorem row_congr {n : Nat} {f g : Nat → Nat} (h : ∀ j, j < n → f j = g j) : row n f = row n g :=
  row_ext (row_size n f) (fun j hj => by rw [row_get n f j hj, h j hj])
theorem row_inj {n : Nat} {f g : Nat → Nat} (h : row n f = row n g) : ∀ j, j < n → f j = g j := by
  intro j hj
  have h1 := row_get n f j hj
  rw [h, row_get n g j hj] at h1
  simp at h1
  omega

/-- One byte turned. -/
def upd (f : Nat → Nat) (k v : Nat) : Nat → Nat := fun j => if j = k then v else f j
theorem upd_same (f : Nat → Nat) (k v : Nat) : upd f k v k = v := by simp [upd]
theorem upd_other (f : Nat → Nat) (k v j : Nat) (h : j ≠ k) : upd f k v j = f j := by simp [upd, h]
theorem row_set (n : Nat) (f : Nat → Nat) (k v : Nat) : (row n f).setIfInBounds k (.int .u8 ((v : Nat) : Int)) = row n (upd f k v) := by
  refine row_ext (by simp [row_size]) (fun j hj => ?_)
  rw [Array.getElem?_setIfInBounds]
  by_cases h : k = j
  · subst h; simp [row_size, hj, upd]
  · rw [if_neg h, row_get n f j hj]; simp [upd, Ne.symm h]
theorem row_zero (n : Nat) : Array.replicate n (Value.int .u8 0) = row n (fun _ => 0) :=
  row_ext (by simp) (fun j hj => by simp [hj])
theorem row_part (n off k : Nat) (f : Nat → Nat) (h : off + k ≤ n) : (row n f).extract off (off + k) = row k (fun j => f (off + j)) := by
  refine row_ext (by simp [row_size]; omega) (fun j hj => ?_)
  rw [Array.getElem?_extract, if_pos (by rw [row_size]; omega)]
  exact row_get n f _ (by omega)

theorem row_whole (n : Nat) (f : Nat → Nat) : (row n f).extract 0 (0 + n) = row n f := by
  rw [row_part n 0 n f (by omega)]; exact row_congr fun j _ => by simp

/-- F up to k, G from k on. -/
def mixF (k : Nat) (F G : Nat → Nat) : Nat → Nat := fun j => if j < k then F j else G j
theorem mixF_zero (F G : Nat → Nat) : mixF 0 F G = G := by funext j; simp [mixF]
theorem mixF_at (k : Nat) (F G : Nat → Nat) : mixF k F G k = G k := by simp [mixF]
theorem mixF_ge (k : Nat) (F G : Nat → Nat) (j : Nat) (h : k ≤ j) : mixF k F G j = G j := by simp [mixF]; omega
theorem mixF_upd (k : Nat) (F G : Nat → Nat) : upd (mixF k F G) k (F k) = mixF (k + 1) F G := by
  funext j
  simp only [upd, mixF]
  by_cases h : j = k
  · subst h; rw [if_pos rfl, if_pos (by omega)]
  · rw [if_neg h]
    by_cases h2 : j < k
    · rw [if_pos h2, if_pos (by omega)]
    · rw [if_neg h2, if_neg (by omega)]
theorem row_mix (n : Nat) (F G : Nat → Nat) : row n (mixF n F G) = row n F := row_congr fun j hj => by simp [mixF, hj]

/-- Block g of w holds the cells cs, and nothing of it is frozen. -/
def Blk (w : World) (g : Nat) (t : TypeId) (cs : Array Value) : Prop := w.heap[g]? = some (.cells cs t (0, 0))

theorem Blk.lt {w : World} {g : Nat} {t : TypeId} {cs : Array Value} (h : Blk w g t cs) : g < w.heap.size := (Array.getElem?_eq_some_iff.1 h).1
theorem Blk.ext {w w' : World} {g : Nat} {t : TypeId} {cs : Array Value} (h : Blk w g t cs) (hx : Ext w w') : Blk w' g t cs := hx.heap h
theorem Blk.cell {w : World} {g : Nat} {t : TypeId} {cs : Array Value} (h : Blk w g t cs) (j : Nat) : w.cell? ⟨g, j, none⟩ = cs[j]? := cell_of_row w g j cs t (0, 0) h
theorem Blk.frozen {w : World} {g : Nat} {t : TypeId} {cs : Array Value} (h : Blk w g t cs) (j : Nat) : w.frozen? ⟨g, j, none⟩ = false := frozen_of_row w g j cs t h
theorem Blk.byte {w : World} {g n : Nat} {t : TypeId} {f : Nat → Nat} (h : Blk w g t (row n f)) : ∀ j, j < n → w.cell? ⟨g, j, none⟩ = some (.int .u8 ((f j : Nat) : Int)) :=
  fun j hj => (h.cell j).trans (row_get n f j hj)
theorem Blk.new (w : World) (t : TypeId) (cs : Array Value) : Blk (w.alloc (.cells cs t)) w.heap.size t cs := heap_alloc_new w _
theorem Blk.alloc {w : World} {g : Nat} {t : TypeId} {cs : Array Value} (h : Blk w g t cs) (o : Obj) : Blk (w.alloc o) g t cs := h.ext (Ext.alloc w o)
theorem Blk.drew {w : World} {g : Nat} {t : TypeId} {cs : Array Value} (h : Blk w g t cs) : Blk w.drew g t cs := h
theorem Blk.drewN {w : World} {g : Nat} {t : TypeId} {cs : Array Value} (h : Blk w g t cs) (n : Nat) : Blk (w.drewN n) g t cs := h
theorem Blk.set {w : World} {g : Nat} {t : TypeId} {cs : Array Value} (h : Blk w g t cs) (j : Nat) (v : Value) : Blk (w.setCell ⟨g, j, none⟩ v) g t (cs.setIfInBounds j v) :=
  heap_setCell_same w g j cs t v h
theorem Blk.other {w : World} {g : Nat} {t : TypeId} {cs : Array Value} (h : Blk w g t cs) {a : Addr} (v : Value) (hne : g ≠ a.block) : Blk (w.setCell a v) g t cs :=
  (heap_setCell_other w a g v hne).trans h
theorem Blk.setB {w : World} {g n : Nat} {t : TypeId} {f : Nat → Nat} (h : Blk w g t (row n f)) (j v : Nat) : Blk (w.setCell ⟨g, j, none⟩ (.int .u8 ((v : Nat) : Int))) g t (row n (upd f j v)) := by
  rw [← row_set]; exact h.set j _

theorem ret_u8 {a b : Int} (h : a = b) : Ending.returned (.int .u8 a) = .returned (.int .u8 b) := by rw [h]
theorem ret_agg {a b : Array Value} (h : a = b) : Ending.returned (.agg a) = .returned (.agg b) := by rw [h]
theorem int_u8 {a b : Int} (h : a = b) : Value.int .u8 a = .int .u8 b := by rw [h]

end Go.Proofs.Ytnigpobbckampaa
namespace Go.Proofs.Ytnigpobbckampaa
set_option linter.unusedSimpArgs false
set_option linter.unusedVariables false
open Go.RowKit

/-- One operation is carried out: what it yields, in which world. -/
def runsUpon (P : Program) (R : Value → World → Prop) : Result Next → Prop
  | .ok (.value v) w' => R v w'
  | .ok .skip w' => R undef w'
  | .ok (.enter f args) w' => Calls P f args w' fun e w'' => ∃ v, e = .returned v ∧ R v w''
  | .ok (.row row args) w' => Rows P row args w' R
  | _ => False
def runs (P : Program) (o : Oper) (a : Act) (w : World) (R : Value → World → Prop) : Prop := runsUpon P R ((execOp a.eval o).run P w)

section
variable {P : Program}

theorem runsUpon_mono {R R' : Value → World → Prop} (h : ∀ v w, R v w → R' v w) {r : Result Next} (hr : runsUpon P R r) : runsUpon P R' r := by
  cases r with
  | ok n w' =>
    cases n <;> simp only [runsUpon] at hr ⊢
    · exact h _ _ hr
    · exact h _ _ hr
    · exact hr.mono fun e w ⟨v, he, hR⟩ => ⟨v, he, h _ _ hR⟩
    · exact hr.mono fun v w hR => h _ _ hR
  | halt x w' => simp only [runsUpon] at hr

theorem slot_put {a : Act} {d : Tmp} {v : Value} (h : d < a.tmps.size) : (a.put (some d) v).tmps.getD d undef = v := by
  simp [Act.put, h]
theorem slot_put_ne {a : Act} {d t : Tmp} {v : Value} (h : t ≠ d) : (a.put (some d) v).tmps.getD t undef = a.tmps.getD t undef := by
  simp [Act.put, Array.getElem?_setIfInBounds_ne (Ne.symm h)]
theorem size_put (a : Act) (d : Option Tmp) (v : Value) : (a.put d v).tmps.size = a.tmps.size := by
  cases d <;> simp [Act.put]
theorem defers_put (a : Act) (d : Option Tmp) (v : Value) : (a.put d v).defers = a.defers := by cases d <;> rfl

/-- From the walk's own form. -/
theorem runs_of_wp {o : Oper} {a : Act} {w : World} {R : Value → World → Prop} {d : Tmp} (hd : o.dst = some d) (hs : d < a.tmps.size)
    (h : ∀ (K : Act → World → Prop), (∀ v w', R v w' → K (a.put o.dst v) w') → o.wp P a w K (fun _ _ _ => False)) : runs P o a w R := by
  have h1 := h (fun a' w' => R (a'.tmps.getD d undef) w') (fun v w' hR => by rw [hd, slot_put hs]; exact hR)
  have h3 := h (fun a' _ => a'.defers = a.defers) (fun v w' _ => defers_put _ _ _)
  unfold runs
  unfold Oper.wp at h1 h3
  generalize (execOp a.eval o).run P w = r at *
  cases r with
  | ok n w' =>
    cases n <;> simp only [Oper.upon, runsUpon, hd, slot_put hs] at h1 h3 ⊢
    · exact h1
    · exact h1
    · refine h1.mono fun e w'' he => ?_
      cases e with
      | returned v => exact ⟨v, rfl, he⟩
      | panicked c => exact he.elim
      | outgrown => obtain ⟨_, _, hf⟩ := he; exact hf.elim
    · have := congrArg List.length h3
      simp [Act.put] at this
    · exact h1
  | halt x w' => cases x <;> simp only [Oper.upon] at h1


/-- What the head's operations are: a value, or a property of a value in a world. -/
inductive Ent where
  | det (v : Value)
  | any (V : Value → World → Prop)
def Ent.V : Ent → Value → World → Prop
  | .det v => fun u _ => u = v
  | .any V => V

/-- The head of a region: n operations, each with a slot of its own, each of which looks only at what it waits for. -/
def dstAt (l : List Oper) (n : Nat) (t : Tmp) : Option Nat := (List.range n).find? fun j => ((l[j]?).bind (·.dst)) == some t
def headB (l : List Oper) (n : Nat) : Bool :=
  (List.range n).all fun k => match l[k]? with
    | none => false
    | some o => (match o.dst with
        | none => false
        | some d => dstAt l n d == some k) &&
      (o.after.toList.all fun e => !Region.binds .any e || decide (e.on < k)) &&
      (o.looksAt l.toArray).all fun t => match dstAt l n t with
        | none => true
        | some j => decide (j < k) && o.after.any fun e => Region.binds .any e && e.on == j

theorem dstAt_some {l : List Oper} {n j : Nat} {t : Tmp} (h : dstAt l n t = some j) : j < n ∧ (l[j]?).bind (·.dst) = some t := by
  unfold dstAt at h
  have h1 := List.find?_some h
  have h2 := List.mem_of_find?_eq_some h
  exact ⟨List.mem_range.1 h2, by simpa using h1⟩
theorem dstAt_none {l : List Oper} {n : Nat} {t : Tmp} (h : dstAt l n t = none) : ∀ j, j < n → (l[j]?).bind (·.dst) ≠ some t := by
  intro j hj he
  unfold dstAt at h
  have := List.find?_eq_none.1 h j (List.mem_range.2 hj)
  simp [he] at this

structure HeadOp (l : List Oper) (n k : Nat) (o : Oper) : Prop where
  dst : ∃ d, o.dst = some d ∧ dstAt l n d = some k
  edges : ∀ e ∈ o.after, Region.binds .any e = true → e.on < k
  looks : ∀ t ∈ o.looksAt l.toArray, ∀ j, dstAt l n t = some j → j < k ∧ ∃ e ∈ o.after, Region.binds .any e = true ∧ e.on = j

theorem headB_spec {l : List Oper} {n : Nat} (h : headB l n = true) {k : Nat} (hk : k < n) : ∃ o, l[k]? = some o ∧ HeadOp l n k o := by
  unfold headB at h
  have h1 := List.all_eq_true.1 h k (List.mem_range.2 hk)
  cases ho : l[k]? with
  | none => simp [ho] at h1
  | some o =>
    simp only [ho, Bool.and_eq_true] at h1
    obtain ⟨⟨ha, hb⟩, hc⟩ := h1
    refine ⟨o, rfl, ?_, ?_, ?_⟩
    · cases hd : o.dst with
      | none => simp [hd] at ha
      | some d => simp only [hd, beq_iff_eq] at ha; exact ⟨d, rfl, ha⟩
    · intro e he hbi
      have := List.all_eq_true.1 hb e (Array.mem_toList_iff.2 he)
      simpa [hbi] using this
    · intro t ht j hj
      have := List.all_eq_true.1 hc t ht
      simp only [hj, Bool.and_eq_true, decide_eq_true_eq] at this
      refine ⟨this.1, ?_⟩
      obtain ⟨e, he, hb2⟩ := Array.any_eq_true'.1 this.2
      simp only [Bool.and_eq_true, beq_iff_eq] at hb2
      exact ⟨e, he, hb2.1, hb2.2⟩

/-- What is known while the head is carried out, in whatever order. -/
structure Mid (l : List Oper) (n : Nat) (E : Nat → Ent) (a0 : Act) (w0 : World) (listed : Array Bool) (a : Act) (w : World) : Prop where
  inv : HeadInv .any l.toArray n listed
  ext : Ext w0 w
  size : a.tmps.size = a0.tmps.size
  defers : a.defers = a0.defers
  old : ∀ t, (∀ j, dstAt l n t = some j → listed.getD j false = false) → a.tmps.getD t undef = a0.tmps.getD t undef
  new : ∀ j, listed.getD j false = true → ∀ t, dstAt l n t = some j → (E j).V (a.tmps.getD t undef) w

/-- What is owed of each head operation. -/
def Owed (P : Program) (l : List Oper) (n : Nat) (E : Nat → Ent) (a0 : Act) (w0 : World) : Prop :=
  ∀ k o, k < n → l[k]? = some o → ∀ a w, Ext w0 w → a.tmps.size = a0.tmps.size → a.defers = a0.defers →
    (∀ t ∈ o.looksAt l.toArray, dstAt l n t = none → a.tmps.getD t undef = a0.tmps.getD t undef) →
    (∀ t ∈ o.looksAt l.toArray, ∀ j, dstAt l n t = some j → (E j).V (a.tmps.getD t undef) w) →
    if Region.wanted o (yielded l.toArray a.tmps) then runs P o a w (fun v w' => Ext w w' ∧ (E k).V v w') else (E k).V undef w

theorem Mid.step {l : List Oper} {n : Nat} {E : Nat → Ent} {a0 : Act} {w0 : World} {listed : Array Bool} {a : Act} {w w' : World} {k : Nat} {o : Oper} {v : Value}
    (hB : headB l n = true) (hmono : ∀ j v w w', Ext w w' → (E j).V v w → (E j).V v w') (hin : ∀ t j, dstAt l n t = some j → t < a0.tmps.size)
    (m : Mid l n E a0 w0 listed a w) (hr : k ∈ Region.ready .any l.toArray listed) (hk : k < n) (ho : l[k]? = some o) (hx : Ext w w') (hv : (E k).V v w') :
    Mid l n E a0 w0 (listed.setIfInBounds k true) (a.put o.dst v) w' := by
  obtain ⟨o', ho', hop⟩ := headB_spec hB hk
  have : o' = o := Option.some.inj (ho'.symm.trans ho)
  subst this
  obtain ⟨d, hd, hdk⟩ := hop.dst
  have hds := hin d k hdk
  refine ⟨m.inv.set hr hk, m.ext.trans hx, (size_put _ _ _).trans m.size, (defers_put _ _ _).trans m.defers, fun t ht => ?_, fun j hj t htj => ?_⟩
  · rw [hd]
    have hne : t ≠ d := by
      intro e
      subst e
      have := ht k hdk
      have hsz : k < listed.size := by
        rw [m.inv.size]
        have := (List.getElem?_eq_some_iff.1 ho).1
        simpa using this
      simp [hsz] at this
    rw [slot_put_ne hne]
    refine m.old t fun j hj => ?_
    have h1 := ht j hj
    by_cases hjk : k = j
    · subst hjk
      have := (dstAt_some hj).2
      have h2 := (dstAt_some hdk).2
      rw [h2] at this
      exact absurd (Option.some.inj this).symm hne
    · rwa [getD_set_ne false hjk] at h1
  · rw [hd]
    by_cases hjk : j = k
    · subst hjk
      have h1 := (dstAt_some htj).2
      have h2 := (dstAt_some hdk).2
      rw [h2] at h1
      obtain rfl := Option.some.inj h1
      rw [slot_put (by rw [m.size]; exact hds)]
      exact hv
    · have hne : t ≠ d := by
        intro e
        subst e
        rw [hdk] at htj
        exact hjk (Option.some.inj htj).symm
      rw [slot_put_ne hne]
      rw [getD_set_ne false (Ne.symm hjk)] at hj
      exact hmono _ _ _ _ hx (m.new j hj t htj)

/-- Listed counts. -/
def unlisted (listed : Array Bool) (n : Nat) : Nat := ((List.range n).filter fun i => !listed.getD i false).length

theorem wpAny_midG {l : List Oper} {n : Nat} {E : Nat → Ent} {a0 : Act} {w0 : World} {Q : Exit → Act → World → Prop}
    (hB : headB l n = true) (hmono : ∀ j v w w', Ext w w' → (E j).V v w → (E j).V v w') (hin : ∀ t j, dstAt l n t = some j → t < a0.tmps.size)
    (hn : n ≤ l.length) (ow : Owed P l n E a0 w0) {g : Nat}
    (tail : ∀ listed a w, Mid l n E a0 w0 listed a w → (∀ k, k < n → listed.getD k false = true) → wpAny P .any l.toArray Q g listed a w)
    (late : ∀ f listed a w, Mid l n E a0 w0 listed a w → unlisted listed n = f + 1 → ∀ k ∈ Region.ready .any l.toArray listed, n ≤ k → wpOp P l.toArray Q k (wpAny P .any l.toArray Q (f + g) (listed.setIfInBounds k true)) a w) :
    ∀ (f : Nat) (listed : Array Bool) (a : Act) (w : World), Mid l n E a0 w0 listed a w → unlisted listed n = f → wpAny P .any l.toArray Q (f + g) listed a w := by
  intro f
  induction f with
  | zero =>
    intro listed a w m hu
    rw [Nat.zero_add]
    refine tail listed a w m fun k hk => ?_
    unfold unlisted at hu
    have h1 := List.length_eq_zero_iff.1 hu
    have h2 := List.filter_eq_nil_iff.1 h1 k (List.mem_range.2 hk)
    simpa using h2
  | succ f ih =>
    intro listed a w m hu
    have hpos : 0 < unlisted listed n := by omega
    -- the least one that is not listed is ready
    have hex : ∃ i, i < n ∧ listed.getD i false = false := by
      unfold unlisted at hpos
      obtain ⟨i, hi⟩ := List.exists_mem_of_length_pos hpos
      simp only [List.mem_filter, List.mem_range, Bool.not_eq_true'] at hi
      exact ⟨i, hi⟩
    obtain ⟨i, hi, hun⟩ := hex
    have hlt : ∀ {i}, i < n → i < listed.size := fun h => by rw [m.inv.size]; simpa using Nat.lt_of_lt_of_le h hn
    have hunt : ∀ {i}, i < n → listed.getD i false = false → listed.getD i true = false := fun h h2 => getD_in (hlt h) h2
    have hready : ∃ k, k ∈ Region.ready .any l.toArray listed ∧ k < n := by
      have key : ∀ i, i < n → listed.getD i false = false → ∃ k, k ∈ Region.ready .any l.toArray listed ∧ k < n := by
        intro i
        induction i using Nat.strongRecOn with
        | _ i ihi =>
          intro hi hun
          obtain ⟨o, ho, hop⟩ := headB_spec hB hi
          by_cases hall : ∀ e ∈ o.after, Region.binds .any e = true → listed.getD e.on false = true
          · exact ⟨i, mem_ready.2 ⟨hunt hi hun, o, by simpa using ho, hall⟩, hi⟩
          · have : ∃ e ∈ o.after, Region.binds .any e = true ∧ listed.getD e.on false = false := by
              refine Classical.byContradiction fun hno => hall fun e he hb => ?_
              cases hl : listed.getD e.on false with
              | true => rfl
              | false => exact absurd ⟨e, he, hb, hl⟩ hno
            obtain ⟨e, he, hb, hl⟩ := this
            have hlt2 := hop.edges e he hb
            exact ihi e.on hlt2 (by omega) hl
      exact key i hi hun
    rw [show f + 1 + g = (f + g) + 1 by omega]
    refine ⟨fun h0 => ?_, fun k hk => ?_⟩
    · obtain ⟨k, hk, _⟩ := hready
      rw [h0] at hk
      cases hk
    · rcases Nat.lt_or_ge k n with hkn | hkn
      rotate_left
      · exact late f listed a w m hu k hk hkn
      obtain ⟨o, ho, hop⟩ := headB_spec hB hkn
      obtain ⟨hkun, o', ho', hall⟩ := mem_ready.1 hk
      have : o' = o := Option.some.inj (ho'.symm.trans (by simpa using ho))
      subst this
      have hob := ow k o' hkn ho a w m.ext m.size m.defers
        (fun t ht hnone => m.old t fun j hj => by rw [hnone] at hj; cases hj)
        (fun t ht j hj => by
          obtain ⟨_, e, he, hb, hon⟩ := hop.looks t ht j hj
          exact m.new j (hon ▸ hall e he hb) t hj)
      have hfew : unlisted (listed.setIfInBounds k true) n = f := by
        have hcount : unlisted listed n = unlisted (listed.setIfInBounds k true) n + 1 := by
          unfold unlisted
          have hkl : listed.getD k false = false := getD_both hkun
          have : ((List.range n).filter (fun i => !listed.getD i false)).length = ((List.range n).filter (fun i => !(listed.setIfInBounds k true).getD i false)).length + 1 := by
            have hgen : ∀ (L : List Nat), L.Nodup → k ∈ L → (L.filter (fun i => !listed.getD i false)).length = (L.filter (fun i => !(listed.setIfInBounds k true).getD i false)).length + 1 := by
              intro L
              induction L with
              | nil => intro _ h; cases h
              | cons x L ihL =>
                intro hnd hmem
                have hnd' := List.nodup_cons.1 hnd
                by_cases hxk : x = k
                · subst hxk
                  have hsame : L.filter (fun i => !listed.getD i false) = L.filter (fun i => !(listed.setIfInBounds x true).getD i false) := by
                    refine List.filter_congr fun i hi => ?_
                    have : x ≠ i := fun e => hnd'.1 (e ▸ hi)
                    rw [getD_set_ne false this]
                  have h1 : (listed.setIfInBounds x true).getD x false = true := by simp [hlt hkn]
                  simp only [List.filter_cons, hkl, h1, Bool.not_false, Bool.not_true, if_true, Bool.false_eq_true, if_false, List.length_cons, hsame]
                · have hmem' : k ∈ L := by
                    cases hmem with
                    | head => exact absurd rfl hxk
                    | tail _ h => exact h
                  have := ihL hnd'.2 hmem'
                  have h1 : (listed.setIfInBounds k true).getD x false = listed.getD x false := getD_set_ne false (Ne.symm hxk)
                  simp only [List.filter_cons, h1]
                  split
                  · simp only [List.length_cons]; omega
                  · exact this
            exact hgen _ List.nodup_range (List.mem_range.2 hkn)
          exact this
        omega
      unfold wpOp
      have ho2 : l.toArray[k]? = some o' := by simpa using ho
      simp only [ho2]
      split
      · rename_i hw
        rw [if_pos hw] at hob
        refine .inl ?_
        unfold runs at hob
        unfold Oper.wp
        generalize (execOp a.eval o').run P w = r at *
        cases r with
        | ok nx w' =>
          cases nx <;> simp only [runsUpon] at hob <;> simp only [Oper.upon]
          · exact ih _ _ _ (m.step hB hmono hin hk hkn ho hob.1 hob.2) hfew
          · exact ih _ _ _ (m.step hB hmono hin hk hkn ho hob.1 hob.2) hfew
          · refine hob.mono fun e w'' ⟨v, he, hx, hv⟩ => ?_
            subst he
            exact ih _ _ _ (m.step hB hmono hin hk hkn ho hx hv) hfew
          · exact hob.mono fun v w'' ⟨hx, hv⟩ => ih _ _ _ (m.step hB hmono hin hk hkn ho hx hv) hfew
        | halt x w' => simp only [runsUpon] at hob
      · rename_i hw
        rw [if_neg hw] at hob
        exact ih _ _ _ (m.step hB hmono hin hk hkn ho (Ext.refl w) hob) hfew

theorem exists_unlisted {listed : Array Bool} {n : Nat} (hpos : 0 < unlisted listed n) : ∃ i, i < n ∧ listed.getD i false = false := by
  unfold unlisted at hpos
  obtain ⟨i, hi⟩ := List.exists_mem_of_length_pos hpos
  simp only [List.mem_filter, List.mem_range, Bool.not_eq_true'] at hi
  exact ⟨i, hi⟩

theorem wpAny_mid {l : List Oper} {n : Nat} {E : Nat → Ent} {a0 : Act} {w0 : World} {Q : Exit → Act → World → Prop}
    (hB : headB l n = true) (hmono : ∀ j v w w', Ext w w' → (E j).V v w → (E j).V v w') (hin : ∀ t j, dstAt l n t = some j → t < a0.tmps.size)
    (hn : n ≤ l.length) (hsc : n < l.length → Region.sinkB .any l.toArray n = true ∧ Region.chainB .any l.toArray n = true)
    (ow : Owed P l n E a0 w0) {g : Nat}
    (tail : ∀ listed a w, Mid l n E a0 w0 listed a w → (∀ k, k < n → listed.getD k false = true) → wpAny P .any l.toArray Q g listed a w) :
    ∀ (f : Nat) (listed : Array Bool) (a : Act) (w : World), Mid l n E a0 w0 listed a w → unlisted listed n = f → wpAny P .any l.toArray Q (f + g) listed a w :=
  wpAny_midG hB hmono hin hn ow tail fun f listed a w m hu k hk h => by
    obtain ⟨i, hi, hun⟩ := exists_unlisted (listed := listed) (n := n) (by omega)
    have hkl : k < l.length := by
      obtain ⟨_, o, ho, _⟩ := mem_ready.1 hk
      simpa using (Array.getElem?_eq_some_iff.1 ho).1
    obtain ⟨hs, hc⟩ := hsc (by omega)
    exact absurd hk (tail_waits hs hc (by simp; omega) m.inv _ i rfl hi (getD_in (by rw [m.inv.size]; simp; omega) hun) k h)

/-! ### The script: one entry a head operation, the frame written out as the text goes on. -/

def factsOf (ops : Array Oper) (o : Oper) (F : List (Tmp × (World → Prop))) (w : World) : Prop := ∀ p ∈ F, p.1 ∈ o.looksAt ops → p.2 w

def wpE (P : Program) (ops : Array Oper) (w0 : World) (T : Act → List (Tmp × (World → Prop)) → Prop) : List Oper → List Ent → Act → List (Tmp × (World → Prop)) → Prop
  | o :: l, .det v :: es, a, F =>
    (if Region.wanted o (yielded ops a.tmps) then ∀ w, Ext w0 w → factsOf ops o F w → runs P o a w (fun u w' => Ext w w' ∧ u = v) else v = undef) ∧ wpE P ops w0 T l es (a.put o.dst v) F
  | o :: l, .any V :: es, a, F =>
    Region.wanted o (yielded ops a.tmps) = true ∧ (∀ u w w', Ext w w' → V u w → V u w') ∧ (∀ w, Ext w0 w → factsOf ops o F w → runs P o a w (fun u w' => Ext w w' ∧ V u w')) ∧
      ∀ u, wpE P ops w0 T l es (a.put o.dst u) ((o.dst.getD 0, V u) :: F)
  | _, [], a, F => T a F
  | [], _ :: _, _, _ => False

structure FrameAt (l : List Oper) (n : Nat) (es : List Ent) (s : Tmp → Value) (a0 : Act) (k : Nat) (a : Act) (F : List (Tmp × (World → Prop))) : Prop where
  size : a.tmps.size = a0.tmps.size
  defers : a.defers = a0.defers
  old : ∀ t, (∀ j, dstAt l n t = some j → k ≤ j) → a.tmps.getD t undef = a0.tmps.getD t undef
  det : ∀ t j v, dstAt l n t = some j → j < k → es[j]? = some (.det v) → a.tmps.getD t undef = v
  any : ∀ t j V, dstAt l n t = some j → j < k → es[j]? = some (.any V) → a.tmps.getD t undef = s t
  facts : ∀ p ∈ F, ∃ j V, j < k ∧ dstAt l n p.1 = some j ∧ es[j]? = some (.any V) ∧ p.2 = V (s p.1)

theorem dstAt_inj {l : List Oper} {n : Nat} (hB : headB l n = true) {k : Nat} (hk : k < n) {o : Oper} (ho : l[k]? = some o) : ∃ d, o.dst = some d ∧ dstAt l n d = some k := by
  obtain ⟨o', ho', hop⟩ := headB_spec hB hk
  have : o' = o := Option.some.inj (ho'.symm.trans ho)
  subst this
  exact hop.dst

theorem frame_step {l : List Oper} {n : Nat} {es : List Ent} {s : Tmp → Value} {a0 : Act} {k : Nat} {a : Act} {F : List (Tmp × (World → Prop))} {o : Oper} {v : Value}
    (hB : headB l n = true) (hin : ∀ t j, dstAt l n t = some j → t < a0.tmps.size) (hk : k < n) (ho : l[k]? = some o) (h : FrameAt l n es s a0 k a F)
    (hv : (∀ u, es[k]? = some (.det u) → v = u) ∧ (∀ V d, es[k]? = some (.any V) → o.dst = some d → v = s d)) (F' : List (Tmp × (World → Prop)))
    (hF : ∀ p ∈ F', p ∈ F ∨ ∃ V, es[k]? = some (.any V) ∧ o.dst = some p.1 ∧ p.2 = V (s p.1)) : FrameAt l n es s a0 (k + 1) (a.put o.dst v) F' := by
  obtain ⟨d, hd, hdk⟩ := dstAt_inj hB hk ho
  have hds : d < a.tmps.size := by rw [h.size]; exact hin d k hdk
  refine ⟨(size_put _ _ _).trans h.size, (defers_put _ _ _).trans h.defers, fun t ht => ?_, fun t j u htj hj he => ?_, fun t j V htj hj he => ?_, fun p hp => ?_⟩
  · rw [hd]
    have hne : t ≠ d := fun e => by subst e; have := ht k hdk; omega
    rw [slot_put_ne hne]
    exact h.old t fun j hj => by have := ht j hj; omega
  · rw [hd]
    by_cases hjk : j = k
    · subst hjk
      have h1 := (dstAt_some htj).2
      have h2 := (dstAt_some hdk).2
      rw [h2] at h1
      obtain rfl := Option.some.inj h1
      rw [slot_put hds]
      exact hv.1 u he
    · have hne : t ≠ d := fun e => by subst e; rw [hdk] at htj; exact hjk (Option.some.inj htj).symm
      rw [slot_put_ne hne]
      exact h.det t j u htj (by omega) he
  · rw [hd]
    by_cases hjk : j = k
    · subst hjk
      have h1 := (dstAt_some htj).2
      have h2 := (dstAt_some hdk).2
      rw [h2] at h1
      obtain rfl := Option.some.inj h1
      rw [slot_put hds]
      exact hv.2 V d he hd
    · have hne : t ≠ d := fun e => by subst e; rw [hdk] at htj; exact hjk (Option.some.inj htj).symm
      rw [slot_put_ne hne]
      exact h.any t j V htj (by omega) he
  · rcases hF p hp with h1 | ⟨V, he, hd2, hp2⟩
    · obtain ⟨j, V, hj, rest⟩ := h.facts p h1
      exact ⟨j, V, by omega, rest⟩
    · have : d = p.1 := Option.some.inj (hd.symm.trans hd2)
      exact ⟨k, V, by omega, this ▸ hdk, he, hp2⟩

theorem frames {l : List Oper} {n : Nat} {es : List Ent} {a0 : Act} {w0 : World} {T : Act → List (Tmp × (World → Prop)) → Prop}
    (hB : headB l n = true) (hn : n ≤ l.length) (hes : es.length = n) (hin : ∀ t j, dstAt l n t = some j → t < a0.tmps.size) (h : wpE P l.toArray w0 T l es a0 []) (s : Tmp → Value) :
    ∀ k, k ≤ n → ∃ a F, wpE P l.toArray w0 T (l.drop k) (es.drop k) a F ∧ FrameAt l n es s a0 k a F := by
  intro k
  induction k with
  | zero =>
    intro _
    exact ⟨a0, [], h, rfl, rfl, fun _ _ => rfl, fun _ _ _ _ hj => absurd hj (Nat.not_lt_zero _), fun _ _ _ _ hj => absurd hj (Nat.not_lt_zero _), fun p hp => by cases hp⟩
  | succ k ih =>
    intro hk
    obtain ⟨a, F, hw, hf⟩ := ih (by omega)
    have hkl : k < l.length := by omega
    have hke : k < es.length := by omega
    have e1 : l.drop k = l[k] :: l.drop (k + 1) := List.drop_eq_getElem_cons hkl
    have e2 : es.drop k = es[k] :: es.drop (k + 1) := List.drop_eq_getElem_cons hke
    rw [e1, e2] at hw
    have ho : l[k]? = some l[k] := List.getElem?_eq_getElem hkl
    have hee : es[k]? = some es[k] := List.getElem?_eq_getElem hke
    generalize l[k] = o at hw ho
    generalize es[k] = e at hw hee
    cases e with
    | det v =>
      simp only [wpE] at hw
      exact ⟨_, _, hw.2, frame_step hB hin (by omega) ho hf ⟨fun u hu => (by rw [hee] at hu; cases hu; rfl), fun V d hV => (by rw [hee] at hV; cases hV)⟩ F (fun p hp => .inl hp)⟩
    | any V =>
      simp only [wpE] at hw
      obtain ⟨d, hd, hdk⟩ := dstAt_inj hB (show k < n by omega) ho
      refine ⟨_, _, hw.2.2.2 (s d), frame_step hB hin (by omega) ho hf ⟨fun u hu => (by rw [hee] at hu; cases hu), fun V' d' _ hd' => (by rw [hd] at hd'; cases hd'; rfl)⟩ _ (fun p hp => ?_)⟩
      cases hp with
      | head => exact .inr ⟨V, hee, by simp [hd], by simp [hd]⟩
      | tail _ hp => exact .inl hp

def entAt (es : List Ent) (j : Nat) : Ent := es.getD j (.any fun _ _ => True)

theorem runs_congr {o : Oper} {a a' : Act} {w : World} {R : Value → World → Prop} (he : execOp a.eval o = execOp a'.eval o) (h : runs P o a w R) : runs P o a' w R := by
  unfold runs at *; rw [← he]; exact h

theorem yielded_congr {ops : Array Oper} {a a' : Act} {g : Nat} (h : ∀ t, (ops[g]?).bind (·.dst) = some t → a.tmps.getD t undef = a'.tmps.getD t undef) : yielded ops a.tmps g = yielded ops a'.tmps g := by
  unfold yielded
  cases ht : (ops[g]?).bind (·.dst) with
  | none => rfl
  | some t =>
    have h1 := h t ht
    have aux : ∀ (b : Array Value), (match (some t : Option Tmp).bind (b[·]?) with | some (.bool x) => some x | _ => none) = (match b.getD t undef with | .bool x => some x | _ => none) := by
      intro b
      cases hb : b[t]? with
      | none => simp [hb, undef]
      | some v => simp only [Option.bind_some, hb, Array.getD_eq_getD_getElem?, Option.getD_some]; cases v <;> rfl
    exact (aux _).trans ((congrArg (fun v => match v with | Value.bool x => some x | _ => none) h1).trans (aux _).symm)

theorem owed_of_wpE {l : List Oper} {n : Nat} {es : List Ent} {a0 : Act} {w0 : World} {T : Act → List (Tmp × (World → Prop)) → Prop}
    (hsel : Region.noSelect l.toArray = true) (hB : headB l n = true) (hn : n ≤ l.length) (hes : es.length = n) (hin : ∀ t j, dstAt l n t = some j → t < a0.tmps.size)
    (h : wpE P l.toArray w0 T l es a0 []) : Owed P l n (entAt es) a0 w0 := by
  intro k o hk ho a w hx hsz hdf hold hnew
  obtain ⟨a', F, hw, hf⟩ := frames hB hn hes hin h (fun t => a.tmps.getD t undef) k (by omega)
  obtain ⟨o', ho', hop⟩ := headB_spec hB hk
  have : o' = o := Option.some.inj (ho'.symm.trans ho)
  subst this
  -- the slots that it looks at hold the same in both frames
  have same : ∀ t ∈ o'.looksAt l.toArray, a'.tmps.getD t undef = a.tmps.getD t undef := by
    intro t ht
    cases hd : dstAt l n t with
    | none => rw [hold t ht hd]; exact hf.old t fun j hj => by rw [hd] at hj; cases hj
    | some j =>
      obtain ⟨hjk, _⟩ := hop.looks t ht j hd
      have hV := hnew t ht j hd
      have hje : j < es.length := by omega
      have hej : es[j]? = some es[j] := List.getElem?_eq_getElem hje
      have hent : entAt es j = es[j] := by simp [entAt, hje]
      cases he : es[j] with
      | det v =>
        rw [he] at hej
        rw [hent, he] at hV
        rw [hf.det t j v hd hjk hej]
        exact hV.symm
      | any V =>
        rw [he] at hej
        exact hf.any t j V hd hjk hej
  have hexec : execOp a'.eval o' = execOp a.eval o' := execOp_congr o' (fun cs b => Region.noSelect_spec hsel k o' cs b (by simpa using ho)) fun x hxm => by
    cases x with
    | tmp t => exact same t (List.mem_append_left _ (List.mem_filterMap.2 ⟨.tmp t, by simpa using hxm, rfl⟩))
    | _ => rfl
  have hwant : Region.wanted o' (yielded l.toArray a'.tmps) = Region.wanted o' (yielded l.toArray a.tmps) := by
    unfold Region.wanted
    cases hg : o'.guard with
    | none => rfl
    | some gw =>
      obtain ⟨g, want⟩ := gw
      have := yielded_congr (ops := l.toArray) (a := a') (a' := a) (g := g) fun t ht => same t (List.mem_append_right _ (by simp only [hg, ht]; simp))
      simp only [this]
  have hfacts : factsOf l.toArray o' F w := by
    intro p hp hl
    obtain ⟨j, V, hj, hd, he, hp2⟩ := hf.facts p hp
    have hV := hnew p.1 hl j hd
    have hent : entAt es j = .any V := by simp [entAt, List.getD_eq_getElem?_getD, he]
    rw [hent] at hV
    rw [hp2]
    exact hV
  have hkl : k < l.length := by omega
  have hke : k < es.length := by omega
  rw [List.drop_eq_getElem_cons hkl, List.drop_eq_getElem_cons hke] at hw
  have hlo : l[k] = o' := by rw [List.getElem?_eq_getElem hkl] at ho; exact Option.some.inj ho
  have hent : entAt es k = es[k] := by simp [entAt, hke]
  rw [hlo] at hw
  rw [hent]
  cases he : es[k] with
  | det v =>
    rw [he] at hw
    simp only [wpE] at hw
    rw [hwant] at hw
    have h1 := hw.1
    split
    · rename_i hwt; rw [if_pos hwt] at h1; exact runs_congr hexec (h1 w hx hfacts)
    · rename_i hwt; rw [if_neg hwt] at h1; exact h1.symm
  | any V =>
    rw [he] at hw
    simp only [wpE] at hw
    rw [hwant] at hw
    rw [if_pos hw.1]
    exact runs_congr hexec (hw.2.2.1 w hx hfacts)

theorem mono_of_wpE {l : List Oper} {n : Nat} {es : List Ent} {a0 : Act} {w0 : World} {T : Act → List (Tmp × (World → Prop)) → Prop}
    (hB : headB l n = true) (hn : n ≤ l.length) (hes : es.length = n) (hin : ∀ t j, dstAt l n t = some j → t < a0.tmps.size) (h : wpE P l.toArray w0 T l es a0 []) :
    ∀ j v w w', Ext w w' → (entAt es j).V v w → (entAt es j).V v w' := by
  intro j v w w' hx hv
  by_cases hj : j < n
  · obtain ⟨a', F, hw, _⟩ := frames hB hn hes hin h (fun _ => undef) j (by omega)
    have hjl : j < l.length := by omega
    have hje : j < es.length := by omega
    rw [List.drop_eq_getElem_cons hjl, List.drop_eq_getElem_cons hje] at hw
    have hent : entAt es j = es[j] := by simp [entAt, hje]
    rw [hent] at hv ⊢
    cases he : es[j] with
    | det u => rw [he] at hv; exact hv
    | any V =>
      rw [he] at hw hv
      simp only [wpE] at hw
      exact hw.2.1 v w w' hx hv
  · have hent : entAt es j = .any fun _ _ => True := by simp [entAt, List.getD_eq_getElem?_getD, show es.length ≤ j by omega]
    rw [hent]; trivial

/-- The closed check: the head, and the tail in its order. -/
def midB (l : List Oper) (n : Nat) (N : Nat) : Bool :=
  Region.noSelect l.toArray && headB l n && decide (n ≤ l.length) && (decide (n = l.length) || (Region.sinkB .any l.toArray n && Region.chainB .any l.toArray n)) &&
  Region.seqB .any l.toArray (l.length - n) n ((List.range l.length).map (fun i => decide (i < n))).toArray &&
  (List.range n).all fun k => match (l[k]?).bind (·.dst) with | some d => decide (d < N) | none => true

theorem any_mid {Q : Exit → Act → World → Prop} {a : Act} {w : World} {l : List Oper} (n : Nat) (es : List Ent) (hes : es.length = n)
    (hB : midB l n a.tmps.size = true)
    (h : wpE P l.toArray w (fun a' F => ∀ w', Ext w w' → (∀ p ∈ F, p.2 w') → wpList P l.toArray Q (l.drop n) a' w') l es a []) :
    wpAny P .any l.toArray Q l.toArray.size (Array.replicate l.toArray.size false) a { w with drawn := w.drawn + 1 } := by
  simp only [midB, Bool.and_eq_true, Bool.or_eq_true, decide_eq_true_eq] at hB
  obtain ⟨⟨⟨⟨⟨hsel, hhead⟩, hn⟩, hsc⟩, hseq⟩, hslots⟩ := hB
  have hin : ∀ t j, dstAt l n t = some j → t < a.tmps.size := by
    intro t j hj
    obtain ⟨h1, h2⟩ := dstAt_some hj
    have := List.all_eq_true.1 hslots j (List.mem_range.2 h1)
    simpa [h2] using this
  have hmono := mono_of_wpE hhead hn hes hin h
  have how := owed_of_wpE hsel hhead hn hes hin h
  have hg : n + (l.length - n) = l.toArray.size := by simp; omega
  have hstart : Mid l n (entAt es) a w (Array.replicate l.toArray.size false) a { w with drawn := w.drawn + 1 } := by
    refine ⟨⟨by simp, fun j oj _ hl => (by rw [getD_replicate_false] at hl; cases hl), fun t _ ht => getD_in (by simpa using ht) (getD_replicate_false _ _)⟩, Ext.drew w, rfl, rfl, fun _ _ => rfl, fun j hj => (by rw [getD_replicate_false] at hj; cases hj)⟩
  have hcount : unlisted (Array.replicate l.toArray.size false) n = n := by
    unfold unlisted
    rw [List.filter_eq_self.2 (fun i _ => by rw [getD_replicate_false]; rfl)]
    simp
  have hgoal : wpAny P .any l.toArray Q (n + (l.length - n)) (Array.replicate l.toArray.size false) a { w with drawn := w.drawn + 1 } := ?_
  · rw [hg] at hgoal; exact hgoal
  refine wpAny_mid hhead hmono hin hn (fun hlt => ?_) how (fun listed a' w' m hall => ?_) n _ a _ hstart hcount
  · rcases hsc with h1 | h1
    · omega
    · exact h1
  · -- the tail
    have hlisted : listed = ((List.range l.length).map (fun i => decide (i < n))).toArray := by
      apply Array.ext_getElem?
      intro i
      by_cases hi : i < l.length
      · have hsz : i < listed.size := by rw [m.inv.size]; simpa using hi
        rw [Array.getElem?_eq_getElem hsz]
        simp only [List.getElem?_toArray, List.getElem?_map, List.getElem?_range hi, Option.map_some]
        by_cases hin' : i < n
        · have := hall i hin'
          simp only [Array.getD_eq_getD_getElem?, Array.getElem?_eq_getElem hsz, Option.getD_some] at this
          simp [this, hin']
        · have := m.inv.tail i (by omega) (by simpa using hi)
          simp only [Array.getD_eq_getD_getElem?, Array.getElem?_eq_getElem hsz, Option.getD_some] at this
          simp [this, hin']
      · have hge : l.length ≤ i := by omega
        rw [Array.getElem?_eq_none (by rw [m.inv.size]; simpa using hge), Array.getElem?_eq_none (by simpa using hge)]
    obtain ⟨an, F, hT, hf⟩ := frames hhead hn hes hin h (fun t => a'.tmps.getD t undef) n (Nat.le_refl _)
    have hdrop : es.drop n = [] := by rw [← hes]; simp
    rw [hdrop] at hT
    have hT' : ∀ w', Ext w w' → (∀ p ∈ F, p.2 w') → wpList P l.toArray Q (l.drop n) an w' := by
      cases hl : l.drop n with
      | nil => rw [hl] at hT; simpa only [wpE, hl] using hT
      | cons o rest => rw [hl] at hT; simpa only [wpE, hl] using hT
    have han : an = a' := by
      have hsz : an.tmps.size = a'.tmps.size := hf.size.trans m.size.symm
      have hslot : ∀ t, an.tmps.getD t undef = a'.tmps.getD t undef := by
        intro t
        cases hd : dstAt l n t with
        | none =>
          rw [hf.old t (fun j hj => by rw [hd] at hj; cases hj), m.old t (fun j hj => by rw [hd] at hj; cases hj)]
        | some j =>
          have hjn := (dstAt_some hd).1
          have hV := m.new j (hall j hjn) t hd
          have hje : j < es.length := by omega
          have hej : es[j]? = some es[j] := List.getElem?_eq_getElem hje
          have hent : entAt es j = es[j] := by simp [entAt, hje]
          cases he : es[j] with
          | det v =>
            rw [he] at hej
            rw [hent, he] at hV
            rw [hf.det t j v hd hjn hej]
            exact hV.symm
          | any V =>
            rw [he] at hej
            exact hf.any t j V hd hjn hej
      have htm : an.tmps = a'.tmps := by
        apply Array.ext hsz
        intro i h1 h2
        have := hslot i
        simpa [h1, h2] using this
      have hdef : an.defers = a'.defers := hf.defers.trans m.defers.symm
      cases an; cases a'; simp only at htm hdef; subst htm hdef; rfl
    have hfin := hT' w' m.ext (fun p hp => by
      obtain ⟨j, V, hj, hd, he, hp2⟩ := hf.facts p hp
      have hV := m.new j (hall j hj) p.1 hd
      have hent : entAt es j = .any V := by simp [entAt, List.getD_eq_getElem?_getD, he]
      rw [hent] at hV
      rw [hp2]
      exact hV)
    rw [han] at hfin
    have := wpAny_of_seq (md := .any) (Q' := Q) (l.drop n) n listed a' w' (fun j => by simp [List.getElem?_drop]) (by rw [hlisted]; simpa using hseq) hfin
    simpa using this

theorem wp_region_mid {id : Nat} {Q : Exit → Act → World → Prop} {a : Act} {w : World} {l : List Oper} (n : Nat) (es : List Ent) (hm : P.follows .mixedOrders = true) (hes : es.length = n)
    (hB : midB l n a.tmps.size = true)
    (h : wpE P l.toArray w (fun a' F => ∀ w', Ext w w' → (∀ p ∈ F, p.2 w') → wpList P l.toArray Q (l.drop n) a' w') l es a []) : (Code.region id l.toArray true).wp P Q a w :=
  wp_region_any hm (any_mid n es hes hB h)

theorem put_lit (l : List Value) (d : Tmp) (v : Value) (df : List Deferred) : (({ tmps := l.toArray, defers := df } : Act).put (some d) v) = { tmps := (l.set d v).toArray, defers := df } := by
  simp [Act.put]
theorem eval_lit (l : List Value) (t : Tmp) (df : List Deferred) : (({ tmps := l.toArray, defers := df } : Act).eval (.tmp t)) = l.getD t undef := by
  simp [Act.eval, List.getD_eq_getElem?_getD]

/-! ### Steps of the script. -/
section
variable {ops : Array Oper} {w0 : World} {T : Act → List (Tmp × (World → Prop)) → Prop} {o : Oper} {l : List Oper} {es : List Ent} {a : Act} {F : List (Tmp × (World → Prop))}

theorem wpE_nil (h : T a F) : wpE P ops w0 T l [] a F := by cases l <;> exact h

theorem wpE_skip (hw : Region.wanted o (yielded ops a.tmps) = false) (h : wpE P ops w0 T l es (a.put o.dst undef) F) : wpE P ops w0 T (o :: l) (.det undef :: es) a F := by
  refine ⟨?_, h⟩
  rw [if_neg (by simp [hw])]

theorem wpE_det {v : Value} (hw : Region.wanted o (yielded ops a.tmps) = true) (h1 : ∀ w, Ext w0 w → factsOf ops o F w → runs P o a w (fun u w' => Ext w w' ∧ u = v))
    (h : wpE P ops w0 T l es (a.put o.dst v) F) : wpE P ops w0 T (o :: l) (.det v :: es) a F := by
  refine ⟨?_, h⟩
  rw [if_pos hw]; exact h1

theorem wpE_move (hw : Region.wanted o (yielded ops a.tmps) = true) {x : Operand} (ho : o.op = .move x) {v : Value} (hx : a.eval x = v)
    (h : wpE P ops w0 T l es (a.put o.dst v) F) : wpE P ops w0 T (o :: l) (.det v :: es) a F :=
  wpE_det hw (fun w _ _ => by subst hx; unfold runs execOp; rw [ho]; exact ⟨Ext.refl w, rfl⟩) h

/-- By the walk's own step. -/
theorem wpE_run {v : Value} (hw : Region.wanted o (yielded ops a.tmps) = true) {d : Tmp} (hd : o.dst = some d) (hs : d < a.tmps.size)
    (h1 : ∀ w, Ext w0 w → factsOf ops o F w → ∀ K : Act → World → Prop, (∀ w', Ext w w' → K (a.put o.dst v) w') → o.wp P a w K (fun _ _ _ => False))
    (h : wpE P ops w0 T l es (a.put o.dst v) F) : wpE P ops w0 T (o :: l) (.det v :: es) a F :=
  wpE_det hw (fun w hx hf => runs_of_wp hd hs fun K hK => h1 w hx hf K fun w' hw' => hK v w' ⟨hw', rfl⟩) h

/-- By a run that leaves the world alone. -/
theorem wpE_val {v : Value} (hw : Region.wanted o (yielded ops a.tmps) = true) (h1 : ∀ w, Ext w0 w → factsOf ops o F w → (execOp a.eval o).run P w = .ok (.value v) w)
    (h : wpE P ops w0 T l es (a.put o.dst v) F) : wpE P ops w0 T (o :: l) (.det v :: es) a F :=
  wpE_det hw (fun w hx hf => by unfold runs; rw [h1 w hx hf]; exact ⟨Ext.refl w, rfl⟩) h

/-- An operation that yields something of which a property is known. -/
theorem wpE_any {V : Value → World → Prop} (hw : Region.wanted o (yielded ops a.tmps) = true) (hmono : ∀ u w w', Ext w w' → V u w → V u w') {d : Tmp} (hd : o.dst = some d) (hs : d < a.tmps.size)
    (h1 : ∀ w, Ext w0 w → factsOf ops o F w → ∀ K : Act → World → Prop, (∀ u w', Ext w w' → V u w' → K (a.put o.dst u) w') → o.wp P a w K (fun _ _ _ => False))
    (h : ∀ u, wpE P ops w0 T l es (a.put o.dst u) ((d, V u) :: F)) : wpE P ops w0 T (o :: l) (.any V :: es) a F := by
  refine ⟨hw, hmono, fun w hx hf => runs_of_wp hd hs fun K hK => h1 w hx hf K fun u w' hx' hv => hK u w' ⟨hx', hv⟩, fun u => ?_⟩
  have := h u
  simpa [hd] using this

/-- 'x := ..' of a row: a new row of zeros, wherever it comes to lie. -/
def Fresh (w0 : World) (t : TypeId) (cs : Array Value) (v : Value) (w : World) : Prop := ∃ g, v = .pointer (some ⟨g, 0, none⟩) ∧ w0.heap.size ≤ g ∧ Blk w g t cs
theorem Fresh.mono {w0 : World} {t : TypeId} {cs : Array Value} {v : Value} {w w' : World} (hx : Ext w w') (h : Fresh w0 t cs v w) : Fresh w0 t cs v w' := by
  obtain ⟨g, hv, hg, hb⟩ := h
  exact ⟨g, hv, hg, hb.ext hx⟩
theorem wpE_alloc {ty : TypeId} {cs : Array Value} (hw : Region.wanted o (yielded ops a.tmps) = true) (hz : ∀ w, (zeroValue ty).run P w = .ok (.agg cs) w) {d : Tmp} (hd : o.dst = some d) (hs : d < a.tmps.size) (ho : o.op = .alloc ty)
    (h : ∀ u, wpE P ops w0 T l es (a.put o.dst u) ((d, Fresh w0 ty cs u) :: F)) : wpE P ops w0 T (o :: l) (.any (Fresh w0 ty cs) :: es) a F :=
  wpE_any hw (fun _ _ _ hx h => h.mono hx) hd hs (fun w hx _ K hK => by
    have h1 := hK (.pointer (some ⟨w.heap.size, 0, none⟩)) (w.alloc (.cells cs ty)) (Ext.alloc w _) ⟨w.heap.size, rfl, hx.size, Blk.new w ty cs⟩
    unfold Oper.wp execOp
    simp only [ho, Instr.alloc, Sem.run_bind, hz w, Result.andThen_ok, newVar, newRow, Value.cells, newObj]
    exact h1) h
end

end
end Go.Proofs.Ytnigpobbckampaa
namespace Go.Proofs.Ytnigpobbckampaa
set_option linter.unusedSimpArgs false
set_option linter.unusedVariables false
open Go.RowKit Go.Shelf

section
variable {P : Program} {n : Nat}

theorem rows_round {r : String} {args : Array Value} {w : World} {R : Value → World → Prop} (l : Nat) (h : Rows P r args w R) : RowsIn (Fence.wide.inRound l) n P r args w R :=
  fun c cs _ => let ⟨v, w', q, s⟩ := h c cs; ⟨v, w', q, stepsIn_wide.2 s⟩

theorem op_round {o : Oper} {a : Act} {w : World} {K : Act → World → Prop} {Q : Exit → Act → World → Prop} (l : Nat) (hd : ∀ c, o.op ≠ .defer c) (h : o.wp P a w K Q) : o.wpIn (Fence.wide.inRound l) n P a w K Q := by
  refine ⟨fun _ _ => trivial, ?_⟩
  rw [Fence.inRound_round, Oper.semAt_some l _ _ hd]
  unfold Oper.wp at h
  generalize (execOp a.eval o).run P w = r at h ⊢
  cases r with
  | ok nx w' =>
    cases nx with
    | value v => exact h
    | skip => exact h
    | defer d => exact h
    | enter f args => exact ⟨fun hh => by simp [Fence.wide] at hh, CallsIn.inRound l (callsIn_wide.2 h)⟩
    | row r args => exact ⟨fun hh => by simp [Fence.wide] at hh, rows_round l h⟩
    | _ => exact h.elim
  | halt x w' =>
    cases x with
    | panic v => exact h
    | _ => exact h.elim

def noDefer (ops : List Oper) : Bool := ops.all fun o => match o.op with | .defer _ => false | _ => true
theorem noDefer_spec {ops : List Oper} (h : noDefer ops = true) : ∀ o ∈ ops, ∀ c, o.op ≠ .defer c := by
  intro o ho c hc
  have := List.all_eq_true.1 h o ho
  simp [hc] at this

theorem any_round {ops : List Oper} {md : Region.Mode} {Q : Exit → Act → World → Prop} (l : Nat) (hQ : ¬ LetsOut Q) (hd : noDefer ops = true) : ∀ (fuel : Nat) (listed : Array Bool) (a : Act) (w : World),
    wpAny P md ops.toArray Q fuel listed a w → wpAnyIn (Fence.wide.inRound l) n P md ops.toArray Q fuel listed a w := by
  intro fuel
  induction fuel with
  | zero => exact fun _ _ _ h => h
  | succ m ih =>
    intro listed a w h
    refine ⟨h.1, fun i hi => ?_⟩
    have h1 := h.2 i hi
    unfold wpOp at h1
    unfold wpOpIn
    cases ho : ops.toArray[i]? with
    | none => rw [ho] at h1; exact ih _ _ _ h1
    | some o =>
      rw [ho] at h1
      have hmem : o ∈ ops := by
        have := List.mem_of_getElem? (l := ops) (i := i) (a := o) (by simpa using ho)
        exact this
      simp only at h1 ⊢
      split at h1
      · rename_i hw
        simp only [hw, if_true]
        rcases h1 with h1 | h1
        · exact Oper.wpIn_mono (fun a w => ih _ a w) (op_round l (noDefer_spec hd o hmem) h1)
        · exact absurd h1.2 hQ
      · rename_i hw
        simp only [hw, if_false]
        exact ⟨fun _ _ => trivial, ih _ _ _ h1⟩

/-- The rule for a region that draws its order, in a round. -/
theorem wpIn_region_mid {id : Nat} {Q : Exit → Act → World → Prop} {a : Act} {w : World} {l : List Oper} (lp : Nat) (k : Nat) (es : List Ent) (hm : P.follows .mixedOrders = true) (hes : es.length = k)
    (hB : midB l k a.tmps.size = true) (hd : noDefer l = true) (hQ : ¬ LetsOut Q)
    (h : wpE P l.toArray w (fun a' F => ∀ w', Ext w w' → (∀ p ∈ F, p.2 w') → wpList P l.toArray Q (l.drop k) a' w') l es a []) : (Code.region id l.toArray true).wpIn (Fence.wide.inRound lp) n P Q a w :=
  wpIn_region_any hm (any_round lp hQ hd _ _ _ _ (any_mid k es hes hB h))

/-- One operation of a list, in a round, from the plain rule. -/
theorem wlIn_one {ops : Array Oper} {rest : List Oper} {o : Oper} {a : Act} {w : World} {Q : Exit → Act → World → Prop} (l : Nat) (hg : o.guard = none) (hd : ∀ c, o.op ≠ .defer c)
    (h : ∀ K : Act → World → Prop, (∀ a w, wpListIn (Fence.wide.inRound l) n P ops Q rest a w → K a w) → o.wp P a w K Q) : wpListIn (Fence.wide.inRound l) n P ops Q (o :: rest) a w :=
  wpListIn_plain hg fun K hK => op_round l hd (h K hK)

theorem grown_of_ext {w w' : World} (h : Ext w w') : w.grownBy w' none := ⟨h.os, h.tape, h.output, h.size, fun k hk _ => h.block hk⟩
theorem keeps_of_ext {w w' : World} (h : Ext w w') : KeepsOthers w w' := ⟨h.size, fun k o hk _ => h.heap hk⟩

/-- How a round ends: the loop goes on. -/
def roundDone (Kp : World → World → Prop) (I : World → Prop) (W : World) : Exit → Act → World → Prop
  | .normal, _, W' => KeepsOthers W W' ∧ Kp W W' ∧ I W'
  | _, _, _ => False
theorem roundDone_lets {Kp : World → World → Prop} {I : World → Prop} {W : World} : ¬ LetsOut (roundDone Kp I W) := fun ⟨_, _, h⟩ => h

/-- An iterator: N rounds, the k-th at encs k; over loops that run out. -/
def Iter (P : Program) (g : Nat) (lb : Array Value) (encs : Nat → Array Value) (Kp : World → World → Prop) (N : Nat) (w : World) : Prop :=
  ∀ (n l : Nat) (J : Nat → World → Prop) (W : World), Below w.heap.size w W → OwnFrom W.heap.size J →
    (∀ m k W1, k < N → J k W1 → YieldAt Fence.wide m P l (encs k) W1 fun e W' => e = .returned (.bool true) ∧ J (k + 1) W' ∧ KeepsOthers W1 W' ∧ Kp W1 W') →
    J 0 W → CallsIn Fence.wide n P g (#[.func (.yield l) #[] #[]] ++ lb) W fun e W' => (∃ v, e = .returned v) ∧ J N W'

theorem range_law {g : Operand} {ps : Array Tmp} {assign body : Code} {Q : Exit → Act → World → Prop} {a : Act} {w : World} {gf : Nat} {lb : Array Value}
    (hg : a.eval g = .func (.func gf) #[] lb) (eg : ∀ args w, (callFunc gf args).run P w = .ok (.enter gf args) w)
    {encs : Nat → Array Value} {Kp : World → World → Prop} {N : Nat} {w0 : World} (hseq : Iter P gf lb encs Kp N w0) (hb0 : Below w0.heap.size w0 w) (hps : ∀ k, (encs k).size = ps.size)
    (hKt : ∀ {A B C : World}, Kp A B → Kp B C → Kp A C) (hKb : ∀ (W : World) (l : Nat) (o o' : Obj), w.heap.size ≤ l → W.heap[l]? = some o → o.isCells = false → Kp W (W.putObj l o'))
    (I : Nat → World → Prop) (hI : OwnFrom w.heap.size I) (h0 : I 0 w)
    (hround : ∀ (m l k : Nat) (W : World), k < N → I k W → assign.wpIn (Fence.wide.inRound l) m P (Exit.then (fun a' W' => KeepsOthers W W' ∧ Kp W W' ∧ I k W' ∧ ∃ Z : World → Prop, OwnFrom w.heap.size (fun (_ : Unit) W => Z W) ∧ Z W' ∧
        ∀ W'', I k W'' → Z W'' → body.wpIn (Fence.wide.inRound l) m P (roundDone Kp (I (k + 1)) W'') a' W'') (fun _ _ _ => False))
      { tmps := (ps.zip (encs k)).foldl (fun t (p, v) => t.setIfInBounds p v) a.tmps, defers := [] } W)
    (hdone : ∀ (D : Nat) (W : World), w.heap.size ≤ D → I N W → W.heap[D]? = some (.deferred (some [])) → Q .normal { a with defers := { target := .collected D, args := #[] } :: a.defers } W) :
    (Code.rangeFunc g ps assign body).wpIn Fence.wide n P Q a w := by
  refine wpIn_rangeFunc fun fn _ => ?_
  obtain ⟨rec, hrec⟩ : ∃ rec : LoopState → Loop, rec = fun st => { state := st, pending := none, fn, tmps := a.tmps, params := ps, assign, body, defers := w.heap.size } := ⟨_, rfl⟩
  have hx0 : Ext w (w.alloc (.deferred (some []))) := Ext.alloc _ _
  have hx1 : Ext (w.alloc (.deferred (some []))) ((w.alloc (.deferred (some []))).alloc (.loop (rec .ready))) := Ext.alloc _ _
  obtain ⟨W1, hW1⟩ : ∃ W1, (w.alloc (.deferred (some []))).alloc (.loop (rec .ready)) = W1 := ⟨_, rfl⟩
  rw [hW1] at hx1
  have hL1 : W1.heap[w.heap.size + 1]? = some (.loop (rec .ready)) := by
    rw [← hW1]
    have := heap_alloc_new (w.alloc (.deferred (some []))) (.loop (rec .ready))
    simpa using this
  have hD1 : W1.heap[w.heap.size]? = some (.deferred (some [])) := hx1.heap (heap_alloc_new w _)
  have hs1 : W1.heap.size = w.heap.size + 2 := by rw [← hW1]; simp
  have hI1 : I 0 W1 := by rw [← hW1]; exact hI.alloc _ (hI.alloc _ h0)
  refine ⟨w.heap.size + 1, [{ target := .collected w.heap.size, args := #[] }], W1, { target := .fn (.func gf) lb, args := #[.func (.yield (w.heap.size + 1)) #[] #[]] }, W1, gf, #[.func (.yield (w.heap.size + 1)) #[] #[]] ++ lb, W1, ?_, ?_, fun _ _ => trivial, ?_, fun hh => (by simp [Fence.wide] at hh), ?_⟩
  · rw [← hW1, hrec]; exact run_enterLoop_outer _ _ _ _ _
  · simp only [resolve, hg]
    simp [go_sem]
  · simp [invoke, go_sem, eg]
  refine (hseq (n - 1) (w.heap.size + 1) (fun k W => I k W ∧ W.heap[w.heap.size + 1]? = some (.loop (rec .ready)) ∧ W.heap[w.heap.size]? = some (.deferred (some []))) W1
    (hb0.trans (Below.mono (Ext.trans hx0 hx1) hb0.size)) ?_ ?_ ⟨hI1, hL1, hD1⟩).mono ?_
  · rintro k A B row ⟨hi, hl, hd⟩ hg' hr
    have hlt : ∀ j, j < W1.heap.size → (some j) ≠ row := fun j hj e => by have := (hr j e.symm).1; omega
    have hA : ∀ j o, A.heap[j]? = some o → j < A.heap.size := fun j o h => (Array.getElem?_eq_some_iff.1 h).1
    exact ⟨hI k A B row hi hg' (fun r e => ⟨by have := (hr r e).1; omega, (hr r e).2⟩), (hg'.block _ (hA _ _ hl) (hlt _ (by omega))).trans hl, (hg'.block _ (hA _ _ hd) (hlt _ (by omega))).trans hd⟩
  · rintro m k W hk ⟨hi, hl, hd⟩
    have hy := run_yield (P := P) (args := encs k) hl (by rw [hrec]; exact hps k)
    rw [hrec] at hy
    refine ⟨fn, _, assign, body, hy, roundIn_of_wpIn trivial (wpIn_mono (hround m _ k W hk hi) ?_)⟩
    intro e a' W2 hq
    cases e with
    | normal => ?_
    | _ => exact hq.elim
    obtain ⟨hk2, hp2, hi2, Z, hZ, hz, hbody⟩ := hq
    have hl2 := hk2.same _ _ hl rfl
    have hd2 := hk2.same _ _ hd rfl
    have hlt2 : w.heap.size + 1 < W2.heap.size := (Array.getElem?_eq_some_iff.1 hl2).1
    refine ⟨_, run_beginRound hl2 (by rw [hrec]), ?_⟩
    refine wpIn_mono (hbody _ (hI.putObj _ hi2 (by omega) hl2 rfl) (hZ.putObj (s := ()) _ hz (by omega) hl2 rfl)) ?_
    have hlb : (W2.putObj (w.heap.size + 1) (.loop { rec .ready with state := .busy })).heap[w.heap.size + 1]? = some (.loop { rec .ready with state := .busy }) := World.putObj_heap_same hlt2
    have hdb : (W2.putObj (w.heap.size + 1) (.loop { rec .ready with state := .busy })).heap[w.heap.size]? = some (.deferred (some [])) := (World.putObj_heap_other (by omega)).trans hd2
    have hpb : Kp W2 (W2.putObj (w.heap.size + 1) (.loop { rec .ready with state := .busy })) := hKb _ _ _ _ (by omega) hl2 rfl
    rintro e a3 W3 hp
    cases e with
    | normal =>
      obtain ⟨hk3, hp3, hi3⟩ := hp
      have hl3 := hk3.same _ _ hlb rfl
      have hd3 := hk3.same _ _ hdb rfl
      have hlt3 : w.heap.size + 1 < W3.heap.size := (Array.getElem?_eq_some_iff.1 hl3).1
      have hr := run_endRound (P := P) none hl3
      refine ⟨_, _, hr, rfl, ⟨hI.putObj _ hi3 (by omega) hl3 rfl, ?_, (World.putObj_heap_other (by omega)).trans hd3⟩, ⟨?_, fun j o hj ho => ?_⟩, hKt hp2 (hKt hpb (hKt hp3 (hKb _ _ _ _ (by omega) hl3 rfl)))⟩
      · rw [World.putObj_heap_same hlt3, hrec]; rfl
      · have h1 := hk2.size
        have h2 := hk3.size
        simp at h2 ⊢
        omega
      · by_cases hjl : j = w.heap.size + 1
        · subst hjl
          rw [World.putObj_heap_same hlt3, ← hj, hl, hrec]; rfl
        · rw [World.putObj_heap_other (by omega)]
          exact hk3.same _ _ ((World.putObj_heap_other (by omega)).trans (hk2.same _ _ hj ho)) ho
    | _ => exact hp.elim
  · rintro e W2 ⟨⟨v, rfl⟩, hi, hl, hd⟩
    exact ⟨none, _, by have := run_endLoop (P := P) hl (by rw [hrec]; simp); rw [hrec] at this; exact this, hdone _ _ (Nat.le_refl _) (hI.putObj _ hi (by omega) hl rfl) ((World.putObj_heap_other (by omega)).trans hd)⟩
end

end Go.Proofs.Ytnigpobbckampaa
namespace Go.Proofs.Ytnigpobbckampaa
set_option linter.unusedSimpArgs false
set_option linter.unusedVariables false
open Go.RowKit Go.Shelf

section
variable {P : Program}

theorem put_comm {a : Act} {d e : Tmp} (u v : Value) (h : d ≠ e) : (a.put (some d) u).put (some e) v = (a.put (some e) v).put (some d) u := by
  cases a with
  | mk tmps defers =>
    simp only [Act.put]
    rw [Array.setIfInBounds_comm _ _ h]

theorem wp_of_runs {o : Oper} {a : Act} {w : World} {K : Act → World → Prop} {Q : Exit → Act → World → Prop} (h : runs P o a w (fun v w' => K (a.put o.dst v) w')) : o.wp P a w K Q := by
  unfold runs at h
  unfold Oper.wp
  generalize (execOp a.eval o).run P w = r at *
  cases r with
  | ok nx w' =>
    cases nx <;> simp only [runsUpon] at h <;> simp only [Oper.upon]
    · exact h
    · exact h
    · refine h.mono fun e w'' ⟨v, he, hv⟩ => ?_
      subst he
      exact hv
    · exact h
  | halt x w' => simp only [runsUpon] at h

theorem runs_mono {o : Oper} {a : Act} {w : World} {R R' : Value → World → Prop} (h : runs P o a w R) (hr : ∀ v w', R v w' → R' v w') : runs P o a w R' := runsUpon_mono hr h

/-- All head operations but the first are listed. -/
def lateL (l : List Oper) (n : Nat) : Array Bool := ((List.range l.length).map (fun i => decide (0 < i ∧ i < n))).toArray

def sink0B (l : List Oper) (n : Nat) : Bool :=
  (List.range n).all fun i => i == 0 || (List.range (n + 1)).any fun j => decide (i < j) && Region.waitsFor .any l.toArray j i

def mid0B (l : List Oper) (n : Nat) (N : Nat) (o0 on : Oper) (d0 dn : Tmp) : Bool :=
  Region.noSelect l.toArray && headB l n && decide (n < l.length) && decide (0 < n) && sink0B l n && Region.chainB .any l.toArray n &&
  Region.seqB .any l.toArray (l.length - n) n ((List.range l.length).map (fun i => decide (i < n))).toArray &&
  ((List.range n).all fun k => match (l[k]?).bind (·.dst) with | some d => decide (d < N) | none => true) &&
  decide (unlisted (lateL l n) n = 1) && decide (Region.ready .any l.toArray ((lateL l n).setIfInBounds n true) = [0]) &&
  decide (((lateL l n).setIfInBounds n true).setIfInBounds 0 true = ((List.range l.length).map (fun i => decide (i < n))).toArray.setIfInBounds n true) &&
  o0.guard.isNone && on.guard.isNone && decide (dn ≠ d0) && (o0.looksAt l.toArray).all (fun t => dstAt l n t == none && decide (t ≠ dn)) && (on.looksAt l.toArray).all (fun t => decide (t ≠ d0))

theorem tail_waits0 {l : List Oper} {n : Nat} {listed : Array Bool} (hs : sink0B l n = true) (hc : Region.chainB .any l.toArray n = true) (hn : n < l.length) (inv : HeadInv .any l.toArray n listed) :
    ∀ (d i : Nat), n - i = d → 0 < i → i < n → listed.getD i true = false → ∀ t, n ≤ t → t ∉ Region.ready .any l.toArray listed := by
  intro d
  induction d using Nat.strongRecOn with
  | _ d ih =>
    intro i hd h0 hi hun t ht hr
    obtain ⟨_, ot, hot, hall⟩ := mem_ready.1 hr
    have htl : t < l.length := by simpa using (Array.getElem?_eq_some_iff.1 hot).1
    rcases Nat.lt_or_ge n t with htn | htn
    · have h1 := List.all_eq_true.1 hc t (List.mem_range.2 (by simpa using htl))
      simp only [Bool.or_eq_true, decide_eq_true_eq] at h1
      rcases h1 with h1 | h1
      · omega
      · obtain ⟨o', ho', e, he, hb, hon⟩ := Region.waitsFor_spec h1
        have : o' = ot := Option.some.inj (ho'.symm.trans hot)
        subst this
        have h2 := hall e he hb
        rw [hon, getD_both (inv.tail (t - 1) (by omega) (by simp; omega))] at h2
        cases h2
    · obtain rfl : t = n := by omega
      have h1 := List.all_eq_true.1 hs i (List.mem_range.2 hi)
      simp only [Bool.or_eq_true, beq_iff_eq] at h1
      rcases h1 with h1 | h1
      · omega
      obtain ⟨j, hj, hj2⟩ := List.any_eq_true.1 h1
      simp only [Bool.and_eq_true, decide_eq_true_eq] at hj2
      obtain ⟨oj, hoj, e, he, hb, hon⟩ := Region.waitsFor_spec hj2.2
      have hjr := List.mem_range.1 hj
      by_cases hjt : j = t
      · subst hjt
        have : oj = ot := Option.some.inj (hoj.symm.trans hot)
        subst this
        have h2 := hall e he hb
        rw [hon, getD_both hun] at h2
        cases h2
      · cases hl : listed.getD j false with
        | true =>
          have h2 := inv.closed j oj hoj hl e he hb
          rw [hon, getD_both hun] at h2
          cases h2
        | false => exact ih (t - j) (by omega) j rfl (by omega) (by omega) (getD_in (by rw [inv.size]; simp; omega) hl) t (Nat.le_refl _) hr

/-- What is known when the whole head has run, or the whole but its first operation. -/
theorem mid_end {l : List Oper} {n : Nat} {es : List Ent} {a0 : Act} {w0 : World} {T : Act → List (Tmp × (World → Prop)) → Prop} {listed : Array Bool} {a : Act} {w : World}
    (hB : headB l n = true) (hn : n ≤ l.length) (hes : es.length = n) (hin : ∀ t j, dstAt l n t = some j → t < a0.tmps.size) (h : wpE P l.toArray w0 T l es a0 [])
    (m : Mid l n (entAt es) a0 w0 listed a w) (hall : ∀ j, 0 < j → j < n → listed.getD j false = true) (d0 : Tmp) (hd0 : dstAt l n d0 = some 0) (v0 : Value) (hv0 : es[0]? = some (.det v0)) :
    ∃ F, T (a.put (some d0) v0) F ∧ ∀ p ∈ F, p.2 w := by
  obtain ⟨an, F, hT, hf⟩ := frames hB hn hes hin h (fun t => a.tmps.getD t undef) n (Nat.le_refl _)
  have hdrop : es.drop n = [] := by rw [← hes]; simp
  rw [hdrop] at hT
  have hT' : T an F := by
    cases hl : l.drop n with
    | nil => rw [hl] at hT; simpa only [wpE] using hT
    | cons o rest => rw [hl] at hT; simpa only [wpE] using hT
  have hn0 : 0 < n := (dstAt_some hd0).1
  have han : an = a.put (some d0) v0 := by
    have hsz : an.tmps.size = (a.put (some d0) v0).tmps.size := hf.size.trans (m.size.symm.trans (size_put _ _ _).symm)
    have hd0s : d0 < a.tmps.size := by rw [m.size]; exact hin d0 0 hd0
    have hslot : ∀ t, an.tmps.getD t undef = (a.put (some d0) v0).tmps.getD t undef := by
      intro t
      by_cases htd : t = d0
      · subst htd
        rw [slot_put hd0s]
        exact hf.det t 0 v0 hd0 hn0 hv0
      · rw [slot_put_ne htd]
        cases hd : dstAt l n t with
        | none => rw [hf.old t (fun j hj => by rw [hd] at hj; cases hj), m.old t (fun j hj => by rw [hd] at hj; cases hj)]
        | some j =>
          have hjn := (dstAt_some hd).1
          have hj0 : 0 < j := by
            rcases Nat.eq_zero_or_pos j with h0 | h0
            · subst h0
              have h1 := (dstAt_some hd).2
              have h2 := (dstAt_some hd0).2
              rw [h2] at h1
              exact absurd (Option.some.inj h1).symm htd
            · exact h0
          have hV := m.new j (hall j hj0 hjn) t hd
          have hje : j < es.length := by omega
          have hej : es[j]? = some es[j] := List.getElem?_eq_getElem hje
          have hent : entAt es j = es[j] := by simp [entAt, hje]
          cases he : es[j] with
          | det v =>
            rw [he] at hej
            rw [hent, he] at hV
            rw [hf.det t j v hd hjn hej]
            exact hV.symm
          | any V =>
            rw [he] at hej
            exact hf.any t j V hd hjn hej
    have htm : an.tmps = (a.put (some d0) v0).tmps := by
      apply Array.ext hsz
      intro i h1 h2
      have := hslot i
      simpa [h1, h2] using this
    have hdef : an.defers = (a.put (some d0) v0).defers := hf.defers.trans (m.defers.symm.trans (defers_put _ _ _).symm)
    cases an
    cases hc : a.put (some d0) v0
    rw [hc] at htm hdef
    simp only at htm hdef
    subst htm hdef
    rfl
  refine ⟨F, han ▸ hT', fun p hp => ?_⟩
  obtain ⟨j, V, hj, hd, he, hp2⟩ := hf.facts p hp
  have hj0 : 0 < j := by
    rcases Nat.eq_zero_or_pos j with h0 | h0
    · subst h0; rw [hv0] at he; cases he
    · exact h0
  have hV := m.new j (hall j hj0 hj) p.1 hd
  have hent : entAt es j = .any V := by simp [entAt, List.getD_eq_getElem?_getD, he]
  rw [hent] at hV
  rw [hp2]
  exact hV

theorem any_mid0 {Q : Exit → Act → World → Prop} {a : Act} {w : World} {l : List Oper} (n : Nat) (es : List Ent) (o0 on : Oper) (d0 dn : Tmp) (hl0 : l[0]? = some o0) (hln : l[n]? = some on) (hd0 : o0.dst = some d0) (hdn : on.dst = some dn)
    (hes : es.length = n) (hB : mid0B l n a.tmps.size o0 on d0 dn = true) (v0 : Value) (hv0 : es[0]? = some (.det v0)) (Reach : World → Prop)
    (h0 : ∀ a' w', (∀ t ∈ o0.looksAt l.toArray, a'.tmps.getD t undef = a.tmps.getD t undef) → Reach w' → runs P o0 a' w' (fun u w'' => w'' = w' ∧ u = v0))
    (h : wpE P l.toArray w (fun a' F => ∀ w', Ext w w' → (∀ p ∈ F, p.2 w') → runs P on a' w' (fun v w'' => Reach w'' ∧ wpList P l.toArray Q (l.drop (n + 1)) (a'.put (some dn) v) w'')) l es a []) :
    wpAny P .any l.toArray Q l.toArray.size (Array.replicate l.toArray.size false) a { w with drawn := w.drawn + 1 } := by
  simp only [mid0B, Bool.and_eq_true, decide_eq_true_eq] at hB
  obtain ⟨⟨⟨⟨⟨⟨⟨⟨⟨⟨⟨⟨⟨⟨⟨hsel, hhead⟩, hn⟩, hn0⟩, hsink⟩, hchain⟩, hseq⟩, hslots⟩, hun1⟩, hrd⟩, hlst⟩, hg0⟩, hgn⟩, hdne⟩, hlk0⟩, hlkn⟩ := hB
  have hin : ∀ t j, dstAt l n t = some j → t < a.tmps.size := by
    intro t j hj
    obtain ⟨h1, h2⟩ := dstAt_some hj
    have := List.all_eq_true.1 hslots j (List.mem_range.2 h1)
    simpa [h2] using this
  have hgu0 : o0.guard = none := by simpa using hg0
  have hgun : on.guard = none := by simpa using hgn
  have hmono := mono_of_wpE hhead (by omega) hes hin h
  have how := owed_of_wpE hsel hhead (by omega) hes hin h
  have hd0l : dstAt l n d0 = some 0 := by
    obtain ⟨d, h1, h2⟩ := dstAt_inj hhead hn0 hl0
    rw [hd0] at h1
    cases h1
    exact h2
  have hg : n + (l.length - n) = l.toArray.size := by simp; omega
  have hstart : Mid l n (entAt es) a w (Array.replicate l.toArray.size false) a { w with drawn := w.drawn + 1 } := by
    refine ⟨⟨by simp, fun j oj _ hl => (by rw [getD_replicate_false] at hl; cases hl), fun t _ ht => getD_in (by simpa using ht) (getD_replicate_false _ _)⟩, Ext.drew w, rfl, rfl, fun _ _ => rfl, fun j hj => (by rw [getD_replicate_false] at hj; cases hj)⟩
  have hcount : unlisted (Array.replicate l.toArray.size false) n = n := by
    unfold unlisted
    rw [List.filter_eq_self.2 (fun i _ => by rw [getD_replicate_false]; rfl)]
    simp
  obtain ⟨g', hg'⟩ : ∃ g', l.length - n = g' + 1 := ⟨l.length - n - 1, by omega⟩
  have hdl : l.drop n = on :: l.drop (n + 1) := by
    rw [List.drop_eq_getElem_cons hn]
    rw [List.getElem?_eq_getElem hn] at hln
    rw [Option.some.inj hln]
  have hseq' : Region.ready .any l.toArray ((List.range l.length).map (fun i => decide (i < n))).toArray = [n] ∧ Region.seqB .any l.toArray g' (n + 1) (((List.range l.length).map (fun i => decide (i < n))).toArray.setIfInBounds n true) = true := by
    rw [hg'] at hseq
    simpa only [Region.seqB, Bool.and_eq_true, decide_eq_true_eq] using hseq
  have hlen' : (l.drop (n + 1)).length = g' := by simp; omega
  have wanted : ∀ (o : Oper) (f : Nat → Option Bool), o.guard = none → Region.wanted o f = true := fun o f ho => by simp [Region.wanted, ho]
  have hgoal : wpAny P .any l.toArray Q (n + (l.length - n)) (Array.replicate l.toArray.size false) a { w with drawn := w.drawn + 1 } := ?_
  · rw [hg] at hgoal; exact hgoal
  refine wpAny_midG hhead hmono hin (by omega) how (fun listed a' w' m hall => ?_) (fun f listed a' w' m hu k hk hkn => ?_) n _ a _ hstart hcount
  · -- the whole head has run
    have hlisted : listed = ((List.range l.length).map (fun i => decide (i < n))).toArray := by
      apply Array.ext_getElem?
      intro i
      by_cases hi : i < l.length
      · have hsz : i < listed.size := by rw [m.inv.size]; simpa using hi
        rw [Array.getElem?_eq_getElem hsz]
        simp only [List.getElem?_toArray, List.getElem?_map, List.getElem?_range hi, Option.map_some]
        by_cases hin' : i < n
        · have := hall i hin'
          simp only [Array.getD_eq_getD_getElem?, Array.getElem?_eq_getElem hsz, Option.getD_some] at this
          simp [this, hin']
        · have := m.inv.tail i (by omega) (by simpa using hi)
          simp only [Array.getD_eq_getD_getElem?, Array.getElem?_eq_getElem hsz, Option.getD_some] at this
          simp [this, hin']
      · rw [Array.getElem?_eq_none (by rw [m.inv.size]; simpa using hi), Array.getElem?_eq_none (by simpa using hi)]
    obtain ⟨F, hT, hfF⟩ := mid_end hhead (by omega) hes hin h m (fun j _ hj => hall j hj) d0 hd0l v0 hv0
    have hput : a'.put (some d0) v0 = a' := by
      have hV := m.new 0 (hall 0 hn0) d0 hd0l
      have hent : entAt es 0 = .det v0 := by simp [entAt, List.getD_eq_getElem?_getD, hv0]
      rw [hent] at hV
      have hd0s : d0 < a'.tmps.size := by rw [m.size]; exact hin d0 0 hd0l
      have hV' : a'.tmps.getD d0 undef = v0 := hV
      cases a' with
      | mk tmps defers =>
        simp only [Act.put]
        congr 1
        apply Array.ext_getElem?
        intro i
        simp only at hd0s hV'
        by_cases hi : d0 = i
        · subst hi
          rw [Array.getElem?_setIfInBounds, if_pos rfl, if_pos hd0s, Array.getElem?_eq_getElem hd0s]
          simp [hd0s] at hV'
          rw [hV']
        · rw [Array.getElem?_setIfInBounds, if_neg hi]
    rw [hput] at hT
    have h1 := hT w' m.ext hfF
    have hfin : wpList P l.toArray Q (l.drop n) a' w' := by
      rw [hdl]
      refine wpList_plain hgun fun K hK => wp_of_runs (runs_mono h1 fun v w'' hh => ?_)
      rw [hdn]
      exact hK _ _ hh.2
    have := wpAny_of_seq (md := .any) (Q' := Q) (l.drop n) n listed a' w' (fun j => by simp [List.getElem?_drop]) (by rw [hlisted]; simpa using hseq) hfin
    simpa using this
  · -- the one that writes comes before the first
    have hrest : ∀ j, 0 < j → j < n → listed.getD j false = true := by
      intro j h0j hjn
      cases hl : listed.getD j false with
      | true => rfl
      | false => exact absurd hk (tail_waits0 hsink hchain hn m.inv _ j rfl h0j hjn (getD_in (by rw [m.inv.size]; simp; omega) hl) k hkn)
    have hkl : k < l.length := by
      obtain ⟨_, o, ho, _⟩ := mem_ready.1 hk
      simpa using (Array.getElem?_eq_some_iff.1 ho).1
    obtain rfl : k = n := by
      rcases Nat.lt_or_ge n k with hlt | hge
      · obtain ⟨_, ot, hot, hall⟩ := mem_ready.1 hk
        have h1 := List.all_eq_true.1 hchain k (List.mem_range.2 (by simpa using hkl))
        simp only [Bool.or_eq_true, decide_eq_true_eq] at h1
        rcases h1 with h1 | h1
        · omega
        · obtain ⟨o', ho', e, he, hb, hon⟩ := Region.waitsFor_spec h1
          have : o' = ot := Option.some.inj (ho'.symm.trans hot)
          subst this
          have h2 := hall e he hb
          rw [hon, getD_both (m.inv.tail (k - 1) (by omega) (by simp; omega))] at h2
          cases h2
      · omega
    have hun0 : listed.getD 0 false = false := by
      obtain ⟨i, hi, hi2⟩ := exists_unlisted (listed := listed) (n := k) (by omega)
      rcases Nat.eq_zero_or_pos i with hz | hz
      · rw [← hz]; exact hi2
      · rw [hrest i hz hi] at hi2; cases hi2
    have hlisted : listed = lateL l k := by
      unfold lateL
      apply Array.ext_getElem?
      intro i
      by_cases hi : i < l.length
      · have hsz : i < listed.size := by rw [m.inv.size]; simpa using hi
        rw [Array.getElem?_eq_getElem hsz]
        simp only [List.getElem?_toArray, List.getElem?_map, List.getElem?_range hi, Option.map_some]
        by_cases hin' : i < k
        · rcases Nat.eq_zero_or_pos i with hz | hz
          · subst hz
            simp only [Array.getD_eq_getD_getElem?, Array.getElem?_eq_getElem hsz, Option.getD_some] at hun0
            simp [hun0]
          · have := hrest i hz hin'
            simp only [Array.getD_eq_getD_getElem?, Array.getElem?_eq_getElem hsz, Option.getD_some] at this
            simp [this, hin', hz]
        · have := m.inv.tail i (by omega) (by simpa using hi)
          simp only [Array.getD_eq_getD_getElem?, Array.getElem?_eq_getElem hsz, Option.getD_some] at this
          simp [this, hin']
      · rw [Array.getElem?_eq_none (by rw [m.inv.size]; simpa using hi), Array.getElem?_eq_none (by simpa using hi)]
    obtain rfl : f = 0 := by rw [hlisted, hun1] at hu; omega
    obtain ⟨F, hT, hfF⟩ := mid_end hhead (by omega) hes hin h m hrest d0 hd0l v0 hv0
    have h1 := hT w' m.ext hfF
    have hexec : execOp (a'.put (some d0) v0).eval on = execOp a'.eval on := execOp_congr on (fun cs b => Region.noSelect_spec hsel k on cs b (by simpa using hln)) fun x hxm => by
      cases x with
      | tmp t =>
        have ht : t ∈ on.looksAt l.toArray := List.mem_append_left _ (List.mem_filterMap.2 ⟨.tmp t, by simpa using hxm, rfl⟩)
        have hne := List.all_eq_true.1 hlkn t ht
        exact slot_put_ne (by simpa using hne)
      | _ => rfl
    have h2 := runs_congr hexec h1
    unfold wpOp
    have hon2 : l.toArray[k]? = some on := by simpa using hln
    simp only [hon2]
    rw [if_pos (wanted _ _ hgun)]
    refine .inl (wp_of_runs (runs_mono h2 fun v w'' ⟨hR, hwl⟩ => ?_))
    rw [Nat.zero_add, hg', hdn]
    rw [hlisted]
    refine ⟨fun he => (by rw [hrd] at he; cases he), fun i hi => ?_⟩
    rw [hrd] at hi
    obtain rfl : i = 0 := by simpa using hi
    unfold wpOp
    have ho2 : l.toArray[0]? = some o0 := by simpa using hl0
    simp only [ho2]
    rw [if_pos (wanted _ _ hgu0)]
    refine .inl (wp_of_runs (runs_mono (h0 _ w'' (fun t ht => ?_) hR) fun u w3 ⟨hw3, hu⟩ => ?_))
    · have h3 := List.all_eq_true.1 hlk0 t ht
      simp only [Bool.and_eq_true, beq_iff_eq, decide_eq_true_eq] at h3
      rw [slot_put_ne h3.2]
      exact m.old t fun j hj => by rw [h3.1] at hj; cases hj
    · subst hw3 hu
      rw [hd0, put_comm _ _ hdne, hlst]
      have := wpAny_of_seq (md := .any) (Q' := Q) (l.drop (k + 1)) (k + 1) _ _ w3 (fun j => by simp [List.getElem?_drop, Nat.add_assoc]) (by rw [hlen']; exact hseq'.2) hwl
      rw [hlen'] at this
      exact this

theorem wp_region_mid0 {id : Nat} {Q : Exit → Act → World → Prop} {a : Act} {w : World} {l : List Oper} (n : Nat) (es : List Ent) (o0 on : Oper) (d0 dn : Tmp) (hm : P.follows .mixedOrders = true) (hl0 : l[0]? = some o0) (hln : l[n]? = some on) (hd0 : o0.dst = some d0) (hdn : on.dst = some dn)
    (hes : es.length = n) (hB : mid0B l n a.tmps.size o0 on d0 dn = true) (v0 : Value) (hv0 : es[0]? = some (.det v0)) (Reach : World → Prop)
    (h0 : ∀ a' w', (∀ t ∈ o0.looksAt l.toArray, a'.tmps.getD t undef = a.tmps.getD t undef) → Reach w' → runs P o0 a' w' (fun u w'' => w'' = w' ∧ u = v0))
    (h : wpE P l.toArray w (fun a' F => ∀ w', Ext w w' → (∀ p ∈ F, p.2 w') → runs P on a' w' (fun v w'' => Reach w'' ∧ wpList P l.toArray Q (l.drop (n + 1)) (a'.put (some dn) v) w'')) l es a []) :
    (Code.region id l.toArray true).wp P Q a w :=
  wp_region_any hm (any_mid0 n es o0 on d0 dn hl0 hln hd0 hdn hes hB v0 hv0 Reach h0 h)

theorem wpIn_region_mid0 {id m : Nat} {Q : Exit → Act → World → Prop} {a : Act} {w : World} {l : List Oper} (lp n : Nat) (es : List Ent) (o0 on : Oper) (d0 dn : Tmp) (hm : P.follows .mixedOrders = true) (hnd : noDefer l = true) (hQ : ¬ LetsOut Q) (hl0 : l[0]? = some o0) (hln : l[n]? = some on) (hd0 : o0.dst = some d0) (hdn : on.dst = some dn)
    (hes : es.length = n) (hB : mid0B l n a.tmps.size o0 on d0 dn = true) (v0 : Value) (hv0 : es[0]? = some (.det v0)) (Reach : World → Prop)
    (h0 : ∀ a' w', (∀ t ∈ o0.looksAt l.toArray, a'.tmps.getD t undef = a.tmps.getD t undef) → Reach w' → runs P o0 a' w' (fun u w'' => w'' = w' ∧ u = v0))
    (h : wpE P l.toArray w (fun a' F => ∀ w', Ext w w' → (∀ p ∈ F, p.2 w') → runs P on a' w' (fun v w'' => Reach w'' ∧ wpList P l.toArray Q (l.drop (n + 1)) (a'.put (some dn) v) w'')) l es a []) :
    (Code.region id l.toArray true).wpIn (Fence.wide.inRound lp) m P Q a w :=
  wpIn_region_any hm (any_round lp hQ hnd _ _ _ _ (any_mid0 n es o0 on d0 dn hl0 hln hd0 hdn hes hB v0 hv0 Reach h0 h))
end

end Go.Proofs.Ytnigpobbckampaa
