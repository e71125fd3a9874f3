/- Small laws for this seat: worlds that only grow, rows of bytes in memory. -/
import Derived.Test.YtnigpobbckampaaProg
import Derived.WalkKit
import Derived.WalkSpells
import Derived.WalkLawsBesides
import Derived.Lib.Hide
namespace Go.Proofs.Ytnigpobbckampaa
set_option linter.unusedSimpArgs false
set_option linter.unusedVariables false
open Go.RowKit

/-- Everything that lay in w lies in w' as it lay. -/
def Ext (w w' : World) : Prop := Below w.heap.size w w'

theorem Ext.refl (w : World) : Ext w w := Below.refl _ _
theorem Ext.size {w w' : World} (h : Ext w w') : w.heap.size ≤ w'.heap.size := Below.size h
theorem Ext.trans {a b c : World} (h : Ext a b) (k : Ext b c) : Ext a c := Below.trans h (Below.mono k h.size)
theorem Ext.block {w w' : World} (h : Ext w w') {k : Nat} (hk : k < w.heap.size) : w'.heap[k]? = w.heap[k]? := Below.block h k hk
theorem Ext.cell {w w' : World} (h : Ext w w') {p : Addr} {v : Value} (hc : w.cell? p = some v) : w'.cell? p = some v :=
  (Below.cell h (World.block_lt_of_cell? w p hc)).trans hc
theorem Ext.heap {w w' : World} (h : Ext w w') {k : Nat} {o : Obj} (hk : w.heap[k]? = some o) : w'.heap[k]? = some o :=
  (h.block (Array.getElem?_eq_some_iff.1 hk).1).trans hk
theorem Ext.alloc (w : World) (o : Obj) : Ext w (w.alloc o) := (Below.refl _ w).alloc (Nat.le_refl _) o
theorem Ext.drew (w : World) : Ext w w.drew := (Below.refl _ w).drew
theorem Ext.drewN (w : World) (n : Nat) : Ext w (w.drewN n) := ⟨rfl, rfl, rfl, Nat.le_refl _, fun _ _ => rfl⟩
theorem Ext.bcell {w w' : World} (h : Ext w w') : ∀ b o, b < w.heap.size → w'.cell? ⟨b, o, none⟩ = w.cell? ⟨b, o, none⟩ :=
  fun b o hb => Below.cell (p := ⟨b, o, none⟩) h hb
theorem Ext.bfrozen {w w' : World} (h : Ext w w') : ∀ b o, b < w.heap.size → w'.frozen? ⟨b, o, none⟩ = w.frozen? ⟨b, o, none⟩ :=
  fun b o hb => Below.frozen (p := ⟨b, o, none⟩) h hb

/-- n bytes as values. -/
def row (n : Nat) (f : Nat → Nat) : Array Value := Array.ofFn (n := n) fun i => Value.int .u8 ((f i.val : Nat) : Int)

theorem row_size (n : Nat) (f : Nat → Nat) : (row n f).size = n := by simp [row]
theorem row_get (n : Nat) (f : Nat → Nat) (j : Nat) (h : j < n) : (row n f)[j]? = some (.int .u8 ((f j : Nat) : Int)) := by
  simp [row, h]
theorem row_none (n : Nat) (f : Nat → Nat) (j : Nat) (h : n ≤ j) : (row n f)[j]? = none := by
  simp [row]; omega
theorem row_ext {A : Array Value} {n : Nat} {f : Nat → Nat} (hs : A.size = n) (h : ∀ j, j < n → A[j]? = some (.int .u8 ((f j : Nat) : Int))) : A = row n f := by
  apply Array.ext_getElem?
  intro j
  by_cases hj : j < n
  · rw [h j hj, row_get n f j hj]
  · rw [row_none n f j (by omega), Array.getElem?_eq_none (by omega)]
theorem row_congr {n : Nat} {f g : Nat → Nat} (h : ∀ j, j < n → f j = g j) : row n f = row n g :=
  row_ext (row_size n f) (fun j hj => by rw [row_get n f j hj, h j hj])
theorem row_inj {n : Nat} {f g : Nat → Nat} (h : row n f = row n g) : ∀ j, j < n → f j = g j := by
  intro j hj
  have h1 := row_get n f j hj
  rw [h, row_get n g j hj] at h1
  simp at h1
  omega

/-- One byte turned. -/
def upd (f : Nat → Nat) (k v : Nat) : Nat → Nat := fun j => if j = k then v else f j
theorem upd_same (f : Nat → Nat) (k v : Nat) : upd f k v k = v := by simp [upd]
theorem upd_other (f : Nat → Nat) (k v j : Nat) (h : j ≠ k) : upd f k v j = f j := by simp [upd, h]
theorem row_set (n : Nat) (f : Nat → Nat) (k v : Nat) : (row n f).setIfInBounds k (.int .u8 ((v : Nat) : Int)) = row n (upd f k v) := by
  refine row_ext (by simp [row_size]) (fun j hj => ?_)
  rw [Array.getElem?_setIfInBounds]
  by_cases h : k = j
  · subst h; simp [row_size, hj, upd]
  · rw [if_neg h, row_get n f j hj]; simp [upd, Ne.symm h]
theorem row_zero (n : Nat) : Array.replicate n (Value.int .u8 0) = row n (fun _ => 0) :=
  row_ext (by simp) (fun j hj => by simp [hj])
theorem row_part (n off k : Nat) (f : Nat → Nat) (h : off + k ≤ n) : (row n f).extract off (off + k) = row k (fun j => f (off + j)) := by
  refine row_ext (by simp [row_size]; omega) (fun j hj => ?_)
  rw [Array.getElem?_extract, if_pos (by rw [row_size]; omega)]
  exact row_get n f _ (by omega)

theorem row_whole (n : Nat) (f : Nat → Nat) : (row n f).extract 0 (0 + n) = row n f := by
  rw [row_part n 0 n f (by omega)]; exact row_congr fun j _ => by simp

/-- F up to k, G from k on. -/
def mixF (k : Nat) (F G : Nat → Nat) : Nat → Nat := fun j => if j < k then F j else G j
theorem mixF_zero (F G : Nat → Nat) : mixF 0 F G = G := by funext j; simp [mixF]
theorem mixF_at (k : Nat) (F G : Nat → Nat) : mixF k F G k = G k := by simp [mixF]
theorem mixF_ge (k : Nat) (F G : Nat → Nat) (j : Nat) (h : k ≤ j) : mixF k F G j = G j := by simp [mixF]; omega
theorem mixF_upd (k : Nat) (F G : Nat → Nat) : upd (mixF k F G) k (F k) = mixF (k + 1) F G := by
  funext j
  simp only [upd, mixF]
  by_cases h : j = k
  · subst h; rw [if_pos rfl, if_pos (by omega)]
  · rw [if_neg h]
    by_cases h2 : j < k
    · rw [if_pos h2, if_pos (by omega)]
    · rw [if_neg h2, if_neg (by omega)]
theorem row_mix (n : Nat) (F G : Nat → Nat) : row n (mixF n F G) = row n F := row_congr fun j hj => by simp [mixF, hj]

/-- Block g of w holds the cells cs, and nothing of it is frozen. -/
def Blk (w : World) (g : Nat) (t : TypeId) (cs : Array Value) : Prop := w.heap[g]? = some (.cells cs t (0, 0))

theorem Blk.lt {w : World} {g : Nat} {t : TypeId} {cs : Array Value} (h : Blk w g t cs) : g < w.heap.size := (Array.getElem?_eq_some_iff.1 h).1
theorem Blk.ext {w w' : World} {g : Nat} {t : TypeId} {cs : Array Value} (h : Blk w g t cs) (hx : Ext w w') : Blk w' g t cs := hx.heap h
theorem Blk.cell {w : World} {g : Nat} {t : TypeId} {cs : Array Value} (h : Blk w g t cs) (j : Nat) : w.cell? ⟨g, j, none⟩ = cs[j]? := cell_of_row w g j cs t (0, 0) h
theorem Blk.frozen {w : World} {g : Nat} {t : TypeId} {cs : Array Value} (h : Blk w g t cs) (j : Nat) : w.frozen? ⟨g, j, none⟩ = false := frozen_of_row w g j cs t h
theorem Blk.byte {w : World} {g n : Nat} {t : TypeId} {f : Nat → Nat} (h : Blk w g t (row n f)) : ∀ j, j < n → w.cell? ⟨g, j, none⟩ = some (.int .u8 ((f j : Nat) : Int)) :=
  fun j hj => (h.cell j).trans (row_get n f j hj)
theorem Blk.new (w : World) (t : TypeId) (cs : Array Value) : Blk (w.alloc (.cells cs t)) w.heap.size t cs := heap_alloc_new w _
theorem Blk.alloc {w : World} {g : Nat} {t : TypeId} {cs : Array Value} (h : Blk w g t cs) (o : Obj) : Blk (w.alloc o) g t cs := h.ext (Ext.alloc w o)
theorem Blk.drew {w : World} {g : Nat} {t : TypeId} {cs : Array Value} (h : Blk w g t cs) : Blk w.drew g t cs := h
theorem Blk.drewN {w : World} {g : Nat} {t : TypeId} {cs : Array Value} (h : Blk w g t cs) (n : Nat) : Blk (w.drewN n) g t cs := h
theorem Blk.set {w : World} {g : Nat} {t : TypeId} {cs : Array Value} (h : Blk w g t cs) (j : Nat) (v : Value) : Blk (w.setCell ⟨g, j, none⟩ v) g t (cs.setIfInBounds j v) :=
  heap_setCell_same w g j cs t v h
theorem Blk.other {w : World} {g : Nat} {t : TypeId} {cs : Array Value} (h : Blk w g t cs) {a : Addr} (v : Value) (hne : g ≠ a.block) : Blk (w.setCell a v) g t cs :=
  (heap_setCell_other w a g v hne).trans h
theorem Blk.setB {w : World} {g n : Nat} {t : TypeId} {f : Nat → Nat} (h : Blk w g t (row n f)) (j v : Nat) : Blk (w.setCell ⟨g, j, none⟩ (.int .u8 ((v : Nat) : Int))) g t (row n (upd f j v)) := by
  rw [← row_set]; exact h.set j _

theorem ret_u8 {a b : Int} (h : a = b) : Ending.returned (.int .u8 a) = .returned (.int .u8 b) := by rw [h]
theorem ret_agg {a b : Array Value} (h : a = b) : Ending.returned (.agg a) = .returned (.agg b) := by rw [h]
theorem int_u8 {a b : Int} (h : a = b) : Value.int .u8 a = .int .u8 b := by rw [h]

end Go.Proofs.Ytnigpobbckampaa
