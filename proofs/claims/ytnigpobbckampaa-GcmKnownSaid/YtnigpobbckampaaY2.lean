/- Iterators whose callers keep what is new; the blocks of texts, walked. -/
import Derived.Test.YtnigpobbckampaaD
import Derived.Test.YtnigpobbckampaaE0
import Derived.Test.YtnigpobbckampaaL
namespace Go.Proofs.Ytnigpobbckampaa
open Go.RowKit Go.Shelf
set_option linter.unusedSimpArgs false
set_option linter.unusedVariables false

attribute [local go_sem] Oper.semAt_some

/-- Cells at or beyond lo, and those that are to be kept, lie as they lay. -/
def KpB (lo : Nat) (keep : Nat → Prop) (W W' : World) : Prop := ∀ j cs t f, (lo ≤ j ∨ keep j) → W.heap[j]? = some (.cells cs t f) → W'.heap[j]? = some (.cells cs t f)
theorem KpB.refl (lo : Nat) (keep : Nat → Prop) (W : World) : KpB lo keep W W := fun _ _ _ _ _ h => h
theorem KpB.trans {lo : Nat} {keep : Nat → Prop} {A B C : World} (h : KpB lo keep A B) (k : KpB lo keep B C) : KpB lo keep A C := fun j cs t f hj he => k j cs t f hj (h j cs t f hj he)
theorem KpB.ext {lo : Nat} {keep : Nat → Prop} {W W' : World} (h : Ext W W') : KpB lo keep W W' := fun _ _ _ _ _ he => h.heap he
theorem KpB.putObj {lo : Nat} {keep : Nat → Prop} {W : World} {l : Nat} {o o' : Obj} (hl : W.heap[l]? = some o) (ho : o.isCells = false) : KpB lo keep W (W.putObj l o') := by
  intro j cs t f _ he
  have : j ≠ l := fun e => by subst e; rw [hl] at he; cases he; cases ho
  rw [World.putObj_heap_other this]
  exact he
theorem KpB.setCell {lo : Nat} {keep : Nat → Prop} {W : World} {a : Addr} (v : Value) (h1 : a.block < lo) (h2 : ¬ keep a.block) : KpB lo keep W (W.setCell a v) := by
  intro j cs t f hj he
  have : j ≠ a.block := fun e => by
    rw [e] at hj
    rcases hj with h | h
    · omega
    · exact h2 h
  exact (Below.heap_setCell _ _ _ _ this).trans he
theorem KpB.setRow {lo : Nat} {keep : Nat → Prop} {W : World} {g : Nat} (vs : Array Value) (h1 : g < lo) (h2 : ¬ keep g) : KpB lo keep W (W.setRow g vs) := by
  intro j cs t f hj he
  have : j ≠ g := fun e => by
    rw [e] at hj
    rcases hj with h | h
    · omega
    · exact h2 h
  exact (setRow_other W g j vs this).trans he
theorem KpB.blk {lo : Nat} {keep : Nat → Prop} {W W' : World} (h : KpB lo keep W W') {g : Nat} {t : TypeId} {cs : Array Value} (hg : lo ≤ g ∨ keep g) (hb : Blk W g t cs) : Blk W' g t cs := h g cs t _ hg hb

/-- An iterator: N rounds, the k-th at encs k; over loops that run out; it makes and writes blocks of its own. -/
def IterX (P : Program) (g : Nat) (lb : Array Value) (encs : Nat → Array Value) (Kp : World → World → Prop) (N : Nat) (w : World) : Prop :=
  ∀ (n l : Nat) (J : Nat → World → Prop) (W : World), Below w.heap.size w W → OwnFrom W.heap.size J → (∀ k A B, J k A → Ext A B → J k B) →
    (∀ m k W1, k < N → J k W1 → YieldAt Fence.wide m P l (encs k) W1 fun e W' => e = .returned (.bool true) ∧ J (k + 1) W' ∧ KeepsOthers W1 W' ∧ Kp W1 W') →
    J 0 W → CallsIn Fence.wide n P g (#[.func (.yield l) #[] #[]] ++ lb) W fun e W' => (∃ v, e = .returned v) ∧ J N W'

section
variable {P : Program} {n : Nat}
theorem range_lawX {g : Operand} {ps : Array Tmp} {assign body : Code} {Q : Exit → Act → World → Prop} {a : Act} {w : World} {gf : Nat} {lb : Array Value}
    (hg : a.eval g = .func (.func gf) #[] lb) (eg : ∀ args w, (callFunc gf args).run P w = .ok (.enter gf args) w)
    {encs : Nat → Array Value} {Kp : World → World → Prop} {N : Nat} {w0 : World} (hseq : IterX P gf lb encs Kp N w0) (hb0 : Below w0.heap.size w0 w) (hps : ∀ k, (encs k).size = ps.size)
    (hKt : ∀ {A B C : World}, Kp A B → Kp B C → Kp A C) (hKb : ∀ (W : World) (l : Nat) (o o' : Obj), w.heap.size ≤ l → W.heap[l]? = some o → o.isCells = false → Kp W (W.putObj l o'))
    (I : Nat → World → Prop) (hI : OwnFrom w.heap.size I) (hE : ∀ k A B, I k A → Ext A B → I k B) (h0 : I 0 w)
    (hround : ∀ (m l k : Nat) (W : World), k < N → I k W → assign.wpIn (Fence.wide.inRound l) m P (Exit.then (fun a' W' => KeepsOthers W W' ∧ Kp W W' ∧ I k W' ∧ ∃ Z : World → Prop, OwnFrom w.heap.size (fun (_ : Unit) W => Z W) ∧ Z W' ∧
        ∀ W'', I k W'' → Z W'' → body.wpIn (Fence.wide.inRound l) m P (roundDone Kp (I (k + 1)) W'') a' W'') (fun _ _ _ => False))
      { tmps := (ps.zip (encs k)).foldl (fun t (p, v) => t.setIfInBounds p v) a.tmps, defers := [] } W)
    (hdone : ∀ (D : Nat) (W : World), w.heap.size ≤ D → I N W → W.heap[D]? = some (.deferred (some [])) → Q .normal { a with defers := { target := .collected D, args := #[] } :: a.defers } W) :
    (Code.rangeFunc g ps assign body).wpIn Fence.wide n P Q a w := by
  refine wpIn_rangeFunc fun fn _ => ?_
  obtain ⟨rec, hrec⟩ : ∃ rec : LoopState → Loop, rec = fun st => { state := st, pending := none, fn, tmps := a.tmps, params := ps, assign, body, defers := w.heap.size } := ⟨_, rfl⟩
  have hx0 : Ext w (w.alloc (.deferred (some []))) := Ext.alloc _ _
  have hx1 : Ext (w.alloc (.deferred (some []))) ((w.alloc (.deferred (some []))).alloc (.loop (rec .ready))) := Ext.alloc _ _
  obtain ⟨W1, hW1⟩ : ∃ W1, (w.alloc (.deferred (some []))).alloc (.loop (rec .ready)) = W1 := ⟨_, rfl⟩
  rw [hW1] at hx1
  have hL1 : W1.heap[w.heap.size + 1]? = some (.loop (rec .ready)) := by
    rw [← hW1]
    have := heap_alloc_new (w.alloc (.deferred (some []))) (.loop (rec .ready))
    simpa using this
  have hD1 : W1.heap[w.heap.size]? = some (.deferred (some [])) := hx1.heap (heap_alloc_new w _)
  have hs1 : W1.heap.size = w.heap.size + 2 := by rw [← hW1]; simp
  have hI1 : I 0 W1 := by rw [← hW1]; exact hI.alloc _ (hI.alloc _ h0)
  refine ⟨w.heap.size + 1, [{ target := .collected w.heap.size, args := #[] }], W1, { target := .fn (.func gf) lb, args := #[.func (.yield (w.heap.size + 1)) #[] #[]] }, W1, gf, #[.func (.yield (w.heap.size + 1)) #[] #[]] ++ lb, W1, ?_, ?_, fun _ _ => trivial, ?_, fun hh => (by simp [Fence.wide] at hh), ?_⟩
  · rw [← hW1, hrec]; exact run_enterLoop_outer _ _ _ _ _
  · simp only [resolve, hg]
    simp [go_sem]
  · simp [invoke, go_sem, eg]
  refine (hseq (n - 1) (w.heap.size + 1) (fun k W => I k W ∧ W.heap[w.heap.size + 1]? = some (.loop (rec .ready)) ∧ W.heap[w.heap.size]? = some (.deferred (some []))) W1
    (hb0.trans (Below.mono (Ext.trans hx0 hx1) hb0.size)) ?_ (fun k A B h hx => ⟨hE k A B h.1 hx, hx.heap h.2.1, hx.heap h.2.2⟩) ?_ ⟨hI1, hL1, hD1⟩).mono ?_
  · rintro k A B row ⟨hi, hl, hd⟩ hg' hr
    have hlt : ∀ j, j < W1.heap.size → (some j) ≠ row := fun j hj e => by have := (hr j e.symm).1; omega
    have hA : ∀ j o, A.heap[j]? = some o → j < A.heap.size := fun j o h => (Array.getElem?_eq_some_iff.1 h).1
    exact ⟨hI k A B row hi hg' (fun r e => ⟨by have := (hr r e).1; omega, (hr r e).2⟩), (hg'.block _ (hA _ _ hl) (hlt _ (by omega))).trans hl, (hg'.block _ (hA _ _ hd) (hlt _ (by omega))).trans hd⟩
  · rintro m k W hk ⟨hi, hl, hd⟩
    have hy := run_yield (P := P) (args := encs k) hl (by rw [hrec]; exact hps k)
    rw [hrec] at hy
    refine ⟨fn, _, assign, body, hy, roundIn_of_wpIn trivial (wpIn_mono (hround m _ k W hk hi) ?_)⟩
    intro e a' W2 hq
    cases e with
    | normal => ?_
    | _ => exact hq.elim
    obtain ⟨hk2, hp2, hi2, Z, hZ, hz, hbody⟩ := hq
    have hl2 := hk2.same _ _ hl rfl
    have hd2 := hk2.same _ _ hd rfl
    have hlt2 : w.heap.size + 1 < W2.heap.size := (Array.getElem?_eq_some_iff.1 hl2).1
    refine ⟨_, run_beginRound hl2 (by rw [hrec]), ?_⟩
    refine wpIn_mono (hbody _ (hI.putObj _ hi2 (by omega) hl2 rfl) (hZ.putObj (s := ()) _ hz (by omega) hl2 rfl)) ?_
    have hlb : (W2.putObj (w.heap.size + 1) (.loop { rec .ready with state := .busy })).heap[w.heap.size + 1]? = some (.loop { rec .ready with state := .busy }) := World.putObj_heap_same hlt2
    have hdb : (W2.putObj (w.heap.size + 1) (.loop { rec .ready with state := .busy })).heap[w.heap.size]? = some (.deferred (some [])) := (World.putObj_heap_other (by omega)).trans hd2
    have hpb : Kp W2 (W2.putObj (w.heap.size + 1) (.loop { rec .ready with state := .busy })) := hKb _ _ _ _ (by omega) hl2 rfl
    rintro e a3 W3 hp
    cases e with
    | normal =>
      obtain ⟨hk3, hp3, hi3⟩ := hp
      have hl3 := hk3.same _ _ hlb rfl
      have hd3 := hk3.same _ _ hdb rfl
      have hlt3 : w.heap.size + 1 < W3.heap.size := (Array.getElem?_eq_some_iff.1 hl3).1
      have hr := run_endRound (P := P) none hl3
      refine ⟨_, _, hr, rfl, ⟨hI.putObj _ hi3 (by omega) hl3 rfl, ?_, (World.putObj_heap_other (by omega)).trans hd3⟩, ⟨?_, fun j o hj ho => ?_⟩, hKt hp2 (hKt hpb (hKt hp3 (hKb _ _ _ _ (by omega) hl3 rfl)))⟩
      · rw [World.putObj_heap_same hlt3, hrec]; rfl
      · have h1 := hk2.size
        have h2 := hk3.size
        simp at h2 ⊢
        omega
      · by_cases hjl : j = w.heap.size + 1
        · subst hjl
          rw [World.putObj_heap_same hlt3, ← hj, hl, hrec]; rfl
        · rw [World.putObj_heap_other (by omega)]
          exact hk3.same _ _ ((World.putObj_heap_other (by omega)).trans (hk2.same _ _ hj ho)) ho
    | _ => exact hp.elim
  · rintro e W2 ⟨⟨v, rfl⟩, hi, hl, hd⟩
    exact ⟨none, _, by have := run_endLoop (P := P) hl (by rw [hrec]; simp); rw [hrec] at this; exact this, hdone _ _ (Nat.le_refl _) (hI.putObj _ hi (by omega) hl rfl) ((World.putObj_heap_other (by omega)).trans hd)⟩
end

/-- The k-th block of n bytes f, the last one filled up. -/
def fullP (n : Nat) (f : Nat → Nat) (k : Nat) : Nat → Nat := fun j => if 16 * k + j < n then f (16 * k + j) else 0
theorem fullP_lt {n : Nat} {f : Nat → Nat} (h : ∀ i, i < n → f i < 256) (k j : Nat) : fullP n f k j < 256 := by
  unfold fullP
  split
  · exact h _ (by assumption)
  · omega

set_option maxHeartbeats 400000 in
theorem blocks74_any (a : Addr) (m c : Nat) (w : World) :
    Calls Try.prog 74 #[.slice (some a) m c] w fun e w' => e = .returned (.func (.func 79) #[] #[.pointer (some ⟨w.heap.size, 0, none⟩)]) ∧ w' = w.alloc (.cells #[.slice (some a) m c] 62) := by
  go_enter Try.func74, Try.ntmps74
  go_wp2
  go_ret
  exact ⟨rfl, rfl⟩

/-- m texts s, of n bytes f, behind the box Bt and in the block gt. -/
def Texts (W : World) (Bt gt m : Nat) (s : Nat → Value) (n : Nat → Nat) (f : Nat → Nat → Nat) : Prop :=
  W.cell? ⟨Bt, 0, none⟩ = some (.slice (some ⟨gt, 0, none⟩) m m) ∧ ∀ i, i < m → W.cell? ⟨gt, i, none⟩ = some (s i) ∧ RdF W (s i) (n i) (f i)

theorem KpB.cell {lo : Nat} {keep : Nat → Prop} {W W' : World} (h : KpB lo keep W W') {B o : Nat} {v : Value} (hB : lo ≤ B ∨ keep B) (hc : W.cell? ⟨B, o, none⟩ = some v) : W'.cell? ⟨B, o, none⟩ = some v := by
  obtain ⟨cs, t, f, he⟩ := cells_of_cell hc
  exact (World.cell?_of_block (a := ⟨B, o, none⟩) ((h B cs t f hB he).trans he.symm)).trans hc
theorem KpB.rd {W W' : World} {keep : Nat → Prop} (h : KpB 0 keep W W') {v : Value} {n : Nat} {f : Nat → Nat} (hr : RdF W v n f) : RdF W' v n f := by
  obtain ⟨ao, cap, hv, hc, hn, hf⟩ := hr
  refine ⟨ao, cap, hv, hc, hn, fun i hi => ?_⟩
  obtain ⟨h1, a, ha, h2⟩ := hf i hi
  refine ⟨h1, a, ha, ?_⟩
  generalize a.add i = A at h2 ⊢
  have hsp := World.cell?_spot h2
  obtain ⟨b, o, sp⟩ := A
  simp only at hsp
  subst hsp
  exact h.cell (.inl (Nat.zero_le _)) h2
theorem Texts.all {W W' : World} {keep : Nat → Prop} (h : KpB 0 keep W W') {Bt gt m : Nat} {s : Nat → Value} {n : Nat → Nat} {f : Nat → Nat → Nat} (hT : Texts W Bt gt m s n f) : Texts W' Bt gt m s n f :=
  ⟨h.cell (.inl (Nat.zero_le _)) hT.1, fun i hi => ⟨h.cell (.inl (Nat.zero_le _)) (hT.2 i hi).1, h.rd (hT.2 i hi).2⟩⟩
theorem KpB.grown {W W' : World} {keep : Nat → Prop} {row : Option Nat} (hg : W.grownBy W' row) (hr : ∀ r, row = some r → ∃ o : Obj, W.heap[r]? = some o ∧ o.isCells = false) : KpB 0 keep W W' := by
  intro j cs t f _ he
  refine (hg.block j (Array.getElem?_eq_some_iff.1 he).1 (fun e => ?_)).trans he
  obtain ⟨o, ho, hc⟩ := hr j e.symm
  rw [he] at ho
  cases ho
  cases hc

/-- Marks of loops that have run. -/
def marksOf (Ds : List Nat) : List Deferred := Ds.map fun D => { target := .collected D, args := #[] }
theorem marks_leave {n : Nat} {fn : Func} {tmps : Array Value} {v : Value} {J : Nat → World → Prop} {B K : Nat} (hJ : OwnFrom B J) (hv : ∀ w, (results fn tmps).run Try.prog w = .ok v w) : ∀ (Ds : List Nat) (w : World), (∀ D, D ∈ Ds → B ≤ D ∧ w.heap[D]? = some (.deferred (some []))) → Ds.Nodup → J K w →
    LeavesInM Fence.wide n Try.prog fn tmps (fun e W' => (∃ v, e = .returned v) ∧ J K W') (marksOf Ds) .returning w := by
  intro Ds
  induction Ds with
  | nil => exact fun w _ _ hj => ⟨v, hv w, ⟨_, rfl⟩, hj⟩
  | cons D Ds ih =>
    intro w h1 h2 hj
    obtain ⟨hB, hD⟩ := h1 D (List.mem_cons_self ..)
    obtain ⟨hn1, hn2⟩ := List.nodup_cons.1 h2
    refine ⟨by simp, .inl ⟨D, w.putObj D (.deferred none), rfl, run_takeDeferred hD, ih _ (fun D' hD' => ?_) hn2 (hJ.putObj _ hj hB hD rfl)⟩⟩
    obtain ⟨h3, h4⟩ := h1 D' (List.mem_cons_of_mem _ hD')
    have : D' ≠ D := fun e => hn1 (e ▸ hD')
    exact ⟨h3, (World.putObj_heap_other this).trans h4⟩

set_option maxRecDepth 100000 in
set_option maxHeartbeats 1000000 in
theorem blocks_walk (n l : Nat) (Bt gt m : Nat) (s : Nat → Value) (nn : Nat → Nat) (ff : Nat → Nat → Nat) (tot : Nat → Nat) (encs : Nat → Array Value) (lo : Nat) (keep : Nat → Prop) (hm : m ≤ 10)
    (hnn : ∀ i, i < m → nn i ≤ 1000000) (ht0 : tot 0 = 0) (hts : ∀ i, i < m → tot (i + 1) = tot i + (nn i + 15) / 16)
    (hencs : ∀ i, i < m → ∀ k, k < (nn i + 15) / 16 → encs (tot i + k) = #[.agg (row 16 (fullP (nn i) (ff i) k))])
    (hKp : ∀ A B, KpB lo keep A B → Texts A Bt gt m s nn ff → Texts B Bt gt m s nn ff) (J : Nat → World → Prop) (W : World) (hlo : lo ≤ W.heap.size) (hJ : OwnFrom W.heap.size J) (hE : ∀ k A B, J k A → Ext A B → J k B)
    (hY : ∀ m' k W1, k < tot m → J k W1 → YieldAt Fence.wide m' Try.prog l (encs k) W1 fun e W' => e = .returned (.bool true) ∧ J (k + 1) W' ∧ KeepsOthers W1 W' ∧ KpB lo keep W1 W')
    (h0 : J 0 W) (hT : Texts W Bt gt m s nn ff) :
    CallsIn Fence.wide n Try.prog 79 #[.func (.yield l) #[] #[], .pointer (some ⟨Bt, 0, none⟩)] W fun e W' => (∃ v, e = .returned v) ∧ J (tot m) W' := by
  have HJ := Lib.hid hJ
  have HE := Lib.hid hE
  have HK := Lib.hid hKp
  have HY := Lib.hid hY
  have HC := Lib.hid hencs
  have HN := Lib.hid hnn
  have HS := Lib.hid hts
  clear hJ hE hKp hY hencs hnn hts
  refine callsIn_of_wp_marks Try.func79 rfl trivial (wpIn_wide.2 ?_) rfl
  simp only [Try.ntmps79, List.size_toArray, List.length_cons, List.length_nil, Nat.reduceAdd, Nat.reduceSub, Array.replicate_succ, Array.replicate_zero, List.push_toArray, List.append_toArray, List.nil_append, List.cons_append]
  have hx0 : Ext W (W.alloc (.cells #[.func (.yield l) #[] #[]] 108)) := Ext.alloc _ _
  have hbt := hx0.cell hT.1
  have hb2 : Blk (W.alloc (.cells #[.func (.yield l) #[] #[]] 108)) W.heap.size 108 #[.func (.yield l) #[] #[]] := Blk.new _ _ _
  have hT0 := Texts.all (keep := keep) (KpB.ext hx0) hT
  have hj0 := HE.out 0 _ _ h0 hx0
  have hs0 : W.heap.size < (W.alloc (.cells #[.func (.yield l) #[] #[]] 108)).heap.size := by simp
  clear h0 hT
  go_wp2_with fail
  generalize W.alloc (.cells #[.func (.yield l) #[] #[]] 108) = W0 at hT0 hj0 hs0 hb2 ⊢
  clear hbt hx0
  refine (wpIn_wide (n := 0)).1 (wpIn_loop (fun a wq => ∃ (i : Nat) (Ds : List Nat) (u4 u5 u6 u10 u11 u12 u13 u14 u15 u16 u17 u18 u19 u20 u21 u22 u23 : Value), i ≤ m ∧
      a = { tmps := #[.func (.yield l) #[] #[], .pointer (some ⟨Bt, 0, none⟩), .pointer (some ⟨W.heap.size, 0, none⟩), undef, u4, u5, u6, .slice (some ⟨gt, 0, none⟩) m m, .int .i64 m, .int .i64 i, u10, u11, u12, u13, u14, u15, u16, u17, u18, u19, u20, u21, u22, u23], defers := marksOf Ds } ∧
      J (tot i) wq ∧ Texts wq Bt gt m s nn ff ∧ Blk wq W.heap.size 108 #[.func (.yield l) #[] #[]] ∧ (∀ D, D ∈ Ds → W.heap.size ≤ D ∧ wq.heap[D]? = some (.deferred (some []))) ∧ Ds.Nodup ∧ W.heap.size < wq.heap.size)
    (fun a _ => m - (intOf (a.tmps.getD 9 undef)).toNat) ?start ?round)
  case start => exact ⟨0, [], _, _, _, _, _, _, _, _, _, _, _, _, _, _, _, _, _, by omega, rfl, by rw [ht0]; exact hj0, hT0, hb2, fun _ h => (by cases h), List.nodup_nil, hs0⟩
  case round =>
    clear hT0 hj0 hs0 hb2
    rintro a wq ⟨i, Ds, u4, u5, u6, u10, u11, u12, u13, u14, u15, u16, u17, u18, u19, u20, u21, u22, u23, hi, rfl, hj, hT, hb, hD, hnd, hsq⟩
    refine wpIn_wide.2 ?_
    have hgi := hT.2
    have HT := Lib.hid hT
    have HB := Lib.hid hb
    have HD := Lib.hid hD
    have HJi := Lib.hid hj
    have HND := Lib.hid hnd
    clear hT hb hD hj hnd
    by_cases him : i < m
    · have him' : (i : Int) < (m : Int) := by omega
      obtain ⟨hgs, hrd⟩ := hgi i him
      obtain ⟨ao, ci, hsi, hci⟩ := hrd.len
      rw [hsi] at hgs hrd
      have HR := Lib.hid hrd
      clear hgi hrd
      go_wp2_with fail
      refine (chunk_any ao (nn i) ci _).mono ?_
      rintro e w5 ⟨rfl, rfl⟩
      go_wp2_with fail
      obtain ⟨g, off, hga⟩ : ∃ g off, 0 < nn i → ao = some ⟨g, off, none⟩ := by
        by_cases h : 0 < nn i
        · obtain ⟨g, off, c', e, _⟩ := HR.out.form h
          cases e
          exact ⟨g, off, fun _ => rfl⟩
        · exact ⟨0, 0, fun h' => absurd h' h⟩
      have hxq : Ext wq ((wq.alloc (.cells #[.slice ao (nn i) ci] 22)).alloc (.cells #[.int .i64 16] 3)) := (Ext.alloc _ _).trans (Ext.alloc _ _)
      have hBs : Blk ((wq.alloc (.cells #[.slice ao (nn i) ci] 22)).alloc (.cells #[.int .i64 16] 3)) wq.heap.size 22 #[.slice ao (nn i) ci] := (Blk.new _ _ _).alloc _
      have hBn : Blk ((wq.alloc (.cells #[.slice ao (nn i) ci] 22)).alloc (.cells #[.int .i64 16] 3)) (wq.heap.size + 1) 3 #[.int .i64 16] := by
        have := Blk.new (wq.alloc (.cells #[.slice ao (nn i) ci] 22)) 3 #[.int .i64 16]
        simpa only [World.size_alloc] using this
      have hs5 : wq.heap.size < ((wq.alloc (.cells #[.slice ao (nn i) ci] 22)).alloc (.cells #[.int .i64 16] 3)).heap.size := by simp only [World.size_alloc]; omega
      generalize (wq.alloc (.cells #[.slice ao (nn i) ci] 22)).alloc (.cells #[.int .i64 16] 3) = W5 at hxq hBs hBn hs5 ⊢
      obtain ⟨gq, hgq⟩ : ∃ gq, gq = wq.heap.size := ⟨_, rfl⟩
      rw [← hgq] at hBs hBn hs5 hsq ⊢
      have hDlt : ∀ D, D ∈ Ds → D < gq := fun D h => by rw [hgq]; exact (Array.getElem?_eq_some_iff.1 (HD.out D h).2).1
      have hT5 := Texts.all (keep := keep) (KpB.ext hxq) HT.out
      have hJ5 := HE.out _ _ _ HJi.out hxq
      have hB5 := HB.out.ext hxq
      have hD5 : ∀ D, D ∈ Ds → W.heap.size ≤ D ∧ W5.heap[D]? = some (.deferred (some [])) := fun D h => ⟨(HD.out D h).1, hxq.heap (HD.out D h).2⟩
      clear hgq hxq HT HJi HB HD HR hgs
      have hmono : ∀ b, i + 1 ≤ b → b ≤ m → tot (i + 1) ≤ tot b := by
        intro b
        induction b with
        | zero => intro h; omega
        | succ b ih =>
          intro h1 h2
          rcases Nat.lt_or_ge i b with h | h
          · have := ih (by omega) (by omega)
            have := HS.out b (by omega)
            omega
          · obtain rfl : b = i := by omega
            exact Nat.le_refl _
      have hti := HS.out i him
      have htm := hmono m (by omega) (Nat.le_refl _)
      clear hmono
      refine (wpIn_wide (n := 0)).1 (range_law (gf := 69) (lb := #[.pointer (some ⟨gq, 0, none⟩), .pointer (some ⟨gq + 1, 0, none⟩)]) rfl (enters_of Try.func69 (by kernel_rfl) rfl)
        (Kp := KpB lo keep)
        (chunk_iter ao g off (nn i) ci gq (gq + 1) (HN.out i him) hci hga (KpB lo keep) (fun A A' v B hK hB hc => hK.cell (.inl (by omega)) hc) W5 (by rw [hBs.cell]; rfl) (by rw [hBn.cell]; rfl))
        (Below.refl _ _) (fun _ => rfl) (fun h k => h.trans k) (fun A b o o' _ hb ho => KpB.putObj hb ho)
        (fun k Wk => J (tot i + k) Wk ∧ Texts Wk Bt gt m s nn ff ∧ Blk Wk W.heap.size 108 #[.func (.yield l) #[] #[]] ∧ (∀ D, D ∈ Ds → W.heap.size ≤ D ∧ Wk.heap[D]? = some (.deferred (some []))) ∧ gq < Wk.heap.size)
        ?own ⟨hJ5, hT5, hB5, hD5, hs5⟩ ?round ?done)
      case own =>
        rintro k A A' row ⟨h1, h2, h3, h4, h5⟩ hg hr
        have hk0 : KpB 0 keep A A' := KpB.grown hg (fun r e => (hr r e).2)
        refine ⟨HJ.out _ A A' row h1 hg (fun r e => ⟨by have := (hr r e).1; omega, (hr r e).2⟩), h2.all hk0, hk0.blk (.inl (Nat.zero_le _)) h3, fun D hD => ⟨(h4 D hD).1, ?_⟩, by have := hg.size; omega⟩
        have hDl := hDlt D hD
        exact (hg.block D (by omega) (fun e => by have := (hr D e.symm).1; omega)).trans (h4 D hD).2
      case round =>
        rintro m' l' k Wk hk ⟨h1, h2, h3, h4, h5⟩
        gi_wp2_with fail
        refine ⟨KeepsOthers.refl _, KpB.refl _ _ _, ⟨h1, h2, h3, h4, h5⟩, fun _ => True, fun _ _ _ _ _ _ _ => trivial, trivial, ?_⟩
        clear h1 h2 h3 h4 h5 Wk
        rintro Wk ⟨hjk, hTk, hbk, hDk, hsk⟩ _
        obtain ⟨r, hr⟩ : ∃ r, r = min 16 (nn i - 16 * k) := ⟨_, rfl⟩
        have hr1 : 0 < r := by omega
        have hr2 : r ≤ 16 := by omega
        have hr3 : 16 * k + r ≤ nn i := by omega
        have hsrc : RdF Wk (.slice (some ⟨g, off + 16 * k, none⟩) r r) r (fun j => ff i (16 * k + j)) := by
          have h := (hTk.2 i him).2
          rw [hsi, hga (by omega)] at h
          exact h.part (16 * k) r r hr3 (Nat.le_refl _)
        have hpv : partV g off (nn i) k = .slice (some ⟨g, off + 16 * k, none⟩) r r := by unfold partV; rw [← hr]
        rw [hpv]
        have hrow : row 16 (mixF r (fun j => ff i (16 * k + j)) fun _ => 0) = row 16 (fullP (nn i) (ff i) k) := row_congr fun j hj => by
          simp only [mixF, fullP]
          by_cases h : j < r
          · rw [if_pos h, if_pos (by omega)]
          · rw [if_neg h, if_neg (by omega)]
        obtain ⟨Wc, hWc⟩ : ∃ Wc, Wc = (Wk.alloc (.cells (row 16 fun _ => 0) 23)).setRow Wk.heap.size (row 16 (fullP (nn i) (ff i) k)) := ⟨_, rfl⟩
        have hx : Ext Wk Wc := by rw [hWc]; exact below_setRow (g := Wk.heap.size) (Ext.alloc _ _) (Nat.le_refl _) _
        have hbf : Blk Wc Wk.heap.size 23 (row 16 (fullP (nn i) (ff i) k)) := by rw [hWc]; exact (Blk.new _ _ _).setRow _
        have hc108 : Wc.cell? ⟨W.heap.size, 0, none⟩ = some (.func (.yield l) #[] #[]) := (hbk.ext hx).cell 0
        obtain ⟨fn, tmps, assign, body, hy, hR⟩ := HY.out (m' - 1) (tot i + k) Wc (by omega) (HE.out _ _ _ hjk hx)
        rw [HC.out i him k hk] at hy
        have HSRC := Lib.hid hsrc
        have HROW := Lib.hid hrow
        have HWC := Lib.hid hWc
        have HX := Lib.hid hx
        have HBF := Lib.hid hbf
        have HTk := Lib.hid hTk
        have HBk := Lib.hid hbk
        have HDk := Lib.hid hDk
        clear hsrc hrow hWc hx hbf hTk hbk hDk hpv hr hjk hga hsi
        gi_wp2_with (first | (refine wlIn_one l' rfl (by intro c h; cases h) (fun K hK => wp_allocA 23 rfl _ zero23 (hK _ _ ?_))) | (refine wlIn_one l' rfl (by intro c h; cases h) (fun K hK => wp_copyF (.tmp 16) (.tmp 17) rfl Wk.heap.size 16 16 _ r (fun j => ff i (16 * k + j)) (fun _ => 0) 23 rfl rfl (HSRC.out.ext (Ext.alloc _ _)) hr1 hr2 (Blk.new _ _ _) (hK _ _ ?_)); rw [HROW.out, ← HWC.out]) | (refine wlIn_one l' rfl (by intro c h; cases h) (fun K hK => wp_loadA 23 (.tmp 6) rfl _ 0 16 rfl agg23 sz23 _ _ HBF.out (by simp [row_size]) (row 16 (fullP (nn i) (ff i) k)) (row_whole _ _) (hK _ _ ?_))))
        refine ⟨fun h => (by simp [Fence.wide] at h), ?_⟩
        have hR' : RoundIn (Fence.wide.inRound l') (m' - 1) Try.prog l fn tmps assign body Wc (fun e W' => e = .returned (.bool true) ∧ J (tot i + k + 1) W' ∧ KeepsOthers Wc W' ∧ KpB lo keep Wc W') := hR
        refine hR'.mono ?_
        rintro e W3 ⟨rfl, hJ3, hko, hkp⟩
        have HJ3 := Lib.hid hJ3
        have HKO := Lib.hid hko
        have HKP := Lib.hid hkp
        have hs3 := hko.size
        have hsx := HX.out.size
        clear hJ3 hko hkp hR hR' hy hc108
        gi_wp2_with fail
        refine ⟨(keeps_of_ext HX.out).trans HKO.out, (KpB.ext HX.out).trans HKP.out, HJ3.out, HK.out _ _ HKP.out (Texts.all (keep := keep) (KpB.ext HX.out) HTk.out), HKP.out.blk (.inl hlo) (HBk.out.ext HX.out), fun D hD => ⟨(HDk.out D hD).1, HKO.out.same _ _ (HX.out.heap (HDk.out D hD).2) rfl⟩, by omega⟩
      case done =>
        rintro D Wd hDs ⟨hj, hT, hb, hD, hs⟩ hdef
        rw [← hti] at hj
        have HJd := Lib.hid hj
        have HTd := Lib.hid hT
        have HBd := Lib.hid hb
        have HDd := Lib.hid hD
        have HDf := Lib.hid hdef
        clear hj hT hb hD hdef
        go_wp2_with fail
        refine ⟨⟨i + 1, D :: Ds, ?_⟩, by simp [intOf]; omega⟩
        iterate 17 apply Exists.intro
        refine ⟨by omega, rfl, HJd.out, HTd.out, HBd.out, fun D' hD' => ?_, ?_, by omega⟩
        · rcases List.mem_cons.1 hD' with rfl | h
          · exact ⟨by omega, HDf.out⟩
          · exact HDd.out D' h
        · exact List.nodup_cons.2 ⟨fun h => by have := hDlt D h; omega, HND.out⟩
    · obtain rfl : i = m := by omega
      clear hgi
      go_wp2_with fail
      exact marks_leave (v := .tuple #[]) HJ.out (fun _ => by kernel_rfl) Ds wq HD.out HND.out HJi.out

theorem blocks_iter (Bt gt m : Nat) (s : Nat → Value) (nn : Nat → Nat) (ff : Nat → Nat → Nat) (tot : Nat → Nat) (encs : Nat → Array Value) (lo : Nat) (keep : Nat → Prop) (hm : m ≤ 10)
    (hnn : ∀ i, i < m → nn i ≤ 1000000) (ht0 : tot 0 = 0) (hts : ∀ i, i < m → tot (i + 1) = tot i + (nn i + 15) / 16)
    (hencs : ∀ i, i < m → ∀ k, k < (nn i + 15) / 16 → encs (tot i + k) = #[.agg (row 16 (fullP (nn i) (ff i) k))])
    (hKp : ∀ A B, KpB lo keep A B → Texts A Bt gt m s nn ff → Texts B Bt gt m s nn ff) (w : World) (hlo : lo ≤ w.heap.size) (hT : Texts w Bt gt m s nn ff) :
    IterX Try.prog 79 #[.pointer (some ⟨Bt, 0, none⟩)] encs (KpB lo keep) (tot m) w := by
  intro n l J W hW hJ hE hY h0
  have hx : Ext w W := hW
  exact blocks_walk n l Bt gt m s nn ff tot encs lo keep hm hnn ht0 hts hencs hKp J W (Nat.le_trans hlo hx.size) hJ hE hY h0 (Texts.all (keep := keep) (KpB.ext hx) hT)
end Go.Proofs.Ytnigpobbckampaa
