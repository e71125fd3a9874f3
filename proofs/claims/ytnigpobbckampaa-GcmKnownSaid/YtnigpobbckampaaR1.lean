/- The rule for regions that make several blocks: the blocks differ. -/
import Derived.Test.YtnigpobbckampaaK
namespace Go.Proofs.Ytnigpobbckampaa
set_option linter.unusedSimpArgs false
set_option linter.unusedVariables false
open Go.RowKit Go.Shelf

section
variable {P : Program}

/-- What is owed of each head operation, with a word on what it does. -/
def OwedX (P : Program) (l : List Oper) (n : Nat) (E : Nat → Ent) (a0 : Act) (w0 : World) (Xk : Nat → Value → World → World → Prop) : Prop :=
  ∀ k o, k < n → l[k]? = some o → ∀ a w, Ext w0 w → a.tmps.size = a0.tmps.size → a.defers = a0.defers →
    (∀ t ∈ o.looksAt l.toArray, dstAt l n t = none → a.tmps.getD t undef = a0.tmps.getD t undef) →
    (∀ t ∈ o.looksAt l.toArray, ∀ j, dstAt l n t = some j → (E j).V (a.tmps.getD t undef) w) →
    if Region.wanted o (yielded l.toArray a.tmps) then runs P o a w (fun v w' => Ext w w' ∧ (E k).V v w' ∧ Xk k v w w') else (E k).V undef w ∧ Xk k undef w w

theorem wpAny_midX {l : List Oper} {n : Nat} {E : Nat → Ent} {a0 : Act} {w0 : World} {Q : Exit → Act → World → Prop}
    (hB : headB l n = true) (hmono : ∀ j v w w', Ext w w' → (E j).V v w → (E j).V v w') (hin : ∀ t j, dstAt l n t = some j → t < a0.tmps.size)
    (hn : n ≤ l.length) (Xk : Nat → Value → World → World → Prop) (X : Array Bool → Act → World → Prop) (ow : OwedX P l n E a0 w0 Xk) {g : Nat}
    (hX : ∀ listed a w k o v w', Mid l n E a0 w0 listed a w → X listed a w → k ∈ Region.ready .any l.toArray listed → k < n → l[k]? = some o → Ext w w' → Xk k v w w' → X (listed.setIfInBounds k true) (a.put o.dst v) w')
    (tail : ∀ listed a w, Mid l n E a0 w0 listed a w → X listed a w → (∀ k, k < n → listed.getD k false = true) → wpAny P .any l.toArray Q g listed a w)
    (hsc : n < l.length → Region.sinkB .any l.toArray n = true ∧ Region.chainB .any l.toArray n = true) :
    ∀ (f : Nat) (listed : Array Bool) (a : Act) (w : World), Mid l n E a0 w0 listed a w → X listed a w → unlisted listed n = f → wpAny P .any l.toArray Q (f + g) listed a w := by
  intro f
  induction f with
  | zero =>
    intro listed a w m hx0 hu
    rw [Nat.zero_add]
    refine tail listed a w m hx0 fun k hk => ?_
    unfold unlisted at hu
    have h1 := List.length_eq_zero_iff.1 hu
    have h2 := List.filter_eq_nil_iff.1 h1 k (List.mem_range.2 hk)
    simpa using h2
  | succ f ih =>
    intro listed a w m hx0 hu
    have hpos : 0 < unlisted listed n := by omega
    -- the least one that is not listed is ready
    have hex : ∃ i, i < n ∧ listed.getD i false = false := by
      unfold unlisted at hpos
      obtain ⟨i, hi⟩ := List.exists_mem_of_length_pos hpos
      simp only [List.mem_filter, List.mem_range, Bool.not_eq_true'] at hi
      exact ⟨i, hi⟩
    obtain ⟨i, hi, hun⟩ := hex
    have hlt : ∀ {i}, i < n → i < listed.size := fun h => by rw [m.inv.size]; simpa using Nat.lt_of_lt_of_le h hn
    have hunt : ∀ {i}, i < n → listed.getD i false = false → listed.getD i true = false := fun h h2 => getD_in (hlt h) h2
    have hready : ∃ k, k ∈ Region.ready .any l.toArray listed ∧ k < n := by
      have key : ∀ i, i < n → listed.getD i false = false → ∃ k, k ∈ Region.ready .any l.toArray listed ∧ k < n := by
        intro i
        induction i using Nat.strongRecOn with
        | _ i ihi =>
          intro hi hun
          obtain ⟨o, ho, hop⟩ := headB_spec hB hi
          by_cases hall : ∀ e ∈ o.after, Region.binds .any e = true → listed.getD e.on false = true
          · exact ⟨i, mem_ready.2 ⟨hunt hi hun, o, by simpa using ho, hall⟩, hi⟩
          · have : ∃ e ∈ o.after, Region.binds .any e = true ∧ listed.getD e.on false = false := by
              refine Classical.byContradiction fun hno => hall fun e he hb => ?_
              cases hl : listed.getD e.on false with
              | true => rfl
              | false => exact absurd ⟨e, he, hb, hl⟩ hno
            obtain ⟨e, he, hb, hl⟩ := this
            have hlt2 := hop.edges e he hb
            exact ihi e.on hlt2 (by omega) hl
      exact key i hi hun
    rw [show f + 1 + g = (f + g) + 1 by omega]
    refine ⟨fun h0 => ?_, fun k hk => ?_⟩
    · obtain ⟨k, hk, _⟩ := hready
      rw [h0] at hk
      cases hk
    · rcases Nat.lt_or_ge k n with hkn | hkn
      rotate_left
      · exfalso
        have hkl : k < l.length := by
          obtain ⟨_, o, ho, _⟩ := mem_ready.1 hk
          simpa using (Array.getElem?_eq_some_iff.1 ho).1
        obtain ⟨hs, hc⟩ := hsc (by omega)
        exact absurd hk (tail_waits hs hc (by simp; omega) m.inv _ i rfl hi (hunt hi hun) k hkn)
      obtain ⟨o, ho, hop⟩ := headB_spec hB hkn
      obtain ⟨hkun, o', ho', hall⟩ := mem_ready.1 hk
      have : o' = o := Option.some.inj (ho'.symm.trans (by simpa using ho))
      subst this
      have hob := ow k o' hkn ho a w m.ext m.size m.defers
        (fun t ht hnone => m.old t fun j hj => by rw [hnone] at hj; cases hj)
        (fun t ht j hj => by
          obtain ⟨_, e, he, hb, hon⟩ := hop.looks t ht j hj
          exact m.new j (hon ▸ hall e he hb) t hj)
      have hfew : unlisted (listed.setIfInBounds k true) n = f := by
        have hcount : unlisted listed n = unlisted (listed.setIfInBounds k true) n + 1 := by
          unfold unlisted
          have hkl : listed.getD k false = false := getD_both hkun
          have : ((List.range n).filter (fun i => !listed.getD i false)).length = ((List.range n).filter (fun i => !(listed.setIfInBounds k true).getD i false)).length + 1 := by
            have hgen : ∀ (L : List Nat), L.Nodup → k ∈ L → (L.filter (fun i => !listed.getD i false)).length = (L.filter (fun i => !(listed.setIfInBounds k true).getD i false)).length + 1 := by
              intro L
              induction L with
              | nil => intro _ h; cases h
              | cons x L ihL =>
                intro hnd hmem
                have hnd' := List.nodup_cons.1 hnd
                by_cases hxk : x = k
                · subst hxk
                  have hsame : L.filter (fun i => !listed.getD i false) = L.filter (fun i => !(listed.setIfInBounds x true).getD i false) := by
                    refine List.filter_congr fun i hi => ?_
                    have : x ≠ i := fun e => hnd'.1 (e ▸ hi)
                    rw [getD_set_ne false this]
                  have h1 : (listed.setIfInBounds x true).getD x false = true := by simp [hlt hkn]
                  simp only [List.filter_cons, hkl, h1, Bool.not_false, Bool.not_true, if_true, Bool.false_eq_true, if_false, List.length_cons, hsame]
                · have hmem' : k ∈ L := by
                    cases hmem with
                    | head => exact absurd rfl hxk
                    | tail _ h => exact h
                  have := ihL hnd'.2 hmem'
                  have h1 : (listed.setIfInBounds k true).getD x false = listed.getD x false := getD_set_ne false (Ne.symm hxk)
                  simp only [List.filter_cons, h1]
                  split
                  · simp only [List.length_cons]; omega
                  · exact this
            exact hgen _ List.nodup_range (List.mem_range.2 hkn)
          exact this
        omega
      unfold wpOp
      have ho2 : l.toArray[k]? = some o' := by simpa using ho
      simp only [ho2]
      split
      · rename_i hw
        rw [if_pos hw] at hob
        refine .inl ?_
        unfold runs at hob
        unfold Oper.wp
        generalize (execOp a.eval o').run P w = r at *
        cases r with
        | ok nx w' =>
          cases nx <;> simp only [runsUpon] at hob <;> simp only [Oper.upon]
          · exact ih _ _ _ (m.step hB hmono hin hk hkn ho hob.1 hob.2.1) (hX _ _ _ _ _ _ _ m hx0 hk hkn ho hob.1 hob.2.2) hfew
          · exact ih _ _ _ (m.step hB hmono hin hk hkn ho hob.1 hob.2.1) (hX _ _ _ _ _ _ _ m hx0 hk hkn ho hob.1 hob.2.2) hfew
          · refine hob.mono fun e w'' ⟨v, he, hx, hv, hxk⟩ => ?_
            subst he
            exact ih _ _ _ (m.step hB hmono hin hk hkn ho hx hv) (hX _ _ _ _ _ _ _ m hx0 hk hkn ho hx hxk) hfew
          · exact hob.mono fun v w'' ⟨hx, hv, hxk⟩ => ih _ _ _ (m.step hB hmono hin hk hkn ho hx hv) (hX _ _ _ _ _ _ _ m hx0 hk hkn ho hx hxk) hfew
        | halt x w' => simp only [runsUpon] at hob
      · rename_i hw
        rw [if_neg hw] at hob
        exact ih _ _ _ (m.step hB hmono hin hk hkn ho (Ext.refl w) hob.1) (hX _ _ _ _ _ _ _ m hx0 hk hkn ho (Ext.refl w) hob.2) hfew


/-! ### Blocks that differ -/
def blockOf : Value → Option Nat
  | .pointer (some p) => some p.block
  | .slice (some p) _ _ => some p.block
  | _ => none
def New (v : Value) (w w' : World) : Prop := ∃ g, blockOf v = some g ∧ w.heap.size ≤ g ∧ g < w'.heap.size
def NewOp (P : Program) (o : Oper) : Prop := ∀ a w R, runs P o a w R → runs P o a w (fun v w' => R v w' ∧ New v w w')
theorem newOp_alloc {o : Oper} {ty : TypeId} {cs : Array Value} (ho : o.op = .alloc ty) (hz : ∀ w, (zeroValue ty).run P w = .ok (.agg cs) w) : NewOp P o := by
  intro a w R h
  have hr : (execOp a.eval o).run P w = .ok (.value (.pointer (some ⟨w.heap.size, 0, none⟩))) (w.alloc (.cells cs ty)) := by
    unfold execOp
    simp only [ho, Instr.alloc, Sem.run_bind, hz w, Result.andThen_ok, newVar, newRow, Value.cells, newObj]
    rfl
  unfold runs at h ⊢
  rw [hr] at h ⊢
  exact ⟨h, _, rfl, Nat.le_refl _, by simp⟩

def XkN (K : List Nat) (k : Nat) (v : Value) (w w' : World) : Prop := k ∈ K → New v w w'
def XN (l : List Oper) (n : Nat) (K : List Nat) (listed : Array Bool) (a : Act) (w : World) : Prop :=
  (∀ j, j ∈ K → listed.getD j false = true → ∀ t, dstAt l n t = some j → ∃ g, blockOf (a.tmps.getD t undef) = some g ∧ g < w.heap.size) ∧
  (∀ j, j ∈ K → ∀ k, k ∈ K → j ≠ k → listed.getD j false = true → listed.getD k false = true → ∀ t t', dstAt l n t = some j → dstAt l n t' = some k → blockOf (a.tmps.getD t undef) ≠ blockOf (a.tmps.getD t' undef))
def Differ (l : List Oper) (n : Nat) (K : List Nat) (a : Act) : Prop :=
  ∀ j, j ∈ K → ∀ k, k ∈ K → j ≠ k → ∀ t t', dstAt l n t = some j → dstAt l n t' = some k → blockOf (a.tmps.getD t undef) ≠ blockOf (a.tmps.getD t' undef)

theorem owedN {l : List Oper} {n : Nat} {E : Nat → Ent} {a0 : Act} {w0 : World} {K : List Nat} (hK : ∀ k, k ∈ K → ∃ o, l[k]? = some o ∧ o.guard = none ∧ NewOp P o) (h : Owed P l n E a0 w0) : OwedX P l n E a0 w0 (XkN K) := by
  intro k o hk ho a w hx hs hd h1 h2
  have h3 := h k o hk ho a w hx hs hd h1 h2
  by_cases hm : k ∈ K
  · obtain ⟨o', ho', hg, hnew⟩ := hK k hm
    have : o' = o := Option.some.inj (ho'.symm.trans ho)
    subst this
    have hw : Region.wanted o' (yielded l.toArray a.tmps) = true := by simp [Region.wanted, hg]
    rw [if_pos hw] at h3 ⊢
    exact runsUpon_mono (fun v w' ⟨⟨p, q⟩, r⟩ => ⟨p, q, fun _ => r⟩) (hnew a w _ h3)
  · split
    · rename_i hw
      rw [if_pos hw] at h3
      exact runsUpon_mono (fun v w' ⟨p, q⟩ => ⟨p, q, fun h => absurd h hm⟩) h3
    · rename_i hw
      rw [if_neg hw] at h3
      exact ⟨h3, fun h => absurd h hm⟩

theorem stepN {l : List Oper} {n : Nat} {E : Nat → Ent} {a0 : Act} {w0 : World} {K : List Nat} (hB : headB l n = true) (hin : ∀ t j, dstAt l n t = some j → t < a0.tmps.size) :
    ∀ listed a w k o v w', Mid l n E a0 w0 listed a w → XN l n K listed a w → k ∈ Region.ready .any l.toArray listed → k < n → l[k]? = some o → Ext w w' → XkN K k v w w' → XN l n K (listed.setIfInBounds k true) (a.put o.dst v) w' := by
  intro listed a w k o v w' m hx hr hk ho he hn
  obtain ⟨d, hd, hdk⟩ := dstAt_inj hB hk ho
  have hds : d < a.tmps.size := by rw [m.size]; exact hin d k hdk
  have hes := he.size
  rw [hd]
  have slot : ∀ t j, dstAt l n t = some j → j ≠ k → (a.put (some d) v).tmps.getD t undef = a.tmps.getD t undef := fun t j htj hjk => by
    refine slot_put_ne fun e => ?_
    subst e
    rw [hdk] at htj
    exact hjk (Option.some.inj htj).symm
  have self : ∀ t, dstAt l n t = some k → (a.put (some d) v).tmps.getD t undef = v := fun t htk => by
    have h1 := (dstAt_some htk).2
    have h2 := (dstAt_some hdk).2
    rw [h2] at h1
    obtain rfl := Option.some.inj h1
    exact slot_put hds
  refine ⟨fun j hj hl t ht => ?_, fun j hj i hi hji hlj hli t t' ht ht' => ?_⟩
  · by_cases hjk : j = k
    · subst hjk
      rw [self t ht]
      obtain ⟨g, h1, _, h3⟩ := hn hj
      exact ⟨g, h1, h3⟩
    · rw [getD_set_ne false (Ne.symm hjk)] at hl
      rw [slot t j ht hjk]
      obtain ⟨g, h1, h2⟩ := hx.1 j hj hl t ht
      exact ⟨g, h1, by omega⟩
  · by_cases hjk : j = k
    · subst hjk
      have hik : i ≠ j := Ne.symm hji
      rw [getD_set_ne false (Ne.symm hik)] at hli
      rw [self t ht, slot t' i ht' hik]
      obtain ⟨g, h1, h2, _⟩ := hn hj
      obtain ⟨g', h3, h4⟩ := hx.1 i hi hli t' ht'
      rw [h1, h3]
      intro e
      cases e
      omega
    · rw [getD_set_ne false (Ne.symm hjk)] at hlj
      rw [slot t j ht hjk]
      by_cases hik : i = k
      · subst hik
        rw [self t' ht']
        obtain ⟨g, h1, h2, _⟩ := hn hi
        obtain ⟨g', h3, h4⟩ := hx.1 j hj hlj t ht
        rw [h1, h3]
        intro e
        cases e
        omega
      · rw [getD_set_ne false (Ne.symm hik)] at hli
        rw [slot t' i ht' hik]
        exact hx.2 j hj i hi hji hlj hli t t' ht ht'

theorem startN (l : List Oper) (n : Nat) (K : List Nat) (a : Act) (w : World) (m : Nat) : XN l n K (Array.replicate m false) a w :=
  ⟨fun j _ hl => (by rw [getD_replicate_false] at hl; cases hl), fun j _ k _ _ hl => (by rw [getD_replicate_false] at hl; cases hl)⟩
theorem differ_of {l : List Oper} {n : Nat} {K : List Nat} {listed : Array Bool} {a : Act} {w : World} (hx : XN l n K listed a w) (hall : ∀ k, k < n → listed.getD k false = true) : Differ l n K a :=
  fun j hj k hk hjk t t' ht ht' => hx.2 j hj k hk hjk (hall j (dstAt_some ht).1) (hall k (dstAt_some ht').1) t t' ht ht'

theorem any_midN {Q : Exit → Act → World → Prop} {a : Act} {w : World} {l : List Oper} (n : Nat) (es : List Ent) (K : List Nat) (hK : ∀ k, k ∈ K → ∃ o, l[k]? = some o ∧ o.guard = none ∧ NewOp P o) (hes : es.length = n)
    (hB : midB l n a.tmps.size = true)
    (h : wpE P l.toArray w (fun a' F => ∀ w', Ext w w' → (∀ p ∈ F, p.2 w') → Differ l n K a' → wpList P l.toArray Q (l.drop n) a' w') l es a []) :
    wpAny P .any l.toArray Q l.toArray.size (Array.replicate l.toArray.size false) a { w with drawn := w.drawn + 1 } := by
  simp only [midB, Bool.and_eq_true, Bool.or_eq_true, decide_eq_true_eq] at hB
  obtain ⟨⟨⟨⟨⟨hsel, hhead⟩, hn⟩, hsc⟩, hseq⟩, hslots⟩ := hB
  have hin : ∀ t j, dstAt l n t = some j → t < a.tmps.size := by
    intro t j hj
    obtain ⟨h1, h2⟩ := dstAt_some hj
    have := List.all_eq_true.1 hslots j (List.mem_range.2 h1)
    simpa [h2] using this
  have hmono := mono_of_wpE hhead hn hes hin h
  have how := owed_of_wpE hsel hhead hn hes hin h
  have hg : n + (l.length - n) = l.toArray.size := by simp; omega
  have hstart : Mid l n (entAt es) a w (Array.replicate l.toArray.size false) a { w with drawn := w.drawn + 1 } := by
    refine ⟨⟨by simp, fun j oj _ hl => (by rw [getD_replicate_false] at hl; cases hl), fun t _ ht => getD_in (by simpa using ht) (getD_replicate_false _ _)⟩, Ext.drew w, rfl, rfl, fun _ _ => rfl, fun j hj => (by rw [getD_replicate_false] at hj; cases hj)⟩
  have hcount : unlisted (Array.replicate l.toArray.size false) n = n := by
    unfold unlisted
    rw [List.filter_eq_self.2 (fun i _ => by rw [getD_replicate_false]; rfl)]
    simp
  have hgoal : wpAny P .any l.toArray Q (n + (l.length - n)) (Array.replicate l.toArray.size false) a { w with drawn := w.drawn + 1 } := ?_
  · rw [hg] at hgoal; exact hgoal
  refine wpAny_midX hhead hmono hin hn (XkN K) (XN l n K) (owedN hK how) (stepN hhead hin) (fun listed a' w' m hx hall => ?_) (fun hlt => ?_) n _ a _ hstart (startN _ _ _ _ _ _) hcount
  · -- the tail
    have hlisted : listed = ((List.range l.length).map (fun i => decide (i < n))).toArray := by
      apply Array.ext_getElem?
      intro i
      by_cases hi : i < l.length
      · have hsz : i < listed.size := by rw [m.inv.size]; simpa using hi
        rw [Array.getElem?_eq_getElem hsz]
        simp only [List.getElem?_toArray, List.getElem?_map, List.getElem?_range hi, Option.map_some]
        by_cases hin' : i < n
        · have := hall i hin'
          simp only [Array.getD_eq_getD_getElem?, Array.getElem?_eq_getElem hsz, Option.getD_some] at this
          simp [this, hin']
        · have := m.inv.tail i (by omega) (by simpa using hi)
          simp only [Array.getD_eq_getD_getElem?, Array.getElem?_eq_getElem hsz, Option.getD_some] at this
          simp [this, hin']
      · have hge : l.length ≤ i := by omega
        rw [Array.getElem?_eq_none (by rw [m.inv.size]; simpa using hge), Array.getElem?_eq_none (by simpa using hge)]
    obtain ⟨an, F, hT, hf⟩ := frames hhead hn hes hin h (fun t => a'.tmps.getD t undef) n (Nat.le_refl _)
    have hdrop : es.drop n = [] := by rw [← hes]; simp
    rw [hdrop] at hT
    have hT' : ∀ w', Ext w w' → (∀ p ∈ F, p.2 w') → Differ l n K an → wpList P l.toArray Q (l.drop n) an w' := by
      cases hl : l.drop n with
      | nil => rw [hl] at hT; simpa only [wpE, hl] using hT
      | cons o rest => rw [hl] at hT; simpa only [wpE, hl] using hT
    have han : an = a' := by
      have hsz : an.tmps.size = a'.tmps.size := hf.size.trans m.size.symm
      have hslot : ∀ t, an.tmps.getD t undef = a'.tmps.getD t undef := by
        intro t
        cases hd : dstAt l n t with
        | none =>
          rw [hf.old t (fun j hj => by rw [hd] at hj; cases hj), m.old t (fun j hj => by rw [hd] at hj; cases hj)]
        | some j =>
          have hjn := (dstAt_some hd).1
          have hV := m.new j (hall j hjn) t hd
          have hje : j < es.length := by omega
          have hej : es[j]? = some es[j] := List.getElem?_eq_getElem hje
          have hent : entAt es j = es[j] := by simp [entAt, hje]
          cases he : es[j] with
          | det v =>
            rw [he] at hej
            rw [hent, he] at hV
            rw [hf.det t j v hd hjn hej]
            exact hV.symm
          | any V =>
            rw [he] at hej
            exact hf.any t j V hd hjn hej
      have htm : an.tmps = a'.tmps := by
        apply Array.ext hsz
        intro i h1 h2
        have := hslot i
        simpa [h1, h2] using this
      have hdef : an.defers = a'.defers := hf.defers.trans m.defers.symm
      cases an; cases a'; simp only at htm hdef; subst htm hdef; rfl
    have hfin := hT' w' m.ext (fun p hp => by
      obtain ⟨j, V, hj, hd, he, hp2⟩ := hf.facts p hp
      have hV := m.new j (hall j hj) p.1 hd
      have hent : entAt es j = .any V := by simp [entAt, List.getD_eq_getElem?_getD, he]
      rw [hent] at hV
      rw [hp2]
      exact hV)
    rw [han] at hfin
    replace hfin := hfin (differ_of hx (fun k hk => hall k hk))
    have := wpAny_of_seq (md := .any) (Q' := Q) (l.drop n) n listed a' w' (fun j => by simp [List.getElem?_drop]) (by rw [hlisted]; simpa using hseq) hfin
    simpa using this
  · rcases hsc with h1 | h1
    · omega
    · exact h1

theorem wp_region_midN {id : Nat} {Q : Exit → Act → World → Prop} {a : Act} {w : World} {l : List Oper} (n : Nat) (es : List Ent) (K : List Nat) (hK : ∀ k, k ∈ K → ∃ o, l[k]? = some o ∧ o.guard = none ∧ NewOp P o) (hm : P.follows .mixedOrders = true) (hes : es.length = n)
    (hB : midB l n a.tmps.size = true)
    (h : wpE P l.toArray w (fun a' F => ∀ w', Ext w w' → (∀ p ∈ F, p.2 w') → Differ l n K a' → wpList P l.toArray Q (l.drop n) a' w') l es a []) : (Code.region id l.toArray true).wp P Q a w :=
  wp_region_any hm (any_midN n es K hK hes hB h)
end

end Go.Proofs.Ytnigpobbckampaa
