/- The rule for a region whose first operation may come before or behind the one that writes. -/
import Derived.Test.YtnigpobbckampaaT
namespace Go.Proofs.Ytnigpobbckampaa
set_option linter.unusedSimpArgs false
set_option linter.unusedVariables false
open Go.RowKit Go.Shelf

section
variable {P : Program}

theorem put_comm {a : Act} {d e : Tmp} (u v : Value) (h : d ≠ e) : (a.put (some d) u).put (some e) v = (a.put (some e) v).put (some d) u := by
  cases a with
  | mk tmps defers =>
    simp only [Act.put]
    rw [Array.setIfInBounds_comm _ _ h]

theorem wp_of_runs {o : Oper} {a : Act} {w : World} {K : Act → World → Prop} {Q : Exit → Act → World → Prop} (h : runs P o a w (fun v w' => K (a.put o.dst v) w')) : o.wp P a w K Q := by
  unfold runs at h
  unfold Oper.wp
  generalize (execOp a.eval o).run P w = r at *
  cases r with
  | ok nx w' =>
    cases nx <;> simp only [runsUpon] at h <;> simp only [Oper.upon]
    · exact h
    · exact h
    · refine h.mono fun e w'' ⟨v, he, hv⟩ => ?_
      subst he
      exact hv
    · exact h
  | halt x w' => simp only [runsUpon] at h

theorem runs_mono {o : Oper} {a : Act} {w : World} {R R' : Value → World → Prop} (h : runs P o a w R) (hr : ∀ v w', R v w' → R' v w') : runs P o a w R' := runsUpon_mono hr h

/-- All head operations but the first are listed. -/
def lateL (l : List Oper) (n : Nat) : Array Bool := ((List.range l.length).map (fun i => decide (0 < i ∧ i < n))).toArray

def sink0B (l : List Oper) (n : Nat) : Bool :=
  (List.range n).all fun i => i == 0 || (List.range (n + 1)).any fun j => decide (i < j) && Region.waitsFor .any l.toArray j i

def mid0B (l : List Oper) (n : Nat) (N : Nat) (o0 on : Oper) (d0 dn : Tmp) : Bool :=
  Region.noSelect l.toArray && headB l n && decide (n < l.length) && decide (0 < n) && sink0B l n && Region.chainB .any l.toArray n &&
  Region.seqB .any l.toArray (l.length - n) n ((List.range l.length).map (fun i => decide (i < n))).toArray &&
  ((List.range n).all fun k => match (l[k]?).bind (·.dst) with | some d => decide (d < N) | none => true) &&
  decide (unlisted (lateL l n) n = 1) && decide (Region.ready .any l.toArray ((lateL l n).setIfInBounds n true) = [0]) &&
  decide (((lateL l n).setIfInBounds n true).setIfInBounds 0 true = ((List.range l.length).map (fun i => decide (i < n))).toArray.setIfInBounds n true) &&
  o0.guard.isNone && on.guard.isNone && decide (dn ≠ d0) && (o0.looksAt l.toArray).all (fun t => dstAt l n t == none && decide (t ≠ dn)) && (on.looksAt l.toArray).all (fun t => decide (t ≠ d0))

theorem tail_waits0 {l : List Oper} {n : Nat} {listed : Array Bool} (hs : sink0B l n = true) (hc : Region.chainB .any l.toArray n = true) (hn : n < l.length) (inv : HeadInv .any l.toArray n listed) :
    ∀ (d i : Nat), n - i = d → 0 < i → i < n → listed.getD i true = false → ∀ t, n ≤ t → t ∉ Region.ready .any l.toArray listed := by
  intro d
  induction d using Nat.strongRecOn with
  | _ d ih =>
    intro i hd h0 hi hun t ht hr
    obtain ⟨_, ot, hot, hall⟩ := mem_ready.1 hr
    have htl : t < l.length := by simpa using (Array.getElem?_eq_some_iff.1 hot).1
    rcases Nat.lt_or_ge n t with htn | htn
    · have h1 := List.all_eq_true.1 hc t (List.mem_range.2 (by simpa using htl))
      simp only [Bool.or_eq_true, decide_eq_true_eq] at h1
      rcases h1 with h1 | h1
      · omega
      · obtain ⟨o', ho', e, he, hb, hon⟩ := Region.waitsFor_spec h1
        have : o' = ot := Option.some.inj (ho'.symm.trans hot)
        subst this
        have h2 := hall e he hb
        rw [hon, getD_both (inv.tail (t - 1) (by omega) (by simp; omega))] at h2
        cases h2
    · obtain rfl : t = n := by omega
      have h1 := List.all_eq_true.1 hs i (List.mem_range.2 hi)
      simp only [Bool.or_eq_true, beq_iff_eq] at h1
      rcases h1 with h1 | h1
      · omega
      obtain ⟨j, hj, hj2⟩ := List.any_eq_true.1 h1
      simp only [Bool.and_eq_true, decide_eq_true_eq] at hj2
      obtain ⟨oj, hoj, e, he, hb, hon⟩ := Region.waitsFor_spec hj2.2
      have hjr := List.mem_range.1 hj
      by_cases hjt : j = t
      · subst hjt
        have : oj = ot := Option.some.inj (hoj.symm.trans hot)
        subst this
        have h2 := hall e he hb
        rw [hon, getD_both hun] at h2
        cases h2
      · cases hl : listed.getD j false with
        | true =>
          have h2 := inv.closed j oj hoj hl e he hb
          rw [hon, getD_both hun] at h2
          cases h2
        | false => exact ih (t - j) (by omega) j rfl (by omega) (by omega) (getD_in (by rw [inv.size]; simp; omega) hl) t (Nat.le_refl _) hr

/-- What is known when the whole head has run, or the whole but its first operation. -/
theorem mid_end {l : List Oper} {n : Nat} {es : List Ent} {a0 : Act} {w0 : World} {T : Act → List (Tmp × (World → Prop)) → Prop} {listed : Array Bool} {a : Act} {w : World}
    (hB : headB l n = true) (hn : n ≤ l.length) (hes : es.length = n) (hin : ∀ t j, dstAt l n t = some j → t < a0.tmps.size) (h : wpE P l.toArray w0 T l es a0 [])
    (m : Mid l n (entAt es) a0 w0 listed a w) (hall : ∀ j, 0 < j → j < n → listed.getD j false = true) (d0 : Tmp) (hd0 : dstAt l n d0 = some 0) (v0 : Value) (hv0 : es[0]? = some (.det v0)) :
    ∃ F, T (a.put (some d0) v0) F ∧ ∀ p ∈ F, p.2 w := by
  obtain ⟨an, F, hT, hf⟩ := frames hB hn hes hin h (fun t => a.tmps.getD t undef) n (Nat.le_refl _)
  have hdrop : es.drop n = [] := by rw [← hes]; simp
  rw [hdrop] at hT
  have hT' : T an F := by
    cases hl : l.drop n with
    | nil => rw [hl] at hT; simpa only [wpE] using hT
    | cons o rest => rw [hl] at hT; simpa only [wpE] using hT
  have hn0 : 0 < n := (dstAt_some hd0).1
  have han : an = a.put (some d0) v0 := by
    have hsz : an.tmps.size = (a.put (some d0) v0).tmps.size := hf.size.trans (m.size.symm.trans (size_put _ _ _).symm)
    have hd0s : d0 < a.tmps.size := by rw [m.size]; exact hin d0 0 hd0
    have hslot : ∀ t, an.tmps.getD t undef = (a.put (some d0) v0).tmps.getD t undef := by
      intro t
      by_cases htd : t = d0
      · subst htd
        rw [slot_put hd0s]
        exact hf.det t 0 v0 hd0 hn0 hv0
      · rw [slot_put_ne htd]
        cases hd : dstAt l n t with
        | none => rw [hf.old t (fun j hj => by rw [hd] at hj; cases hj), m.old t (fun j hj => by rw [hd] at hj; cases hj)]
        | some j =>
          have hjn := (dstAt_some hd).1
          have hj0 : 0 < j := by
            rcases Nat.eq_zero_or_pos j with h0 | h0
            · subst h0
              have h1 := (dstAt_some hd).2
              have h2 := (dstAt_some hd0).2
              rw [h2] at h1
              exact absurd (Option.some.inj h1).symm htd
            · exact h0
          have hV := m.new j (hall j hj0 hjn) t hd
          have hje : j < es.length := by omega
          have hej : es[j]? = some es[j] := List.getElem?_eq_getElem hje
          have hent : entAt es j = es[j] := by simp [entAt, hje]
          cases he : es[j] with
          | det v =>
            rw [he] at hej
            rw [hent, he] at hV
            rw [hf.det t j v hd hjn hej]
            exact hV.symm
          | any V =>
            rw [he] at hej
            exact hf.any t j V hd hjn hej
    have htm : an.tmps = (a.put (some d0) v0).tmps := by
      apply Array.ext hsz
      intro i h1 h2
      have := hslot i
      simpa [h1, h2] using this
    have hdef : an.defers = (a.put (some d0) v0).defers := hf.defers.trans (m.defers.symm.trans (defers_put _ _ _).symm)
    cases an
    cases hc : a.put (some d0) v0
    rw [hc] at htm hdef
    simp only at htm hdef
    subst htm hdef
    rfl
  refine ⟨F, han ▸ hT', fun p hp => ?_⟩
  obtain ⟨j, V, hj, hd, he, hp2⟩ := hf.facts p hp
  have hj0 : 0 < j := by
    rcases Nat.eq_zero_or_pos j with h0 | h0
    · subst h0; rw [hv0] at he; cases he
    · exact h0
  have hV := m.new j (hall j hj0 hj) p.1 hd
  have hent : entAt es j = .any V := by simp [entAt, List.getD_eq_getElem?_getD, he]
  rw [hent] at hV
  rw [hp2]
  exact hV

theorem any_mid0 {Q : Exit → Act → World → Prop} {a : Act} {w : World} {l : List Oper} (n : Nat) (es : List Ent) (o0 on : Oper) (d0 dn : Tmp) (hl0 : l[0]? = some o0) (hln : l[n]? = some on) (hd0 : o0.dst = some d0) (hdn : on.dst = some dn)
    (hes : es.length = n) (hB : mid0B l n a.tmps.size o0 on d0 dn = true) (v0 : Value) (hv0 : es[0]? = some (.det v0)) (Reach : World → Prop)
    (h0 : ∀ a' w', (∀ t ∈ o0.looksAt l.toArray, a'.tmps.getD t undef = a.tmps.getD t undef) → Reach w' → runs P o0 a' w' (fun u w'' => w'' = w' ∧ u = v0))
    (h : wpE P l.toArray w (fun a' F => ∀ w', Ext w w' → (∀ p ∈ F, p.2 w') → runs P on a' w' (fun v w'' => Reach w'' ∧ wpList P l.toArray Q (l.drop (n + 1)) (a'.put (some dn) v) w'')) l es a []) :
    wpAny P .any l.toArray Q l.toArray.size (Array.replicate l.toArray.size false) a { w with drawn := w.drawn + 1 } := by
  simp only [mid0B, Bool.and_eq_true, decide_eq_true_eq] at hB
  obtain ⟨⟨⟨⟨⟨⟨⟨⟨⟨⟨⟨⟨⟨⟨⟨hsel, hhead⟩, hn⟩, hn0⟩, hsink⟩, hchain⟩, hseq⟩, hslots⟩, hun1⟩, hrd⟩, hlst⟩, hg0⟩, hgn⟩, hdne⟩, hlk0⟩, hlkn⟩ := hB
  have hin : ∀ t j, dstAt l n t = some j → t < a.tmps.size := by
    intro t j hj
    obtain ⟨h1, h2⟩ := dstAt_some hj
    have := List.all_eq_true.1 hslots j (List.mem_range.2 h1)
    simpa [h2] using this
  have hgu0 : o0.guard = none := by simpa using hg0
  have hgun : on.guard = none := by simpa using hgn
  have hmono := mono_of_wpE hhead (by omega) hes hin h
  have how := owed_of_wpE hsel hhead (by omega) hes hin h
  have hd0l : dstAt l n d0 = some 0 := by
    obtain ⟨d, h1, h2⟩ := dstAt_inj hhead hn0 hl0
    rw [hd0] at h1
    cases h1
    exact h2
  have hg : n + (l.length - n) = l.toArray.size := by simp; omega
  have hstart : Mid l n (entAt es) a w (Array.replicate l.toArray.size false) a { w with drawn := w.drawn + 1 } := by
    refine ⟨⟨by simp, fun j oj _ hl => (by rw [getD_replicate_false] at hl; cases hl), fun t _ ht => getD_in (by simpa using ht) (getD_replicate_false _ _)⟩, Ext.drew w, rfl, rfl, fun _ _ => rfl, fun j hj => (by rw [getD_replicate_false] at hj; cases hj)⟩
  have hcount : unlisted (Array.replicate l.toArray.size false) n = n := by
    unfold unlisted
    rw [List.filter_eq_self.2 (fun i _ => by rw [getD_replicate_false]; rfl)]
    simp
  obtain ⟨g', hg'⟩ : ∃ g', l.length - n = g' + 1 := ⟨l.length - n - 1, by omega⟩
  have hdl : l.drop n = on :: l.drop (n + 1) := by
    rw [List.drop_eq_getElem_cons hn]
    rw [List.getElem?_eq_getElem hn] at hln
    rw [Option.some.inj hln]
  have hseq' : Region.ready .any l.toArray ((List.range l.length).map (fun i => decide (i < n))).toArray = [n] ∧ Region.seqB .any l.toArray g' (n + 1) (((List.range l.length).map (fun i => decide (i < n))).toArray.setIfInBounds n true) = true := by
    rw [hg'] at hseq
    simpa only [Region.seqB, Bool.and_eq_true, decide_eq_true_eq] using hseq
  have hlen' : (l.drop (n + 1)).length = g' := by simp; omega
  have wanted : ∀ (o : Oper) (f : Nat → Option Bool), o.guard = none → Region.wanted o f = true := fun o f ho => by simp [Region.wanted, ho]
  have hgoal : wpAny P .any l.toArray Q (n + (l.length - n)) (Array.replicate l.toArray.size false) a { w with drawn := w.drawn + 1 } := ?_
  · rw [hg] at hgoal; exact hgoal
  refine wpAny_midG hhead hmono hin (by omega) how (fun listed a' w' m hall => ?_) (fun f listed a' w' m hu k hk hkn => ?_) n _ a _ hstart hcount
  · -- the whole head has run
    have hlisted : listed = ((List.range l.length).map (fun i => decide (i < n))).toArray := by
      apply Array.ext_getElem?
      intro i
      by_cases hi : i < l.length
      · have hsz : i < listed.size := by rw [m.inv.size]; simpa using hi
        rw [Array.getElem?_eq_getElem hsz]
        simp only [List.getElem?_toArray, List.getElem?_map, List.getElem?_range hi, Option.map_some]
        by_cases hin' : i < n
        · have := hall i hin'
          simp only [Array.getD_eq_getD_getElem?, Array.getElem?_eq_getElem hsz, Option.getD_some] at this
          simp [this, hin']
        · have := m.inv.tail i (by omega) (by simpa using hi)
          simp only [Array.getD_eq_getD_getElem?, Array.getElem?_eq_getElem hsz, Option.getD_some] at this
          simp [this, hin']
      · rw [Array.getElem?_eq_none (by rw [m.inv.size]; simpa using hi), Array.getElem?_eq_none (by simpa using hi)]
    obtain ⟨F, hT, hfF⟩ := mid_end hhead (by omega) hes hin h m (fun j _ hj => hall j hj) d0 hd0l v0 hv0
    have hput : a'.put (some d0) v0 = a' := by
      have hV := m.new 0 (hall 0 hn0) d0 hd0l
      have hent : entAt es 0 = .det v0 := by simp [entAt, List.getD_eq_getElem?_getD, hv0]
      rw [hent] at hV
      have hd0s : d0 < a'.tmps.size := by rw [m.size]; exact hin d0 0 hd0l
      have hV' : a'.tmps.getD d0 undef = v0 := hV
      cases a' with
      | mk tmps defers =>
        simp only [Act.put]
        congr 1
        apply Array.ext_getElem?
        intro i
        simp only at hd0s hV'
        by_cases hi : d0 = i
        · subst hi
          rw [Array.getElem?_setIfInBounds, if_pos rfl, if_pos hd0s, Array.getElem?_eq_getElem hd0s]
          simp [hd0s] at hV'
          rw [hV']
        · rw [Array.getElem?_setIfInBounds, if_neg hi]
    rw [hput] at hT
    have h1 := hT w' m.ext hfF
    have hfin : wpList P l.toArray Q (l.drop n) a' w' := by
      rw [hdl]
      refine wpList_plain hgun fun K hK => wp_of_runs (runs_mono h1 fun v w'' hh => ?_)
      rw [hdn]
      exact hK _ _ hh.2
    have := wpAny_of_seq (md := .any) (Q' := Q) (l.drop n) n listed a' w' (fun j => by simp [List.getElem?_drop]) (by rw [hlisted]; simpa using hseq) hfin
    simpa using this
  · -- the one that writes comes before the first
    have hrest : ∀ j, 0 < j → j < n → listed.getD j false = true := by
      intro j h0j hjn
      cases hl : listed.getD j false with
      | true => rfl
      | false => exact absurd hk (tail_waits0 hsink hchain hn m.inv _ j rfl h0j hjn (getD_in (by rw [m.inv.size]; simp; omega) hl) k hkn)
    have hkl : k < l.length := by
      obtain ⟨_, o, ho, _⟩ := mem_ready.1 hk
      simpa using (Array.getElem?_eq_some_iff.1 ho).1
    obtain rfl : k = n := by
      rcases Nat.lt_or_ge n k with hlt | hge
      · obtain ⟨_, ot, hot, hall⟩ := mem_ready.1 hk
        have h1 := List.all_eq_true.1 hchain k (List.mem_range.2 (by simpa using hkl))
        simp only [Bool.or_eq_true, decide_eq_true_eq] at h1
        rcases h1 with h1 | h1
        · omega
        · obtain ⟨o', ho', e, he, hb, hon⟩ := Region.waitsFor_spec h1
          have : o' = ot := Option.some.inj (ho'.symm.trans hot)
          subst this
          have h2 := hall e he hb
          rw [hon, getD_both (m.inv.tail (k - 1) (by omega) (by simp; omega))] at h2
          cases h2
      · omega
    have hun0 : listed.getD 0 false = false := by
      obtain ⟨i, hi, hi2⟩ := exists_unlisted (listed := listed) (n := k) (by omega)
      rcases Nat.eq_zero_or_pos i with hz | hz
      · rw [← hz]; exact hi2
      · rw [hrest i hz hi] at hi2; cases hi2
    have hlisted : listed = lateL l k := by
      unfold lateL
      apply Array.ext_getElem?
      intro i
      by_cases hi : i < l.length
      · have hsz : i < listed.size := by rw [m.inv.size]; simpa using hi
        rw [Array.getElem?_eq_getElem hsz]
        simp only [List.getElem?_toArray, List.getElem?_map, List.getElem?_range hi, Option.map_some]
        by_cases hin' : i < k
        · rcases Nat.eq_zero_or_pos i with hz | hz
          · subst hz
            simp only [Array.getD_eq_getD_getElem?, Array.getElem?_eq_getElem hsz, Option.getD_some] at hun0
            simp [hun0]
          · have := hrest i hz hin'
            simp only [Array.getD_eq_getD_getElem?, Array.getElem?_eq_getElem hsz, Option.getD_some] at this
            simp [this, hin', hz]
        · have := m.inv.tail i (by omega) (by simpa using hi)
          simp only [Array.getD_eq_getD_getElem?, Array.getElem?_eq_getElem hsz, Option.getD_some] at this
          simp [this, hin']
      · rw [Array.getElem?_eq_none (by rw [m.inv.size]; simpa using hi), Array.getElem?_eq_none (by simpa using hi)]
    obtain rfl : f = 0 := by rw [hlisted, hun1] at hu; omega
    obtain ⟨F, hT, hfF⟩ := mid_end hhead (by omega) hes hin h m hrest d0 hd0l v0 hv0
    have h1 := hT w' m.ext hfF
    have hexec : execOp (a'.put (some d0) v0).eval on = execOp a'.eval on := execOp_congr on (fun cs b => Region.noSelect_spec hsel k on cs b (by simpa using hln)) fun x hxm => by
      cases x with
      | tmp t =>
        have ht : t ∈ on.looksAt l.toArray := List.mem_append_left _ (List.mem_filterMap.2 ⟨.tmp t, by simpa using hxm, rfl⟩)
        have hne := List.all_eq_true.1 hlkn t ht
        exact slot_put_ne (by simpa using hne)
      | _ => rfl
    have h2 := runs_congr hexec h1
    unfold wpOp
    have hon2 : l.toArray[k]? = some on := by simpa using hln
    simp only [hon2]
    rw [if_pos (wanted _ _ hgun)]
    refine .inl (wp_of_runs (runs_mono h2 fun v w'' ⟨hR, hwl⟩ => ?_))
    rw [Nat.zero_add, hg', hdn]
    rw [hlisted]
    refine ⟨fun he => (by rw [hrd] at he; cases he), fun i hi => ?_⟩
    rw [hrd] at hi
    obtain rfl : i = 0 := by simpa using hi
    unfold wpOp
    have ho2 : l.toArray[0]? = some o0 := by simpa using hl0
    simp only [ho2]
    rw [if_pos (wanted _ _ hgu0)]
    refine .inl (wp_of_runs (runs_mono (h0 _ w'' (fun t ht => ?_) hR) fun u w3 ⟨hw3, hu⟩ => ?_))
    · have h3 := List.all_eq_true.1 hlk0 t ht
      simp only [Bool.and_eq_true, beq_iff_eq, decide_eq_true_eq] at h3
      rw [slot_put_ne h3.2]
      exact m.old t fun j hj => by rw [h3.1] at hj; cases hj
    · subst hw3 hu
      rw [hd0, put_comm _ _ hdne, hlst]
      have := wpAny_of_seq (md := .any) (Q' := Q) (l.drop (k + 1)) (k + 1) _ _ w3 (fun j => by simp [List.getElem?_drop, Nat.add_assoc]) (by rw [hlen']; exact hseq'.2) hwl
      rw [hlen'] at this
      exact this

theorem wp_region_mid0 {id : Nat} {Q : Exit → Act → World → Prop} {a : Act} {w : World} {l : List Oper} (n : Nat) (es : List Ent) (o0 on : Oper) (d0 dn : Tmp) (hm : P.follows .mixedOrders = true) (hl0 : l[0]? = some o0) (hln : l[n]? = some on) (hd0 : o0.dst = some d0) (hdn : on.dst = some dn)
    (hes : es.length = n) (hB : mid0B l n a.tmps.size o0 on d0 dn = true) (v0 : Value) (hv0 : es[0]? = some (.det v0)) (Reach : World → Prop)
    (h0 : ∀ a' w', (∀ t ∈ o0.looksAt l.toArray, a'.tmps.getD t undef = a.tmps.getD t undef) → Reach w' → runs P o0 a' w' (fun u w'' => w'' = w' ∧ u = v0))
    (h : wpE P l.toArray w (fun a' F => ∀ w', Ext w w' → (∀ p ∈ F, p.2 w') → runs P on a' w' (fun v w'' => Reach w'' ∧ wpList P l.toArray Q (l.drop (n + 1)) (a'.put (some dn) v) w'')) l es a []) :
    (Code.region id l.toArray true).wp P Q a w :=
  wp_region_any hm (any_mid0 n es o0 on d0 dn hl0 hln hd0 hdn hes hB v0 hv0 Reach h0 h)

theorem wpIn_region_mid0 {id m : Nat} {Q : Exit → Act → World → Prop} {a : Act} {w : World} {l : List Oper} (lp n : Nat) (es : List Ent) (o0 on : Oper) (d0 dn : Tmp) (hm : P.follows .mixedOrders = true) (hnd : noDefer l = true) (hQ : ¬ LetsOut Q) (hl0 : l[0]? = some o0) (hln : l[n]? = some on) (hd0 : o0.dst = some d0) (hdn : on.dst = some dn)
    (hes : es.length = n) (hB : mid0B l n a.tmps.size o0 on d0 dn = true) (v0 : Value) (hv0 : es[0]? = some (.det v0)) (Reach : World → Prop)
    (h0 : ∀ a' w', (∀ t ∈ o0.looksAt l.toArray, a'.tmps.getD t undef = a.tmps.getD t undef) → Reach w' → runs P o0 a' w' (fun u w'' => w'' = w' ∧ u = v0))
    (h : wpE P l.toArray w (fun a' F => ∀ w', Ext w w' → (∀ p ∈ F, p.2 w') → runs P on a' w' (fun v w'' => Reach w'' ∧ wpList P l.toArray Q (l.drop (n + 1)) (a'.put (some dn) v) w'')) l es a []) :
    (Code.region id l.toArray true).wpIn (Fence.wide.inRound lp) m P Q a w :=
  wpIn_region_any hm (any_round lp hQ hnd _ _ _ _ (any_mid0 n es o0 on d0 dn hl0 hln hd0 hdn hes hB v0 hv0 Reach h0 h))
end

end Go.Proofs.Ytnigpobbckampaa
