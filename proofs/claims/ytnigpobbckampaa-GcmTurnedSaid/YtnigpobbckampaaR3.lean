/- The rule for drawn regions with one operation that writes what another has made. -/
import Derived.Test.YtnigpobbckampaaR2
namespace Go.Proofs.Ytnigpobbckampaa
open Go.RowKit
set_option linter.unusedSimpArgs false
set_option linter.unusedVariables false

/-- A step: the operation whose slot is sp does Gs to the world, each other one lets it grow. -/
def stepG (B : Nat) (sp : Tmp) (Gs : World → World → Prop) (o : Oper) (w w' : World) : Prop := Below B w w' ∧ (o.dst ≠ some sp → Ext w w') ∧ (o.dst = some sp → Gs w w')
/-- j waits for k, by way of others. -/
def depF (l : List Oper) (k : Nat) : Nat → Nat → Bool
  | 0, _ => false
  | f + 1, j => match l[j]? with
    | none => false
    | some oj => oj.after.any fun e => Region.binds .any e && (e.on == k || depF l k f e.on)
def depT (l : List Oper) (n : Nat) (sp : Tmp) : Option Tmp → Bool
  | none => false
  | some d => match dstAt l n d, dstAt l n sp with
    | some j, some k => depF l k l.length j
    | _, _ => false
theorem depF_listed {l : List Oper} {k n : Nat} {listed : Array Bool} (inv : HeadInv .any l.toArray n listed) : ∀ f j, depF l k f j = true → listed.getD j false = true → listed.getD k false = true
  | 0, _, h, _ => by simp [depF] at h
  | f + 1, j, h, hl => by
    simp only [depF] at h
    cases hj : l[j]? with
    | none => simp [hj] at h
    | some oj =>
      simp only [hj] at h
      obtain ⟨e, he, hb⟩ := Array.any_eq_true'.1 h
      simp only [Bool.and_eq_true, Bool.or_eq_true, beq_iff_eq] at hb
      have hle := inv.closed j oj (by simpa using hj) hl e he hb.1
      rcases hb.2 with h2 | h2
      · rw [← h2]; exact hle
      · exact depF_listed inv f _ h2 hle
def MonoG (sp : Tmp) (Gs : World → World → Prop) (l : List Oper) (n : Nat) (E : Nat → Ent) : Prop :=
  (∀ j v w w', Ext w w' → (E j).V v w → (E j).V v w') ∧ (∀ j oj, l[j]? = some oj → oj.dst ≠ some sp → depT l n sp oj.dst = false → ∀ v w w', Gs w w' → (E j).V v w → (E j).V v w') ∧ ∀ w, Gs w w

section
variable {P : Program} {B : Nat} {sp : Tmp} {Gs : World → World → Prop}

/-- What is known while the head is carried out, in whatever order. -/
structure MidZ (B : Nat) (l : List Oper) (n : Nat) (E : Nat → Ent) (a0 : Act) (w0 : World) (listed : Array Bool) (a : Act) (w : World) : Prop where
  inv : HeadInv .any l.toArray n listed
  ext : Below B w0 w
  size : a.tmps.size = a0.tmps.size
  defers : a.defers = a0.defers
  old : ∀ t, (∀ j, dstAt l n t = some j → listed.getD j false = false) → a.tmps.getD t undef = a0.tmps.getD t undef
  new : ∀ j, listed.getD j false = true → ∀ t, dstAt l n t = some j → (E j).V (a.tmps.getD t undef) w

/-- What is owed of each head operation. -/
def OwedZ (B : Nat) (sp : Tmp) (Gs : World → World → Prop) (P : Program) (l : List Oper) (n : Nat) (E : Nat → Ent) (a0 : Act) (w0 : World) : Prop :=
  ∀ k o, k < n → l[k]? = some o → ∀ a w, Below B w0 w → a.tmps.size = a0.tmps.size → a.defers = a0.defers →
    (∀ t ∈ o.looksAt l.toArray, dstAt l n t = none → a.tmps.getD t undef = a0.tmps.getD t undef) →
    (∀ t ∈ o.looksAt l.toArray, ∀ j, dstAt l n t = some j → (E j).V (a.tmps.getD t undef) w) →
    if Region.wanted o (yielded l.toArray a.tmps) then runs P o a w (fun v w' => stepG B sp Gs o w w' ∧ (E k).V v w') else (E k).V undef w

theorem MidZ.step {l : List Oper} {n : Nat} {E : Nat → Ent} {a0 : Act} {w0 : World} {listed : Array Bool} {a : Act} {w w' : World} {k : Nat} {o : Oper} {v : Value}
    (hB : headB l n = true) (hmono : MonoG sp Gs l n E) (hin : ∀ t j, dstAt l n t = some j → t < a0.tmps.size)
    (m : MidZ B l n E a0 w0 listed a w) (hr : k ∈ Region.ready .any l.toArray listed) (hk : k < n) (ho : l[k]? = some o) (hx : stepG B sp Gs o w w') (hv : (E k).V v w') :
    MidZ B l n E a0 w0 (listed.setIfInBounds k true) (a.put o.dst v) w' := by
  obtain ⟨o', ho', hop⟩ := headB_spec hB hk
  have : o' = o := Option.some.inj (ho'.symm.trans ho)
  subst this
  obtain ⟨d, hd, hdk⟩ := hop.dst
  have hds := hin d k hdk
  refine ⟨m.inv.set hr hk, Below.trans m.ext hx.1, (size_put _ _ _).trans m.size, (defers_put _ _ _).trans m.defers, fun t ht => ?_, fun j hj t htj => ?_⟩
  · rw [hd]
    have hne : t ≠ d := by
      intro e
      subst e
      have := ht k hdk
      have hsz : k < listed.size := by
        rw [m.inv.size]
        have := (List.getElem?_eq_some_iff.1 ho).1
        simpa using this
      simp [hsz] at this
    rw [slot_put_ne hne]
    refine m.old t fun j hj => ?_
    have h1 := ht j hj
    by_cases hjk : k = j
    · subst hjk
      have := (dstAt_some hj).2
      have h2 := (dstAt_some hdk).2
      rw [h2] at this
      exact absurd (Option.some.inj this).symm hne
    · rwa [getD_set_ne false hjk] at h1
  · rw [hd]
    by_cases hjk : j = k
    · subst hjk
      have h1 := (dstAt_some htj).2
      have h2 := (dstAt_some hdk).2
      rw [h2] at h1
      obtain rfl := Option.some.inj h1
      rw [slot_put (by rw [m.size]; exact hds)]
      exact hv
    · have hne : t ≠ d := by
        intro e
        subst e
        rw [hdk] at htj
        exact hjk (Option.some.inj htj).symm
      rw [slot_put_ne hne]
      rw [getD_set_ne false (Ne.symm hjk)] at hj
      by_cases hsp : o'.dst = some sp
      · obtain ⟨hjn, hjd⟩ := dstAt_some htj
        obtain ⟨oj, hoj, hojd⟩ : ∃ oj, l[j]? = some oj ∧ oj.dst = some t := by
          cases hl : l[j]? with
          | none => simp [hl] at hjd
          | some oj => simp only [hl, Option.bind_some] at hjd; exact ⟨oj, rfl, hjd⟩
        have hdsp : d = sp := by rw [hd] at hsp; exact Option.some.inj hsp
        cases hdp : depT l n sp (some t) with
        | false => exact hmono.2.1 j oj hoj (by rw [hojd]; intro e; exact hne ((Option.some.inj e).trans hdsp.symm)) (by rw [hojd]; exact hdp) _ _ _ (hx.2.2 hsp) (m.new j hj t htj)
        | true =>
          simp only [depT, htj, ← hdsp, hdk] at hdp
          have h1 := depF_listed m.inv _ _ hdp hj
          rw [getD_both (mem_ready.1 hr).1] at h1
          cases h1
      · exact hmono.1 _ _ _ _ (hx.2.1 hsp) (m.new j hj t htj)

theorem wpAny_midGZ {l : List Oper} {n : Nat} {E : Nat → Ent} {a0 : Act} {w0 : World} {Q : Exit → Act → World → Prop}
    (hB : headB l n = true) (hmono : MonoG sp Gs l n E) (hin : ∀ t j, dstAt l n t = some j → t < a0.tmps.size)
    (hn : n ≤ l.length) (ow : OwedZ B sp Gs P l n E a0 w0) {g : Nat}
    (tail : ∀ listed a w, MidZ B l n E a0 w0 listed a w → (∀ k, k < n → listed.getD k false = true) → wpAny P .any l.toArray Q g listed a w)
    (late : ∀ f listed a w, MidZ B l n E a0 w0 listed a w → unlisted listed n = f + 1 → ∀ k ∈ Region.ready .any l.toArray listed, n ≤ k → wpOp P l.toArray Q k (wpAny P .any l.toArray Q (f + g) (listed.setIfInBounds k true)) a w) :
    ∀ (f : Nat) (listed : Array Bool) (a : Act) (w : World), MidZ B l n E a0 w0 listed a w → unlisted listed n = f → wpAny P .any l.toArray Q (f + g) listed a w := by
  intro f
  induction f with
  | zero =>
    intro listed a w m hu
    rw [Nat.zero_add]
    refine tail listed a w m fun k hk => ?_
    unfold unlisted at hu
    have h1 := List.length_eq_zero_iff.1 hu
    have h2 := List.filter_eq_nil_iff.1 h1 k (List.mem_range.2 hk)
    simpa using h2
  | succ f ih =>
    intro listed a w m hu
    have hpos : 0 < unlisted listed n := by omega
    -- the least one that is not listed is ready
    have hex : ∃ i, i < n ∧ listed.getD i false = false := by
      unfold unlisted at hpos
      obtain ⟨i, hi⟩ := List.exists_mem_of_length_pos hpos
      simp only [List.mem_filter, List.mem_range, Bool.not_eq_true'] at hi
      exact ⟨i, hi⟩
    obtain ⟨i, hi, hun⟩ := hex
    have hlt : ∀ {i}, i < n → i < listed.size := fun h => by rw [m.inv.size]; simpa using Nat.lt_of_lt_of_le h hn
    have hunt : ∀ {i}, i < n → listed.getD i false = false → listed.getD i true = false := fun h h2 => getD_in (hlt h) h2
    have hready : ∃ k, k ∈ Region.ready .any l.toArray listed ∧ k < n := by
      have key : ∀ i, i < n → listed.getD i false = false → ∃ k, k ∈ Region.ready .any l.toArray listed ∧ k < n := by
        intro i
        induction i using Nat.strongRecOn with
        | _ i ihi =>
          intro hi hun
          obtain ⟨o, ho, hop⟩ := headB_spec hB hi
          by_cases hall : ∀ e ∈ o.after, Region.binds .any e = true → listed.getD e.on false = true
          · exact ⟨i, mem_ready.2 ⟨hunt hi hun, o, by simpa using ho, hall⟩, hi⟩
          · have : ∃ e ∈ o.after, Region.binds .any e = true ∧ listed.getD e.on false = false := by
              refine Classical.byContradiction fun hno => hall fun e he hb => ?_
              cases hl : listed.getD e.on false with
              | true => rfl
              | false => exact absurd ⟨e, he, hb, hl⟩ hno
            obtain ⟨e, he, hb, hl⟩ := this
            have hlt2 := hop.edges e he hb
            exact ihi e.on hlt2 (by omega) hl
      exact key i hi hun
    rw [show f + 1 + g = (f + g) + 1 by omega]
    refine ⟨fun h0 => ?_, fun k hk => ?_⟩
    · obtain ⟨k, hk, _⟩ := hready
      rw [h0] at hk
      cases hk
    · rcases Nat.lt_or_ge k n with hkn | hkn
      rotate_left
      · exact late f listed a w m hu k hk hkn
      obtain ⟨o, ho, hop⟩ := headB_spec hB hkn
      obtain ⟨hkun, o', ho', hall⟩ := mem_ready.1 hk
      have : o' = o := Option.some.inj (ho'.symm.trans (by simpa using ho))
      subst this
      have hob := ow k o' hkn ho a w m.ext m.size m.defers
        (fun t ht hnone => m.old t fun j hj => by rw [hnone] at hj; cases hj)
        (fun t ht j hj => by
          obtain ⟨_, e, he, hb, hon⟩ := hop.looks t ht j hj
          exact m.new j (hon ▸ hall e he hb) t hj)
      have hfew : unlisted (listed.setIfInBounds k true) n = f := by
        have hcount : unlisted listed n = unlisted (listed.setIfInBounds k true) n + 1 := by
          unfold unlisted
          have hkl : listed.getD k false = false := getD_both hkun
          have : ((List.range n).filter (fun i => !listed.getD i false)).length = ((List.range n).filter (fun i => !(listed.setIfInBounds k true).getD i false)).length + 1 := by
            have hgen : ∀ (L : List Nat), L.Nodup → k ∈ L → (L.filter (fun i => !listed.getD i false)).length = (L.filter (fun i => !(listed.setIfInBounds k true).getD i false)).length + 1 := by
              intro L
              induction L with
              | nil => intro _ h; cases h
              | cons x L ihL =>
                intro hnd hmem
                have hnd' := List.nodup_cons.1 hnd
                by_cases hxk : x = k
                · subst hxk
                  have hsame : L.filter (fun i => !listed.getD i false) = L.filter (fun i => !(listed.setIfInBounds x true).getD i false) := by
                    refine List.filter_congr fun i hi => ?_
                    have : x ≠ i := fun e => hnd'.1 (e ▸ hi)
                    rw [getD_set_ne false this]
                  have h1 : (listed.setIfInBounds x true).getD x false = true := by simp [hlt hkn]
                  simp only [List.filter_cons, hkl, h1, Bool.not_false, Bool.not_true, if_true, Bool.false_eq_true, if_false, List.length_cons, hsame]
                · have hmem' : k ∈ L := by
                    cases hmem with
                    | head => exact absurd rfl hxk
                    | tail _ h => exact h
                  have := ihL hnd'.2 hmem'
                  have h1 : (listed.setIfInBounds k true).getD x false = listed.getD x false := getD_set_ne false (Ne.symm hxk)
                  simp only [List.filter_cons, h1]
                  split
                  · simp only [List.length_cons]; omega
                  · exact this
            exact hgen _ List.nodup_range (List.mem_range.2 hkn)
          exact this
        omega
      unfold wpOp
      have ho2 : l.toArray[k]? = some o' := by simpa using ho
      simp only [ho2]
      split
      · rename_i hw
        rw [if_pos hw] at hob
        refine .inl ?_
        unfold runs at hob
        unfold Oper.wp
        generalize (execOp a.eval o').run P w = r at *
        cases r with
        | ok nx w' =>
          cases nx <;> simp only [runsUpon] at hob <;> simp only [Oper.upon]
          · exact ih _ _ _ (m.step hB hmono hin hk hkn ho hob.1 hob.2) hfew
          · exact ih _ _ _ (m.step hB hmono hin hk hkn ho hob.1 hob.2) hfew
          · refine hob.mono fun e w'' ⟨v, he, hx, hv⟩ => ?_
            subst he
            exact ih _ _ _ (m.step hB hmono hin hk hkn ho hx hv) hfew
          · exact hob.mono fun v w'' ⟨hx, hv⟩ => ih _ _ _ (m.step hB hmono hin hk hkn ho hx hv) hfew
        | halt x w' => simp only [runsUpon] at hob
      · rename_i hw
        rw [if_neg hw] at hob
        exact ih _ _ _ (m.step hB hmono hin hk hkn ho ⟨Below.refl B w, fun _ => Ext.refl w, fun _ => hmono.2.2 w⟩ hob) hfew

theorem wpAny_midZ {l : List Oper} {n : Nat} {E : Nat → Ent} {a0 : Act} {w0 : World} {Q : Exit → Act → World → Prop}
    (hB : headB l n = true) (hmono : MonoG sp Gs l n E) (hin : ∀ t j, dstAt l n t = some j → t < a0.tmps.size)
    (hn : n ≤ l.length) (hsc : n < l.length → Region.sinkB .any l.toArray n = true ∧ Region.chainB .any l.toArray n = true)
    (ow : OwedZ B sp Gs P l n E a0 w0) {g : Nat}
    (tail : ∀ listed a w, MidZ B l n E a0 w0 listed a w → (∀ k, k < n → listed.getD k false = true) → wpAny P .any l.toArray Q g listed a w) :
    ∀ (f : Nat) (listed : Array Bool) (a : Act) (w : World), MidZ B l n E a0 w0 listed a w → unlisted listed n = f → wpAny P .any l.toArray Q (f + g) listed a w :=
  wpAny_midGZ hB hmono hin hn ow tail fun f listed a w m hu k hk h => by
    obtain ⟨i, hi, hun⟩ := exists_unlisted (listed := listed) (n := n) (by omega)
    have hkl : k < l.length := by
      obtain ⟨_, o, ho, _⟩ := mem_ready.1 hk
      simpa using (Array.getElem?_eq_some_iff.1 ho).1
    obtain ⟨hs, hc⟩ := hsc (by omega)
    exact absurd hk (tail_waits hs hc (by simp; omega) m.inv _ i rfl hi (getD_in (by rw [m.inv.size]; simp; omega) hun) k h)

/-! ### The script: one entry a head operation, the frame written out as the text goes on. -/

def wpEZ (B : Nat) (sp : Tmp) (Gs : World → World → Prop) (n : Nat) (P : Program) (ops : Array Oper) (w0 : World) (T : Act → List (Tmp × (World → Prop)) → Prop) : List Oper → List Ent → Act → List (Tmp × (World → Prop)) → Prop
  | o :: l, .det v :: es, a, F =>
    (if Region.wanted o (yielded ops a.tmps) then ∀ w, Below B w0 w → factsOf ops o F w → runs P o a w (fun u w' => stepG B sp Gs o w w' ∧ u = v) else v = undef) ∧ wpEZ B sp Gs n P ops w0 T l es (a.put o.dst v) F
  | o :: l, .any V :: es, a, F =>
    Region.wanted o (yielded ops a.tmps) = true ∧ ((∀ u w w', Ext w w' → V u w → V u w') ∧ (o.dst = some sp ∨ depT ops.toList n sp o.dst = true ∨ ∀ u w w', Gs w w' → V u w → V u w')) ∧ (∀ w, Below B w0 w → factsOf ops o F w → runs P o a w (fun u w' => stepG B sp Gs o w w' ∧ V u w')) ∧
      ∀ u, wpEZ B sp Gs n P ops w0 T l es (a.put o.dst u) ((o.dst.getD 0, V u) :: F)
  | _, [], a, F => T a F
  | [], _ :: _, _, _ => False

theorem framesZ {l : List Oper} {n : Nat} {es : List Ent} {a0 : Act} {w0 : World} {T : Act → List (Tmp × (World → Prop)) → Prop}
    (hB : headB l n = true) (hn : n ≤ l.length) (hes : es.length = n) (hin : ∀ t j, dstAt l n t = some j → t < a0.tmps.size) (h : wpEZ B sp Gs n P l.toArray w0 T l es a0 []) (s : Tmp → Value) :
    ∀ k, k ≤ n → ∃ a F, wpEZ B sp Gs n P l.toArray w0 T (l.drop k) (es.drop k) a F ∧ FrameAt l n es s a0 k a F := by
  intro k
  induction k with
  | zero =>
    intro _
    exact ⟨a0, [], h, rfl, rfl, fun _ _ => rfl, fun _ _ _ _ hj => absurd hj (Nat.not_lt_zero _), fun _ _ _ _ hj => absurd hj (Nat.not_lt_zero _), fun p hp => by cases hp⟩
  | succ k ih =>
    intro hk
    obtain ⟨a, F, hw, hf⟩ := ih (by omega)
    have hkl : k < l.length := by omega
    have hke : k < es.length := by omega
    have e1 : l.drop k = l[k] :: l.drop (k + 1) := List.drop_eq_getElem_cons hkl
    have e2 : es.drop k = es[k] :: es.drop (k + 1) := List.drop_eq_getElem_cons hke
    rw [e1, e2] at hw
    have ho : l[k]? = some l[k] := List.getElem?_eq_getElem hkl
    have hee : es[k]? = some es[k] := List.getElem?_eq_getElem hke
    generalize l[k] = o at hw ho
    generalize es[k] = e at hw hee
    cases e with
    | det v =>
      simp only [wpEZ] at hw
      exact ⟨_, _, hw.2, frame_step hB hin (by omega) ho hf ⟨fun u hu => (by rw [hee] at hu; cases hu; rfl), fun V d hV => (by rw [hee] at hV; cases hV)⟩ F (fun p hp => .inl hp)⟩
    | any V =>
      simp only [wpEZ] at hw
      obtain ⟨d, hd, hdk⟩ := dstAt_inj hB (show k < n by omega) ho
      refine ⟨_, _, hw.2.2.2 (s d), frame_step hB hin (by omega) ho hf ⟨fun u hu => (by rw [hee] at hu; cases hu), fun V' d' _ hd' => (by rw [hd] at hd'; cases hd'; rfl)⟩ _ (fun p hp => ?_)⟩
      cases hp with
      | head => exact .inr ⟨V, hee, by simp [hd], by simp [hd]⟩
      | tail _ hp => exact .inl hp

theorem owed_of_wpEZ {l : List Oper} {n : Nat} {es : List Ent} {a0 : Act} {w0 : World} {T : Act → List (Tmp × (World → Prop)) → Prop}
    (hsel : Region.noSelect l.toArray = true) (hB : headB l n = true) (hn : n ≤ l.length) (hes : es.length = n) (hin : ∀ t j, dstAt l n t = some j → t < a0.tmps.size)
    (h : wpEZ B sp Gs n P l.toArray w0 T l es a0 []) : OwedZ B sp Gs P l n (entAt es) a0 w0 := by
  intro k o hk ho a w hx hsz hdf hold hnew
  obtain ⟨a', F, hw, hf⟩ := framesZ hB hn hes hin h (fun t => a.tmps.getD t undef) k (by omega)
  obtain ⟨o', ho', hop⟩ := headB_spec hB hk
  have : o' = o := Option.some.inj (ho'.symm.trans ho)
  subst this
  -- the slots that it looks at hold the same in both framesZ
  have same : ∀ t ∈ o'.looksAt l.toArray, a'.tmps.getD t undef = a.tmps.getD t undef := by
    intro t ht
    cases hd : dstAt l n t with
    | none => rw [hold t ht hd]; exact hf.old t fun j hj => by rw [hd] at hj; cases hj
    | some j =>
      obtain ⟨hjk, _⟩ := hop.looks t ht j hd
      have hV := hnew t ht j hd
      have hje : j < es.length := by omega
      have hej : es[j]? = some es[j] := List.getElem?_eq_getElem hje
      have hent : entAt es j = es[j] := by simp [entAt, hje]
      cases he : es[j] with
      | det v =>
        rw [he] at hej
        rw [hent, he] at hV
        rw [hf.det t j v hd hjk hej]
        exact hV.symm
      | any V =>
        rw [he] at hej
        exact hf.any t j V hd hjk hej
  have hexec : execOp a'.eval o' = execOp a.eval o' := execOp_congr o' (fun cs b => Region.noSelect_spec hsel k o' cs b (by simpa using ho)) fun x hxm => by
    cases x with
    | tmp t => exact same t (List.mem_append_left _ (List.mem_filterMap.2 ⟨.tmp t, by simpa using hxm, rfl⟩))
    | _ => rfl
  have hwant : Region.wanted o' (yielded l.toArray a'.tmps) = Region.wanted o' (yielded l.toArray a.tmps) := by
    unfold Region.wanted
    cases hg : o'.guard with
    | none => rfl
    | some gw =>
      obtain ⟨g, want⟩ := gw
      have := yielded_congr (ops := l.toArray) (a := a') (a' := a) (g := g) fun t ht => same t (List.mem_append_right _ (by simp only [hg, ht]; simp))
      simp only [this]
  have hfacts : factsOf l.toArray o' F w := by
    intro p hp hl
    obtain ⟨j, V, hj, hd, he, hp2⟩ := hf.facts p hp
    have hV := hnew p.1 hl j hd
    have hent : entAt es j = .any V := by simp [entAt, List.getD_eq_getElem?_getD, he]
    rw [hent] at hV
    rw [hp2]
    exact hV
  have hkl : k < l.length := by omega
  have hke : k < es.length := by omega
  rw [List.drop_eq_getElem_cons hkl, List.drop_eq_getElem_cons hke] at hw
  have hlo : l[k] = o' := by rw [List.getElem?_eq_getElem hkl] at ho; exact Option.some.inj ho
  have hent : entAt es k = es[k] := by simp [entAt, hke]
  rw [hlo] at hw
  rw [hent]
  cases he : es[k] with
  | det v =>
    rw [he] at hw
    simp only [wpEZ] at hw
    rw [hwant] at hw
    have h1 := hw.1
    split
    · rename_i hwt; rw [if_pos hwt] at h1; exact runs_congr hexec (h1 w hx hfacts)
    · rename_i hwt; rw [if_neg hwt] at h1; exact h1.symm
  | any V =>
    rw [he] at hw
    simp only [wpEZ] at hw
    rw [hwant] at hw
    rw [if_pos hw.1]
    exact runs_congr hexec (hw.2.2.1 w hx hfacts)

theorem mono_of_wpEZ {l : List Oper} {n : Nat} {es : List Ent} {a0 : Act} {w0 : World} {T : Act → List (Tmp × (World → Prop)) → Prop} (hGr : ∀ w, Gs w w)
    (hB : headB l n = true) (hn : n ≤ l.length) (hes : es.length = n) (hin : ∀ t j, dstAt l n t = some j → t < a0.tmps.size) (h : wpEZ B sp Gs n P l.toArray w0 T l es a0 []) :
    MonoG sp Gs l n (entAt es) := by
  refine ⟨fun j v w w' hx hv => ?_, fun j oj hoj h1 h2 v w w' hx hv => ?_, hGr⟩
  · by_cases hj : j < n
    · obtain ⟨a', F, hw, _⟩ := framesZ hB hn hes hin h (fun _ => undef) j (by omega)
      have hjl : j < l.length := by omega
      have hje : j < es.length := by omega
      rw [List.drop_eq_getElem_cons hjl, List.drop_eq_getElem_cons hje] at hw
      have hent : entAt es j = es[j] := by simp [entAt, hje]
      rw [hent] at hv ⊢
      cases he : es[j] with
      | det u => rw [he] at hv; exact hv
      | any V =>
        rw [he] at hw hv
        simp only [wpEZ] at hw
        exact hw.2.1.1 v w w' hx hv
    · have hent : entAt es j = .any fun _ _ => True := by simp [entAt, List.getD_eq_getElem?_getD, show es.length ≤ j by omega]
      rw [hent]; trivial
  · by_cases hj : j < n
    · obtain ⟨a', F, hw, _⟩ := framesZ hB hn hes hin h (fun _ => undef) j (by omega)
      have hjl : j < l.length := by omega
      have hje : j < es.length := by omega
      rw [List.drop_eq_getElem_cons hjl, List.drop_eq_getElem_cons hje] at hw
      have hlj : l[j] = oj := by rw [List.getElem?_eq_getElem hjl] at hoj; exact Option.some.inj hoj
      have hent : entAt es j = es[j] := by simp [entAt, hje]
      rw [hent] at hv ⊢
      cases he : es[j] with
      | det u => rw [he] at hv; exact hv
      | any V =>
        rw [he] at hw hv
        rw [hlj] at hw
        simp only [wpEZ] at hw
        rcases hw.2.1.2 with h3 | h3 | h3
        · exact absurd h3 h1
        · have h4 : depT l n sp oj.dst = true := h3
          rw [h2] at h4; cases h4
        · exact h3 v w w' hx hv
    · have hent : entAt es j = .any fun _ _ => True := by simp [entAt, List.getD_eq_getElem?_getD, show es.length ≤ j by omega]
      rw [hent]; trivial

theorem any_midZ (hGr : ∀ w, Gs w w) {Q : Exit → Act → World → Prop} {a : Act} {w : World} {l : List Oper} (n : Nat) (es : List Ent) (hes : es.length = n)
    (hB : midB l n a.tmps.size = true)
    (h : wpEZ B sp Gs n P l.toArray w (fun a' F => ∀ w', Below B w w' → (∀ p ∈ F, p.2 w') → wpList P l.toArray Q (l.drop n) a' w') l es a []) :
    wpAny P .any l.toArray Q l.toArray.size (Array.replicate l.toArray.size false) a { w with drawn := w.drawn + 1 } := by
  simp only [midB, Bool.and_eq_true, Bool.or_eq_true, decide_eq_true_eq] at hB
  obtain ⟨⟨⟨⟨⟨hsel, hhead⟩, hn⟩, hsc⟩, hseq⟩, hslots⟩ := hB
  have hin : ∀ t j, dstAt l n t = some j → t < a.tmps.size := by
    intro t j hj
    obtain ⟨h1, h2⟩ := dstAt_some hj
    have := List.all_eq_true.1 hslots j (List.mem_range.2 h1)
    simpa [h2] using this
  have hmono := mono_of_wpEZ hGr hhead hn hes hin h
  have how := owed_of_wpEZ hsel hhead hn hes hin h
  have hg : n + (l.length - n) = l.toArray.size := by simp; omega
  have hstart : MidZ B l n (entAt es) a w (Array.replicate l.toArray.size false) a { w with drawn := w.drawn + 1 } := by
    refine ⟨⟨by simp, fun j oj _ hl => (by rw [getD_replicate_false] at hl; cases hl), fun t _ ht => getD_in (by simpa using ht) (getD_replicate_false _ _)⟩, (Below.refl B w).drew, rfl, rfl, fun _ _ => rfl, fun j hj => (by rw [getD_replicate_false] at hj; cases hj)⟩
  have hcount : unlisted (Array.replicate l.toArray.size false) n = n := by
    unfold unlisted
    rw [List.filter_eq_self.2 (fun i _ => by rw [getD_replicate_false]; rfl)]
    simp
  have hgoal : wpAny P .any l.toArray Q (n + (l.length - n)) (Array.replicate l.toArray.size false) a { w with drawn := w.drawn + 1 } := ?_
  · rw [hg] at hgoal; exact hgoal
  refine wpAny_midZ hhead hmono hin hn (fun hlt => ?_) how (fun listed a' w' m hall => ?_) n _ a _ hstart hcount
  · rcases hsc with h1 | h1
    · omega
    · exact h1
  · -- the tail
    have hlisted : listed = ((List.range l.length).map (fun i => decide (i < n))).toArray := by
      apply Array.ext_getElem?
      intro i
      by_cases hi : i < l.length
      · have hsz : i < listed.size := by rw [m.inv.size]; simpa using hi
        rw [Array.getElem?_eq_getElem hsz]
        simp only [List.getElem?_toArray, List.getElem?_map, List.getElem?_range hi, Option.map_some]
        by_cases hin' : i < n
        · have := hall i hin'
          simp only [Array.getD_eq_getD_getElem?, Array.getElem?_eq_getElem hsz, Option.getD_some] at this
          simp [this, hin']
        · have := m.inv.tail i (by omega) (by simpa using hi)
          simp only [Array.getD_eq_getD_getElem?, Array.getElem?_eq_getElem hsz, Option.getD_some] at this
          simp [this, hin']
      · have hge : l.length ≤ i := by omega
        rw [Array.getElem?_eq_none (by rw [m.inv.size]; simpa using hge), Array.getElem?_eq_none (by simpa using hge)]
    obtain ⟨an, F, hT, hf⟩ := framesZ hhead hn hes hin h (fun t => a'.tmps.getD t undef) n (Nat.le_refl _)
    have hdrop : es.drop n = [] := by rw [← hes]; simp
    rw [hdrop] at hT
    have hT' : ∀ w', Below B w w' → (∀ p ∈ F, p.2 w') → wpList P l.toArray Q (l.drop n) an w' := by
      cases hl : l.drop n with
      | nil => rw [hl] at hT; simpa only [wpEZ, hl] using hT
      | cons o rest => rw [hl] at hT; simpa only [wpEZ, hl] using hT
    have han : an = a' := by
      have hsz : an.tmps.size = a'.tmps.size := hf.size.trans m.size.symm
      have hslot : ∀ t, an.tmps.getD t undef = a'.tmps.getD t undef := by
        intro t
        cases hd : dstAt l n t with
        | none =>
          rw [hf.old t (fun j hj => by rw [hd] at hj; cases hj), m.old t (fun j hj => by rw [hd] at hj; cases hj)]
        | some j =>
          have hjn := (dstAt_some hd).1
          have hV := m.new j (hall j hjn) t hd
          have hje : j < es.length := by omega
          have hej : es[j]? = some es[j] := List.getElem?_eq_getElem hje
          have hent : entAt es j = es[j] := by simp [entAt, hje]
          cases he : es[j] with
          | det v =>
            rw [he] at hej
            rw [hent, he] at hV
            rw [hf.det t j v hd hjn hej]
            exact hV.symm
          | any V =>
            rw [he] at hej
            exact hf.any t j V hd hjn hej
      have htm : an.tmps = a'.tmps := by
        apply Array.ext hsz
        intro i h1 h2
        have := hslot i
        simpa [h1, h2] using this
      have hdef : an.defers = a'.defers := hf.defers.trans m.defers.symm
      cases an; cases a'; simp only at htm hdef; subst htm hdef; rfl
    have hfin := hT' w' m.ext (fun p hp => by
      obtain ⟨j, V, hj, hd, he, hp2⟩ := hf.facts p hp
      have hV := m.new j (hall j hj) p.1 hd
      have hent : entAt es j = .any V := by simp [entAt, List.getD_eq_getElem?_getD, he]
      rw [hent] at hV
      rw [hp2]
      exact hV)
    rw [han] at hfin
    have := wpAny_of_seq (md := .any) (Q' := Q) (l.drop n) n listed a' w' (fun j => by simp [List.getElem?_drop]) (by rw [hlisted]; simpa using hseq) hfin
    simpa using this

theorem wp_region_midS (hGr : ∀ w, Gs w w) {id : Nat} {Q : Exit → Act → World → Prop} {a : Act} {w : World} {l : List Oper} (n : Nat) (es : List Ent) (hm : P.follows .mixedOrders = true) (hes : es.length = n)
    (hB : midB l n a.tmps.size = true)
    (h : wpEZ B sp Gs n P l.toArray w (fun a' F => ∀ w', Below B w w' → (∀ p ∈ F, p.2 w') → wpList P l.toArray Q (l.drop n) a' w') l es a []) : (Code.region id l.toArray true).wp P Q a w :=
  wp_region_any hm (any_midZ hGr n es hes hB h)

/-! ### Steps of the script. -/
section
variable {ops : Array Oper} {w0 : World} {n : Nat} {T : Act → List (Tmp × (World → Prop)) → Prop} {o : Oper} {l : List Oper} {es : List Ent} {a : Act} {F : List (Tmp × (World → Prop))}

theorem wpE_nilZ (h : T a F) : wpEZ B sp Gs n P ops w0 T l [] a F := by cases l <;> exact h
theorem wpE_moveZ (hw : Region.wanted o (yielded ops a.tmps) = true) {x : Operand} (ho : o.op = .move x) {v : Value} (hx : a.eval x = v) (hns : o.dst ≠ some sp)
    (h : wpEZ B sp Gs n P ops w0 T l es (a.put o.dst v) F) : wpEZ B sp Gs n P ops w0 T (o :: l) (.det v :: es) a F := by
  refine ⟨?_, h⟩
  rw [if_pos hw]
  exact fun w _ _ => by subst hx; unfold runs execOp; rw [ho]; exact ⟨⟨Below.refl B w, fun _ => Ext.refl w, fun e => absurd e hns⟩, rfl⟩
theorem wpE_runZ {v : Value} (hw : Region.wanted o (yielded ops a.tmps) = true) {d : Tmp} (hd : o.dst = some d) (hs : d < a.tmps.size) (hns : d ≠ sp) (hB : B ≤ w0.heap.size)
    (h1 : ∀ w, Below B w0 w → factsOf ops o F w → ∀ K : Act → World → Prop, (∀ w', Ext w w' → K (a.put o.dst v) w') → o.wp P a w K (fun _ _ _ => False))
    (h : wpEZ B sp Gs n P ops w0 T l es (a.put o.dst v) F) : wpEZ B sp Gs n P ops w0 T (o :: l) (.det v :: es) a F := by
  refine ⟨?_, h⟩
  rw [if_pos hw]
  exact fun w hx hf => runs_of_wp hd hs fun K hK => h1 w hx hf K fun w' hw' => hK v w' ⟨⟨Below.mono hw' (Nat.le_trans hB hx.size), fun _ => hw', fun e => absurd (Option.some.inj (hd.symm.trans e)) hns⟩, rfl⟩
theorem wpE_anyZ {V : Value → World → Prop} (hw : Region.wanted o (yielded ops a.tmps) = true) (hmono : ∀ u w w', Ext w w' → V u w → V u w') (hm2 : depT ops.toList n sp o.dst = true ∨ ∀ u w w', Gs w w' → V u w → V u w')
    {d : Tmp} (hd : o.dst = some d) (hs : d < a.tmps.size) (hns : d ≠ sp) (hB : B ≤ w0.heap.size)
    (h1 : ∀ w, Below B w0 w → factsOf ops o F w → ∀ K : Act → World → Prop, (∀ u w', Ext w w' → V u w' → K (a.put o.dst u) w') → o.wp P a w K (fun _ _ _ => False))
    (h : ∀ u, wpEZ B sp Gs n P ops w0 T l es (a.put o.dst u) ((d, V u) :: F)) : wpEZ B sp Gs n P ops w0 T (o :: l) (.any V :: es) a F := by
  refine ⟨hw, ⟨hmono, .inr hm2⟩, fun w hx hf => runs_of_wp hd hs fun K hK => h1 w hx hf K fun u w' hx' hv => hK u w' ⟨⟨Below.mono hx' (Nat.le_trans hB hx.size), fun _ => hx', fun e => absurd (Option.some.inj (hd.symm.trans e)) hns⟩, hv⟩, fun u => ?_⟩
  have := h u
  simpa [hd] using this
/-- The operation that writes. -/
theorem wpE_writeZ {V : Value → World → Prop} (hw : Region.wanted o (yielded ops a.tmps) = true) (hmono : ∀ u w w', Ext w w' → V u w → V u w') (hd : o.dst = some sp) (hs : sp < a.tmps.size)
    (h1 : ∀ w, Below B w0 w → factsOf ops o F w → ∀ K : Act → World → Prop, (∀ u w', Below B w w' → Gs w w' → V u w' → K (a.put o.dst u) w') → o.wp P a w K (fun _ _ _ => False))
    (h : ∀ u, wpEZ B sp Gs n P ops w0 T l es (a.put o.dst u) ((sp, V u) :: F)) : wpEZ B sp Gs n P ops w0 T (o :: l) (.any V :: es) a F := by
  refine ⟨hw, ⟨hmono, .inl hd⟩, fun w hx hf => runs_of_wp hd hs fun K hK => h1 w hx hf K fun u w' hx' hg hv => hK u w' ⟨⟨hx', fun e => absurd hd e, fun _ => hg⟩, hv⟩, fun u => ?_⟩
  have := h u
  simpa [hd] using this
end

end
end Go.Proofs.Ytnigpobbckampaa
