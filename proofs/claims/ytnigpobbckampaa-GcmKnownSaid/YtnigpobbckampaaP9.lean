/- A copy whose block is of bytes; ciphers lie on when it is written. -/
import Derived.Test.YtnigpobbckampaaL
import Derived.Test.YtnigpobbckampaaG4
namespace Go.Proofs.Ytnigpobbckampaa
open Go.RowKit
set_option linter.unusedSimpArgs false
set_option linter.unusedVariables false

/-- v is the call's own slice of n bytes f, in a block of bytes. -/
def OwnT (w : World) (base : Nat) (v : Value) (n : Nat) (f : Nat → Nat) : Prop :=
  (v = .slice none 0 0 ∧ n = 0) ∨ ∃ g cap cur, v = .slice (some ⟨g, 0, none⟩) n cap ∧ base ≤ g ∧ Blk w g 5 cur ∧ n ≤ cap ∧ cap ≤ cur.size ∧ ∀ i, i < n → f i < 256 ∧ cur[i]? = some (.int .u8 ((f i : Nat) : Int))
theorem OwnT.own {w : World} {b : Nat} {v : Value} {n : Nat} {f : Nat → Nat} (h : OwnT w b v n f) : OwnF w b v n f := by
  rcases h with h | ⟨g, cap, cur, hv, hb, hB, hc, hs, hf⟩
  · exact .inl h
  · exact .inr ⟨g, 0, cap, 5, cur, hv, hb, hB, hc, by omega, fun i hi => by rw [Nat.zero_add]; exact hf i hi⟩
theorem OwnT.ext {w w' : World} {b : Nat} {v : Value} {n : Nat} {f : Nat → Nat} (h : OwnT w b v n f) (hx : Ext w w') : OwnT w' b v n f := by
  rcases h with h | ⟨g, cap, cur, hv, hb, hB, rest⟩
  · exact .inl h
  · exact .inr ⟨g, cap, cur, hv, hb, hB.ext hx, rest⟩
theorem OwnT.form {w : World} {b : Nat} {v : Value} {n : Nat} {f : Nat → Nat} (h : OwnT w b v n f) (hn : 0 < n) :
    ∃ g cap cur, v = .slice (some ⟨g, 0, none⟩) n cap ∧ b ≤ g ∧ Blk w g 5 cur ∧ n ≤ cap ∧ cap ≤ cur.size ∧ ∀ i, i < n → f i < 256 ∧ cur[i]? = some (.int .u8 ((f i : Nat) : Int)) := by
  rcases h with ⟨rfl, rfl⟩ | h
  · omega
  · exact h
theorem OwnT.len {w : World} {b : Nat} {v : Value} {n : Nat} {f : Nat → Nat} (h : OwnT w b v n f) : ∃ ao cap, v = .slice ao n cap ∧ n ≤ cap := by
  rcases h with ⟨rfl, rfl⟩ | ⟨g, cap, cur, rfl, _, _, hc, _⟩
  · exact ⟨none, 0, rfl, Nat.le_refl _⟩
  · exact ⟨_, _, rfl, hc⟩
/-- A byte of it written. -/
theorem OwnT.stored {w : World} {b g cap : Nat} {n : Nat} {f : Nat → Nat} (h : OwnT w b (.slice (some ⟨g, 0, none⟩) n cap) n f) (j u : Nat) (hu : u < 256) (hj : j < n) :
    OwnT (w.setCell ⟨g, j, none⟩ (.int .u8 ((u : Nat) : Int))) b (.slice (some ⟨g, 0, none⟩) n cap) n (upd f j u) := by
  rcases h with ⟨h, _⟩ | ⟨g', cap', cur, hv, hb, hB, hc, hs, hf⟩
  · cases h
  · cases hv
    refine .inr ⟨g, cap, _, rfl, hb, hB.set j _, hc, by simpa using hs, fun i hi => ?_⟩
    rw [Array.getElem?_setIfInBounds]
    by_cases e : j = i
    · subst e
      rw [if_pos rfl, if_pos (by omega), upd_same]
      exact ⟨hu, rfl⟩
    · rw [if_neg e, upd_other _ _ _ _ (Ne.symm e)]
      exact hf i hi
theorem own_of_rowT {w : World} {base : Nat} {v : Value} {n : Nat} {f : Nat → Nat} (hf : ∀ i, i < n → f i < 256) (h : w.ownsRow base 5 1 v n (bs n f)) : OwnT w base v n f := by
  rcases h.2 with ⟨rfl, rfl⟩ | ⟨g, cap, cur, rfl, hb, hg, hc, _, hs, ht⟩
  · exact .inl ⟨rfl, rfl⟩
  · refine .inr ⟨g, cap, cur, rfl, hb, hg, hc, by omega, fun i hi => ⟨hf i hi, ?_⟩⟩
    have h1 := bs_get n f i hi
    rw [← ht, List.getElem?_take, if_pos (by omega)] at h1
    simpa using h1

/-- append(nil, x...). -/
theorem run_copyT (w : World) (ty : TypeId) (x : Value) (m : Nat) (s : Nat → Nat) (hx : RdF w x m s) (hnm : m ≤ 140737488355328) :
    ∃ v' w', (Builtin.append_ #[22, 22] ty #[.slice none 0 0, x]).run Try.prog w = .ok v' w' ∧ OwnT w' w.heap.size v' m s ∧ Ext w w' := by
  obtain ⟨i0, hi, hz0, hz1, hz2⟩ := info_parts info5
  by_cases hm : m = 0
  · subst hm
    obtain ⟨ao, cap, rfl, _⟩ := hx.len
    have hfc : ∀ ao, (Builtin.firstCells 1 0 (.slice ao 0 cap)).run Try.prog w = .ok #[] w := by
      intro ao
      cases ao with
      | none => exact run_firstCells_none w 1 0 0 cap
      | some a => exact run_firstCells_some (P := Try.prog) w 1 0 a 0 cap [] rfl (fun j v hv => by simp at hv)
    refine ⟨.slice none 0 0, w, ?_, .inl ⟨rfl, rfl⟩, Below.refl _ _⟩
    simp [Builtin.append_, run_underlying Try.underlying22, sizeOf, typeInfo, hi, hz1, Builtin.lenOf, hfc]
  · obtain ⟨gs, os, cs, rfl, hcs, hcell⟩ := hx.form (by omega)
    have hnews : ∀ j u, (bs m s)[j]? = some u → w.cell? ((⟨gs, os, none⟩ : Addr).add j) = some u := by
      intro j u hj
      obtain ⟨hjm, rfl⟩ := bs_inv hj
      rw [Addr.add_lit]
      exact (hcell j hjm).2
    obtain ⟨v', w', hr, hown, hgr, _⟩ := run_append_own (P := Try.prog) w w.heap.size 22 ty 5 i0 (.int .u8 0) 1 1 Try.underlying22 hi hz0 hz1 hz2 rfl (by decide) (.slice none 0 0) 0 [] (World.ownsRow_nil _ _ _ _) ⟨gs, os, none⟩ m cs (bs m s) (by simp [bs_length]) hnews (bs_one _ _)
      (by unfold maxLen; omega) (by omega) (Nat.le_refl _)
    refine ⟨v', w', hr, ?_, Below.grownF hgr (Nat.le_refl _) (fun k hk => by cases hk)⟩
    have e : ([] : List Value) ++ bs m s = bs (0 + m) s := bs_append 0 m s s s (fun _ _ => rfl) (fun j _ => by rw [Nat.zero_add])
    rw [e, Nat.zero_add] at hown
    exact own_of_rowT hx.lt hown

theorem wl_copyT {ops : Array Oper} {rest : List Oper} {o : Oper} {a : Act} {w : World} {Q : Exit → Act → World → Prop} (hgd : o.guard = none) (s x : Operand) (hop : o.op = .call { callee := .builtin .append, args := #[s, x], argTypes := #[22, 22] }) (X : Value) (m : Nat) (f : Nat → Nat)
    (hs : a.eval s = .slice none 0 0) (hx : a.eval x = X) (hX : RdF w X m f) (hnm : m ≤ 140737488355328)
    (hK : ∀ v' w', OwnT w' w.heap.size v' m f → Ext w w' → wpList Try.prog ops Q rest (a.put o.dst v') w') : wpList Try.prog ops Q (o :: rest) a w :=
  wpList_plain hgd fun _ hK' => by
    obtain ⟨v', w', hr, ho', hb'⟩ := run_copyT w o.type X m f hX hnm
    have := hK' _ _ (hK v' w' ho' hb')
    unfold Oper.wp
    simp [execOp, hop, resolve, invoke, builtin, hs, hx, hr, Result.andThen, Oper.upon]
    exact this

set_option maxHeartbeats 400000 in
theorem copyT_any (v : Value) (n : Nat) (f : Nat → Nat) (w : World) (hn : n ≤ 1000000) (hv : RdF w v n f) :
    Calls Try.prog 18 #[v] w fun e w' => ∃ v', e = .returned v' ∧ OwnT w' w.heap.size v' n f ∧ Ext w w' := by
  have HV := Lib.hid hv
  have HN := Lib.hid hn
  clear hv hn
  go_enter Try.func18, Try.ntmps18
  go_wp2_with (refine wl_copyT rfl (.tmp 4) (.tmp 5) rfl v n f rfl rfl HV.out (by have := HN.out; omega) ?_; intro v' w' hv' hb')
  go_ret
  exact ⟨v', rfl, hv', hb'⟩

theorem Blk.type {w : World} {g : Nat} {t t' : TypeId} {cs cs' : Array Value} (h : Blk w g t cs) (h' : Blk w g t' cs') : t = t' := by
  have e := h.symm.trans h'
  have e2 := Option.some.inj e
  injection e2
theorem Cph.keep {w w' : World} {b n g : Nat} {ks : Nat → Nat → Nat} {cur : Array Value} (h : Cph w b n ks) (hg : Blk w g 5 cur) (hk : ∀ j, j ≠ g → j < w.heap.size → w'.heap[j]? = w.heap[j]?) : Cph w' b n ks := by
  obtain ⟨kb, cap, cs, h1, h2, h3⟩ := h
  have n1 : b ≠ g := fun e => by subst e; exact absurd (h1.type hg) (by decide)
  have n2 : kb ≠ g := fun e => by subst e; exact absurd (h2.type hg) (by decide)
  exact ⟨kb, cap, cs, (hk b n1 h1.lt).trans h1, (hk kb n2 h2.lt).trans h2, h3⟩
theorem CphR.keep {w w' : World} {b n g : Nat} {ks : Nat → Nat → Nat} {cur : Array Value} (h : CphR w b n ks) (hg : Blk w g 5 cur) (hk : ∀ j, j ≠ g → j < w.heap.size → w'.heap[j]? = w.heap[j]?) : CphR w' b n ks := by
  obtain ⟨kb, cap, cs, h1, h2, h3⟩ := h
  have n1 : b ≠ g := fun e => by subst e; exact absurd (h1.type hg) (by decide)
  have n2 : kb ≠ g := fun e => by subst e; exact absurd (h2.type hg) (by decide)
  exact ⟨kb, cap, cs, (hk b n1 h1.lt).trans h1, (hk kb n2 h2.lt).trans h2, h3⟩

set_option maxRecDepth 100000 in
set_option maxHeartbeats 1000000 in
theorem refnew_bad (v : Value) (n : Nat) (f : Nat → Nat) (w : World) (h16 : n ≠ 16) (h32 : n ≠ 32) (hn : n ≤ 1000000) (hv : RdF w v n f) :
    Calls Try.prog 20 #[v] w fun e w' => e = .returned (.tuple #[.pointer none, .int .i64 2]) ∧ w = w' := by
  obtain ⟨ao, cap, rfl, hcap⟩ := hv.len
  clear hv
  have h1 : (((n : Nat) : Int) != 16) = true := by simp; omega
  have h2 : (((n : Nat) : Int) != 32) = true := by simp; omega
  go_enter Try.func20, Try.ntmps20
  go_wp2_with fail
  refine bodyPost_ret (v := .tuple #[.pointer none, .int .i64 2]) (by kernel_rfl) rfl ?_
  exact ⟨rfl, rfl⟩
end Go.Proofs.Ytnigpobbckampaa
