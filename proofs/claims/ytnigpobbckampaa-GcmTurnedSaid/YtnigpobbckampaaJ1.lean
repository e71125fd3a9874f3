/- What turned bits do to a tag: plain laws. -/
import Derived.Test.YtnigpobbckampaaJ0
import Derived.Test.YtnigpobbckampaaY9
import Derived.Test.YtnigpobbckampaaN
namespace Go.Proofs.Ytnigpobbckampaa
open Go.RowKit
set_option linter.unusedSimpArgs false
set_option linter.unusedVariables false

theorem xor_right_inj {A B C : Nat} (h : A ^^^ C = B ^^^ C) : A = B := by
  have := congrArg (· ^^^ C) h
  simpa [Nat.xor_assoc] using this
theorem tms_inj {A B H : Nat} (hA : A < 2 ^ 128) (hB : B < 2 ^ 128) (hH : H < 2 ^ 128) (hne : H ≠ 0) (h : tms A H = tms B H) : A = B := by
  have h1 : tms (A ^^^ B) H = 0 := by rw [tms_left, h, Nat.xor_self]
  have h2 := tms_eq_zero (Nat.xor_lt_two_pow hA hB) hH h1 hne
  exact xor_right_inj (C := B) (by rw [h2, Nat.xor_self])
theorem xor_left_inj {A B C : Nat} (h : C ^^^ A = C ^^^ B) : A = B := xor_right_inj (C := C) (by rw [Nat.xor_comm A, Nat.xor_comm B]; exact h)
/-- One block turned turns the sum. -/
theorem sm_turn (H : Nat) (hH : H < 2 ^ 128) (hne : H ≠ 0) {e e' : Nat → Nat → Nat} (he : ∀ k j, e k j < 256) (he' : ∀ k j, e' k j < 256) (q : Nat) (hd : be (e q) 16 ≠ be (e' q) 16) (ho : ∀ i, i ≠ q → ∀ j, j < 16 → e i j = e' i j) :
    ∀ m, q < m → sm H e m ≠ sm H e' m
  | 0, h => by omega
  | m + 1, h => by
    intro hs
    simp only [sm] at hs
    have h1 := tms_inj (Nat.xor_lt_two_pow (sm_lt H hH e he m) (be_lt 16 (fun j _ => he m j))) (Nat.xor_lt_two_pow (sm_lt H hH e' he' m) (be_lt 16 (fun j _ => he' m j))) hH hne hs
    by_cases hq : q = m
    · subst hq
      rw [sm_congr H (e := e) (e' := e') q (fun i hi j hj => ho i (by omega) j hj)] at h1
      exact hd (xor_left_inj h1)
    · rw [be_congr 16 (ho m (fun e => hq e.symm))] at h1
      exact sm_turn H hH hne he he' q hd ho m (by omega) (xor_right_inj h1)
theorem full_at {n : Nat} (f : Nat → Nat) (i : Nat) (h : i < n) : fullP n f (i / 16) (i % 16) = f i := by
  unfold fullP
  rw [show 16 * (i / 16) + i % 16 = i by omega, if_pos h]
theorem full_other {n : Nat} {f g : Nat → Nat} (q : Nat) (h : ∀ i, i < n → i / 16 ≠ q → f i = g i) (k j : Nat) (hk : k ≠ q) (hj : j < 16) : fullP n f k j = fullP n g k j := by
  unfold fullP
  split
  · exact h _ (by assumption) (by omega)
  · rfl
/-- The sealed block of 00s, as a number. -/
def hk0 (K : Nat) (ks : Nat → Nat → Nat) : Nat := be (blockP K ks fun _ => 0) 16
theorem hk0_lt {K : Nat} {ks : Nat → Nat → Nat} (hK : 1 ≤ K) (hks : ∀ i, i < K → ∀ j, j < 16 → ks i j < 256) : hk0 K ks < 2 ^ 128 :=
  be_lt 16 (blockP_lt K ks _ (fun _ _ => by omega) hK hks)
theorem be_zero (n : Nat) : be (fun _ => 0) n = 0 := by
  induction n with
  | zero => rfl
  | succ n ih => simp only [be, ih]
theorem hk0_ne {K : Nat} {ks : Nat → Nat → Nat} (hK : 1 ≤ K) (hks : ∀ i, i < K → ∀ j, j < 16 → ks i j < 256) (h : ¬ ∀ j, j < 16 → blockP K ks (fun _ => 0) j = 0) : hk0 K ks ≠ 0 := fun e =>
  h fun j hj => be_inj (blockP_lt K ks _ (fun _ _ => by omega) hK hks) (fun _ _ => by omega) (e.trans (be_zero 16).symm) j hj
theorem tag_of_sum {K : Nat} {ks : Nat → Nat → Nat} {nonce : Nat → Nat} {ns nh : Nat} {fs fs' fh fh' : Nat → Nat} (hK : 1 ≤ K) (hks : ∀ i, i < K → ∀ j, j < 16 → ks i j < 256) (hne : hk0 K ks ≠ 0) (hns : ns ≤ 100000) (hnh : nh ≤ 100000)
    (h1 : ∀ i, i < nh → fh i < 256) (h2 : ∀ i, i < ns → fs i < 256) (h1' : ∀ i, i < nh → fh' i < 256) (h2' : ∀ i, i < ns → fs' i < 256) (h : tagN K ks nonce ns nh fs fh = tagN K ks nonce ns nh fs' fh') :
    sm (hk0 K ks) (blks nh ns fh fs) ((nh + 15) / 16 + (ns + 15) / 16) = sm (hk0 K ks) (blks nh ns fh' fs') ((nh + 15) / 16 + (ns + 15) / 16) := by
  have hH := hk0_lt hK hks
  have hL : 8 * nh * 18446744073709551616 + 8 * ns < 2 ^ 128 := by omega
  have h3 := xor_right_inj h
  exact xor_right_inj (tms_inj (Nat.xor_lt_two_pow (sm_lt _ hH _ (blks_lt h1 h2) _) hL) (Nat.xor_lt_two_pow (sm_lt _ hH _ (blks_lt h1' h2') _) hL) hH hne h3)
/-- Bits of one block of a text turned turn the tag. -/
theorem tag_text {K : Nat} {ks : Nat → Nat → Nat} {nonce : Nat → Nat} {ns nh : Nat} {fs fs' fh : Nat → Nat} (hK : 1 ≤ K) (hks : ∀ i, i < K → ∀ j, j < 16 → ks i j < 256) (hne : hk0 K ks ≠ 0) (hns : ns ≤ 100000) (hnh : nh ≤ 100000)
    (h1 : ∀ i, i < nh → fh i < 256) (h2 : ∀ i, i < ns → fs i < 256) (h2' : ∀ i, i < ns → fs' i < 256) (q i0 : Nat) (hi : i0 < ns) (hd : fs i0 ≠ fs' i0) (ho : ∀ i, i < ns → i / 16 ≠ q → fs i = fs' i) :
    tagN K ks nonce ns nh fs fh ≠ tagN K ks nonce ns nh fs' fh := fun h => by
  have hq : i0 / 16 = q := Classical.byContradiction fun e => hd (ho i0 hi e)
  refine sm_turn (hk0 K ks) (hk0_lt hK hks) hne (blks_lt h1 h2) (blks_lt h1 h2') ((nh + 15) / 16 + q) (fun e => ?_) (fun i hne j hj => ?_) ((nh + 15) / 16 + (ns + 15) / 16) (by omega) (tag_of_sum hK hks hne hns hnh h1 h2 h1 h2' h)
  · have h5 := be_inj (fun j _ => blks_lt h1 h2 _ j) (fun j _ => blks_lt h1 h2' _ j) e (i0 % 16) (by omega)
    unfold blks at h5
    rw [if_neg (by omega), if_neg (by omega), Nat.add_sub_cancel_left, ← hq, full_at fs i0 hi, full_at fs' i0 hi] at h5
    exact hd h5
  · unfold blks
    split
    · rfl
    · exact full_other q ho _ j (by omega) hj
/-- Bits of one block of a head turned turn the tag. -/
theorem tag_head {K : Nat} {ks : Nat → Nat → Nat} {nonce : Nat → Nat} {ns nh : Nat} {fs fh fh' : Nat → Nat} (hK : 1 ≤ K) (hks : ∀ i, i < K → ∀ j, j < 16 → ks i j < 256) (hne : hk0 K ks ≠ 0) (hns : ns ≤ 100000) (hnh : nh ≤ 100000)
    (h1 : ∀ i, i < nh → fh i < 256) (h1' : ∀ i, i < nh → fh' i < 256) (h2 : ∀ i, i < ns → fs i < 256) (q i0 : Nat) (hi : i0 < nh) (hd : fh i0 ≠ fh' i0) (ho : ∀ i, i < nh → i / 16 ≠ q → fh i = fh' i) :
    tagN K ks nonce ns nh fs fh ≠ tagN K ks nonce ns nh fs fh' := fun h => by
  have hq : i0 / 16 = q := Classical.byContradiction fun e => hd (ho i0 hi e)
  refine sm_turn (hk0 K ks) (hk0_lt hK hks) hne (blks_lt h1 h2) (blks_lt h1' h2) q (fun e => ?_) (fun i hne j hj => ?_) ((nh + 15) / 16 + (ns + 15) / 16) (by omega) (tag_of_sum hK hks hne hns hnh h1 h2 h1' h2 h)
  · have h5 := be_inj (fun j _ => blks_lt h1 h2 _ j) (fun j _ => blks_lt h1' h2 _ j) e (i0 % 16) (by omega)
    unfold blks at h5
    rw [if_pos (by omega), if_pos (by omega), ← hq, full_at fh i0 hi, full_at fh' i0 hi] at h5
    exact hd h5
  · unfold blks
    split
    · exact full_other q ho _ j hne hj
    · rfl
/-- Another nonce gives another tag. -/
theorem tag_nonce {K : Nat} {ks : Nat → Nat → Nat} {nonce nonce' : Nat → Nat} {ns nh : Nat} {fs fh : Nat → Nat} (hK : 1 ≤ K) (hks : ∀ i, i < K → ∀ j, j < 16 → ks i j < 256)
    (hn : ∀ j, j < 12 → nonce j < 256) (hn' : ∀ j, j < 12 → nonce' j < 256) (i0 : Nat) (hi : i0 < 12) (hd : nonce i0 ≠ nonce' i0) :
    tagN K ks nonce ns nh fs fh ≠ tagN K ks nonce' ns nh fs fh := fun h => by
  have h1 := xor_left_inj h
  have hl := blockP_lt K ks (ctrB nonce 1) (fun j _ => ctrB_lt hn 1 j) hK hks
  have hl' := blockP_lt K ks (ctrB nonce' 1) (fun j _ => ctrB_lt hn' 1 j) hK hks
  have h2 := blockP_inj K ks hK hks (fun j _ => ctrB_lt hn 1 j) (fun j _ => ctrB_lt hn' 1 j) (be_inj hl hl' h1) i0 (by omega)
  unfold ctrB ctrK at h2
  rw [if_pos hi, if_pos hi] at h2
  exact hd h2
theorem tagN_lt {K : Nat} {ks : Nat → Nat → Nat} {nonce : Nat → Nat} {ns nh : Nat} {fs fh : Nat → Nat} (hK : 1 ≤ K) (hks : ∀ i, i < K → ∀ j, j < 16 → ks i j < 256) (hns : ns ≤ 100000) (hnh : nh ≤ 100000)
    (h1 : ∀ i, i < nh → fh i < 256) (h2 : ∀ i, i < ns → fs i < 256) (hn : ∀ j, j < 12 → nonce j < 256) : tagN K ks nonce ns nh fs fh < 2 ^ 128 := by
  have hH : be (blockP K ks fun _ => 0) 16 < 2 ^ 128 := hk0_lt hK hks
  unfold tagN
  exact Nat.xor_lt_two_pow (tms_lt _ (Nat.xor_lt_two_pow (sm_lt _ hH _ (blks_lt h1 h2) _) (by omega))) (be_lt 16 (blockP_lt K ks _ (fun j _ => ctrB_lt hn 1 j) hK hks))
/-- A box whose tag is another's is not whole. -/
theorem not_whole {K : Nat} {ks : Nat → Nat → Nat} {nonce nonce' : Nat → Nat} {n nh : Nat} {fb fh fs fh' : Nat → Nat} (hl : tagN K ks nonce n nh fb fh < 2 ^ 128) (hl' : tagN K ks nonce' n nh fs fh' < 2 ^ 128)
    (hb : ∀ j, j < 16 → fb (n + j) = byP (tagN K ks nonce' n nh fs fh') j) (hne : tagN K ks nonce n nh fb fh ≠ tagN K ks nonce' n nh fs fh') : ¬ WholeP K ks nonce (n + 16) nh fb fh := fun ⟨_, h⟩ => by
  refine hne ?_
  rw [← be_byP hl, ← be_byP hl']
  exact be_congr 16 fun j hj => by
    have := h j hj
    rw [Nat.add_sub_cancel] at this
    rw [this, hb j hj]
end Go.Proofs.Ytnigpobbckampaa
