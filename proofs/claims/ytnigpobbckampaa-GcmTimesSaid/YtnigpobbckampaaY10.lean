/- What a box holds: plain laws. -/
import Derived.Test.YtnigpobbckampaaY11
namespace Go.Proofs.Ytnigpobbckampaa
open Go.RowKit
set_option linter.unusedSimpArgs false
set_option linter.unusedVariables false

theorem hideP_congr (K : Nat) (ks : Nat → Nat → Nat) (nonce f g : Nat → Nat) (j : Nat) (h : f j = g j) : hideP K ks nonce f j = hideP K ks nonce g j := by
  unfold hideP
  rw [h]
theorem hideP_back (K : Nat) (ks : Nat → Nat → Nat) (nonce f : Nat → Nat) (j : Nat) : hideP K ks nonce (hideP K ks nonce f) j = f j := by
  unfold hideP
  rw [Nat.xor_assoc, Nat.xor_self, Nat.xor_zero]
theorem fullP_congr {n : Nat} {f g : Nat → Nat} (h : ∀ i, i < n → f i = g i) (k : Nat) : fullP n f k = fullP n g k := by
  funext j
  unfold fullP
  by_cases hj : 16 * k + j < n
  · rw [if_pos hj, if_pos hj, h _ hj]
  · rw [if_neg hj, if_neg hj]
theorem sm_congr (H : Nat) {e e' : Nat → Nat → Nat} : ∀ k, (∀ i, i < k → ∀ j, j < 16 → e i j = e' i j) → sm H e k = sm H e' k
  | 0, _ => rfl
  | k + 1, h => by
    simp only [sm]
    rw [sm_congr H k (fun i hi => h i (by omega)), be_congr 16 (fun j hj => h k (by omega) j hj)]
theorem blks_congr {nh ns : Nat} {fh fh' fs fs' : Nat → Nat} (h1 : ∀ i, i < nh → fh i = fh' i) (h2 : ∀ i, i < ns → fs i = fs' i) (k : Nat) : blks nh ns fh fs k = blks nh ns fh' fs' k := by
  unfold blks
  rw [fullP_congr h1, fullP_congr h2]
theorem tagN_congr (K : Nat) (ks : Nat → Nat → Nat) (nonce : Nat → Nat) {ns nh : Nat} {fs fs' fh fh' : Nat → Nat} (h1 : ∀ i, i < nh → fh i = fh' i) (h2 : ∀ i, i < ns → fs i = fs' i) : tagN K ks nonce ns nh fs fh = tagN K ks nonce ns nh fs' fh' := by
  unfold tagN
  rw [sm_congr _ _ (fun i _ j _ => by rw [blks_congr h1 h2])]

theorem sealP_lt {K : Nat} {ks : Nat → Nat → Nat} {nonce : Nat → Nat} {n nh : Nat} {f fh : Nat → Nat} (j : Nat) (h : j < n) : sealP K ks nonce n nh f fh j = hideP K ks nonce f j := if_pos h
theorem sealP_ge {K : Nat} {ks : Nat → Nat → Nat} {nonce : Nat → Nat} {n nh : Nat} {f fh : Nat → Nat} (j : Nat) : sealP K ks nonce n nh f fh (n + j) = byP (tagN K ks nonce n nh (hideP K ks nonce f) fh) j := by
  unfold sealP
  rw [if_neg (by omega), Nat.add_sub_cancel_left]
/-- What was sealed is whole. -/
theorem whole_seal (K : Nat) (ks : Nat → Nat → Nat) (nonce : Nat → Nat) (n nh : Nat) (f fh : Nat → Nat) : WholeP K ks nonce (n + 16) nh (sealP K ks nonce n nh f fh) fh := by
  refine ⟨by omega, fun j hj => ?_⟩
  rw [Nat.add_sub_cancel, sealP_ge, tagN_congr K ks nonce (fun _ _ => rfl) (fun i hi => sealP_lt i hi)]
theorem hide_seal (K : Nat) (ks : Nat → Nat → Nat) (nonce : Nat → Nat) (n nh : Nat) (f fh : Nat → Nat) (j : Nat) (h : j < n) : hideP K ks nonce (sealP K ks nonce n nh f fh) j = f j := by
  rw [hideP_congr K ks nonce _ _ j (sealP_lt (nh := nh) (fh := fh) (f := f) j h), hideP_back]

def RdV (n : Nat) (f : Nat → Nat) : Value → World → Prop := fun v w => RdF w v n f
def TupV (n : Nat) (f : Nat → Nat) : Value → World → Prop := fun v w => ∃ v', v = .tuple #[v', .int .i64 0] ∧ RdF w v' n f
theorem RdV.mono {n : Nat} {f : Nat → Nat} {v : Value} {w w' : World} (hx : Ext w w') (h : RdV n f v w) : RdV n f v w' := RdF.ext h hx
theorem TupV.mono {n : Nat} {f : Nat → Nat} {v : Value} {w w' : World} (hx : Ext w w') (h : TupV n f v w) : TupV n f v w' := by
  obtain ⟨v', e, h⟩ := h
  exact ⟨v', e, h.ext hx⟩
/-- Seal and Open, with the parts of what they answer held together; Open of what Seal gave. -/
theorem opened42_any (vb vh : Value) (n nh b K : Nat) (f fh nonce : Nat → Nat) (ks : Nat → Nat → Nat) (w : World) (hn : n ≤ 65536) (hnh : nh ≤ 65536) (hvb : RdF w vb (n + 16) (sealP K ks nonce n nh f fh)) (hvh : RdF w vh nh fh) (hNl : ∀ j, j < 12 → nonce j < 256)
    (hC : Cph w b K ks) (hK : 2 ≤ K) (hK2 : K ≤ 1000) :
    Calls Try.prog 42 #[.pointer (some ⟨b, 0, none⟩), .agg (row 12 nonce), vb, vh] w fun e w' => ∃ v', e = .returned (.tuple #[v', .int .i64 0]) ∧ OwnF w' w.heap.size v' n f ∧ Ext w w' := by
  refine (open42_any vb vh (n + 16) nh b K _ fh nonce ks w (by omega) hnh hvb hvh hNl hC hK hK2).mono ?_
  rintro e w' ⟨hx, ⟨_, v', rfl, ho⟩ | ⟨hw, _⟩⟩
  · rw [Nat.add_sub_cancel] at ho
    exact ⟨v', rfl, ho.congr fun i hi => (hide_seal K ks nonce n nh f fh i hi).symm, hx⟩
  · exact absurd (whole_seal K ks nonce n nh f fh) hw
end Go.Proofs.Ytnigpobbckampaa
