/- Plain: the growth of a key. -/
import Derived.Test.YtnigpobbckampaaM
namespace Go.Proofs.Ytnigpobbckampaa
set_option linter.unusedSimpArgs false
set_option linter.unusedVariables false

/-- The word before, turned and boxed where it is to be. -/
def xword (k : Nat) (F : Nat → Nat) (p i : Nat) : Nat → Nat := fun j =>
  if i % k = 0 then boxP (F (4 * (i - 1) + (j + 1) % 4)) ^^^ (if j = 0 then p else 0)
  else if k = 8 ∧ i % 8 = 4 then boxP (F (4 * (i - 1) + j)) else F (4 * (i - 1) + j)
/-- One word more. -/
def xstep (k : Nat) (F : Nat → Nat) (p i : Nat) : Nat → Nat := fun m => if m < 4 * i then F m else xword k F p i (m - 4 * i) ^^^ F (4 * (i - k) + (m - 4 * i))
def xpow (k p i : Nat) : Nat := if i % k = 0 then dbl p else p
/-- The bytes and the power when t words have been added. -/
def xp (k : Nat) (f : Nat → Nat) : Nat → (Nat → Nat) × Nat
  | 0 => (f, 1)
  | t + 1 => (xstep k (xp k f t).1 (xp k f t).2 (k + t), xpow k (xp k f t).2 (k + t))
/-- The round keys. -/
def keysP (k : Nat) (f : Nat → Nat) : Nat → Nat → Nat := fun r j => (xp k f (4 * (k + 7) - k)).1 (r * 16 + j)

theorem xword_lt (k : Nat) (F : Nat → Nat) (p i : Nat) (hi : 0 < i) (hp : p < 256) (hF : ∀ m, m < 4 * i → F m < 256) : ∀ j, j < 4 → xword k F p i j < 256 := by
  intro j hj
  unfold xword
  split
  · apply xor_lt (boxP_lt _)
    split <;> omega
  · split
    · exact boxP_lt _
    · exact hF _ (by omega)

theorem xp_lt (k : Nat) (hk : 0 < k) (f : Nat → Nat) (hf : ∀ m, m < 4 * k → f m < 256) : ∀ t, (∀ m, m < 4 * (k + t) → (xp k f t).1 m < 256) ∧ (xp k f t).2 < 256 := by
  intro t
  induction t with
  | zero => exact ⟨hf, show (1 : Nat) < 256 by decide⟩
  | succ t ih =>
    refine ⟨fun m hm => ?_, ?_⟩
    · simp only [xp, xstep]
      split
      · exact ih.1 m (by omega)
      · exact xor_lt (xword_lt k _ _ _ (by omega) ih.2 ih.1 _ (by omega)) (ih.1 _ (by omega))
    · simp only [xp, xpow]
      split
      · exact dbl_lt _
      · exact ih.2

theorem keysP_lt (k : Nat) (hk : 0 < k) (f : Nat → Nat) (hf : ∀ m, m < 4 * k → f m < 256) : ∀ r j, r < k + 7 → j < 16 → keysP k f r j < 256 :=
  fun r j hr hj => (xp_lt k hk f hf _).1 _ (by omega)

end Go.Proofs.Ytnigpobbckampaa
