/- Plain mathematics of bytes: doubling, products, boxes; no program in sight. Plain: the growth of a key. -/

namespace Go.Proofs.Ytnigpobbckampaa
set_option linter.unusedSimpArgs false
set_option linter.unusedVariables false

/-- A byte times 2. -/
def dbl (a : Nat) : Nat := (a * 2 % 256) ^^^ (if a < 128 then 0 else 27)
theorem dbl_lt (a : Nat) : dbl a < 256 := by
  unfold dbl
  refine Nat.xor_lt_two_pow (n := 8) (by omega) ?_
  split <;> omega

/-- The product's loop: n rounds. -/
def mulL : Nat → Nat → Nat → Nat → Nat
  | 0, _, _, out => out
  | n + 1, a, b, out => mulL n (dbl a) (b / 2) (if b % 2 = 1 then out ^^^ a else out)
def mulP (a b : Nat) : Nat := mulL 8 a b 0

theorem mulL_zero (n a out : Nat) : mulL n a 0 out = out := by
  induction n generalizing a with
  | zero => rfl
  | succ n ih => simp [mulL, ih]

theorem xor_lt {a b : Nat} (ha : a < 256) (hb : b < 256) : a ^^^ b < 256 := Nat.xor_lt_two_pow (n := 8) ha hb

theorem mulL_lt (n : Nat) : ∀ a b out, a < 256 → out < 256 → mulL n a b out < 256 := by
  induction n with
  | zero => intro a b out _ h; exact h
  | succ n ih =>
    intro a b out ha ho
    refine ih _ _ _ (dbl_lt a) ?_
    split
    · exact xor_lt ho ha
    · exact ho
theorem mulP_lt (a b : Nat) (ha : a < 256) : mulP a b < 256 := mulL_lt 8 a b 0 ha (by omega)

/-- A byte turned left by n bits. -/
def rot (a n : Nat) : Nat := (a * 2 ^ n % 256) ||| (a / 2 ^ (8 - n))
theorem rot_lt (a n : Nat) (ha : a < 256) : rot a n < 256 := by
  unfold rot
  refine Nat.or_lt_two_pow (n := 8) (by omega) ?_
  exact Nat.lt_of_le_of_lt (Nat.div_le_self _ _) ha

/-- The affine part of the box, of an inverse. -/
def boxA (y : Nat) : Nat := y ^^^ rot y 1 ^^^ rot y 2 ^^^ rot y 3 ^^^ rot y 4 ^^^ 99
theorem boxA_lt (y : Nat) (h : y < 256) : boxA y < 256 :=
  xor_lt (xor_lt (xor_lt (xor_lt (xor_lt h (rot_lt _ _ h)) (rot_lt _ _ h)) (rot_lt _ _ h)) (rot_lt _ _ h)) (by omega)

/-- Powers of 3. -/
def pw : Nat → Nat
  | 0 => 1
  | i + 1 => pw i ^^^ dbl (pw i)
theorem pw_lt (i : Nat) : pw i < 256 := by
  induction i with
  | zero => decide
  | succ i ih => exact xor_lt ih (dbl_lt _)

/-- The tables as they are filled, round after round. -/
def pwS (k : Nat) : Nat → Nat := fun j => if j < k then pw j else 0
def invS : Nat → Nat → Nat
  | 0 => fun _ => 0
  | k + 1 => fun j => if j = pw k then pw ((255 - k) % 255) else invS k j
def invP (a : Nat) : Nat := invS 255 a
def boxP (a : Nat) : Nat := boxA (invP a)
def tabS (k : Nat) : Nat → Nat := fun j => if j < 256 then invP j else if j < 256 + k then boxP (j - 256) else 0
def tabP : Nat → Nat := fun j => if j < 256 then invP j else boxP (j - 256)
def invF (k : Nat) : Nat → Nat := fun j => if j < 256 then invS k j else 0
theorem invS_lt (k j : Nat) : invS k j < 256 := by
  induction k with
  | zero => exact (by decide : (0 : Nat) < 256)
  | succ k ih =>
    unfold invS
    split
    · exact pw_lt _
    · exact ih
theorem invP_lt (a : Nat) : invP a < 256 := invS_lt 255 a
theorem boxP_lt (a : Nat) : boxP a < 256 := boxA_lt _ (invP_lt a)

/-- One block, sealed. -/
def subP (a : Nat → Nat) : Nat → Nat := fun i => boxP (a ((i + 4 * (i % 4)) % 16))
def mixP (b : Nat → Nat) : Nat → Nat := fun t =>
  b t ^^^ ((b (t / 4 * 4) ^^^ b (t / 4 * 4 + 1) ^^^ b (t / 4 * 4 + 2) ^^^ b (t / 4 * 4 + 3)) ^^^ dbl (b t ^^^ b (t / 4 * 4 + (t % 4 + 1) % 4)))
def roundP (last r : Nat) (a : Nat → Nat) : Nat → Nat := if r + 1 < last then mixP (subP a) else subP a
def stP (last : Nat) (ks : Nat → Nat → Nat) (x : Nat → Nat) : Nat → Nat → Nat
  | 0 => fun j => x j ^^^ ks 0 j
  | r + 1 => fun j => roundP last r (stP last ks x r) j ^^^ ks (r + 1) j
def blockP (n : Nat) (ks : Nat → Nat → Nat) (x : Nat → Nat) : Nat → Nat := stP (n - 1) ks x (n - 1)
theorem subP_lt (a : Nat → Nat) (i : Nat) : subP a i < 256 := boxP_lt _
theorem mixP_lt (b : Nat → Nat) (hb : ∀ i, i < 16 → b i < 256) (i : Nat) (hi : i < 16) : mixP b i < 256 :=
  xor_lt (hb i hi) (xor_lt (xor_lt (xor_lt (xor_lt (hb _ (by omega)) (hb _ (by omega))) (hb _ (by omega))) (hb _ (by omega))) (dbl_lt _))
theorem roundP_lt (last r : Nat) (a : Nat → Nat) (i : Nat) (hi : i < 16) : roundP last r a i < 256 := by
  unfold roundP
  split
  · exact mixP_lt _ (fun i _ => subP_lt a i) i hi
  · exact subP_lt a i
theorem stP_lt (last : Nat) (ks : Nat → Nat → Nat) (x : Nat → Nat) (hx : ∀ i, i < 16 → x i < 256) (r : Nat) (hk : ∀ i, i ≤ r → ∀ j, j < 16 → ks i j < 256) (i : Nat) (hi : i < 16) : stP last ks x r i < 256 := by
  cases r with
  | zero => exact xor_lt (hx i hi) (hk 0 (by omega) i hi)
  | succ r => exact xor_lt (roundP_lt _ _ _ i hi) (hk (r + 1) (by omega) i hi)
theorem blockP_lt (n : Nat) (ks : Nat → Nat → Nat) (x : Nat → Nat) (hx : ∀ i, i < 16 → x i < 256) (hn : 1 ≤ n) (hk : ∀ i, i < n → ∀ j, j < 16 → ks i j < 256) (i : Nat) (hi : i < 16) : blockP n ks x i < 256 :=
  stP_lt _ _ _ hx _ (fun i h => hk i (by omega)) i hi

end Go.Proofs.Ytnigpobbckampaa
namespace Go.Proofs.Ytnigpobbckampaa
set_option linter.unusedSimpArgs false
set_option linter.unusedVariables false

/-- The word before, turned and boxed where it is to be. -/
def xword (k : Nat) (F : Nat → Nat) (p i : Nat) : Nat → Nat := fun j =>
  if i % k = 0 then boxP (F (4 * (i - 1) + (j + 1) % 4)) ^^^ (if j = 0 then p else 0)
  else if k = 8 ∧ i % 8 = 4 then boxP (F (4 * (i - 1) + j)) else F (4 * (i - 1) + j)
/-- One word more. -/
def xstep (k : Nat) (F : Nat → Nat) (p i : Nat) : Nat → Nat := fun m => if m < 4 * i then F m else xword k F p i (m - 4 * i) ^^^ F (4 * (i - k) + (m - 4 * i))
def xpow (k p i : Nat) : Nat := if i % k = 0 then dbl p else p
/-- The bytes and the power when t words have been added. -/
def xp (k : Nat) (f : Nat → Nat) : Nat → (Nat → Nat) × Nat
  | 0 => (f, 1)
  | t + 1 => (xstep k (xp k f t).1 (xp k f t).2 (k + t), xpow k (xp k f t).2 (k + t))
/-- The round keys. -/
def keysP (k : Nat) (f : Nat → Nat) : Nat → Nat → Nat := fun r j => (xp k f (4 * (k + 7) - k)).1 (r * 16 + j)

theorem xword_lt (k : Nat) (F : Nat → Nat) (p i : Nat) (hi : 0 < i) (hp : p < 256) (hF : ∀ m, m < 4 * i → F m < 256) : ∀ j, j < 4 → xword k F p i j < 256 := by
  intro j hj
  unfold xword
  split
  · apply xor_lt (boxP_lt _)
    split <;> omega
  · split
    · exact boxP_lt _
    · exact hF _ (by omega)

theorem xp_lt (k : Nat) (hk : 0 < k) (f : Nat → Nat) (hf : ∀ m, m < 4 * k → f m < 256) : ∀ t, (∀ m, m < 4 * (k + t) → (xp k f t).1 m < 256) ∧ (xp k f t).2 < 256 := by
  intro t
  induction t with
  | zero => exact ⟨hf, show (1 : Nat) < 256 by decide⟩
  | succ t ih =>
    refine ⟨fun m hm => ?_, ?_⟩
    · simp only [xp, xstep]
      split
      · exact ih.1 m (by omega)
      · exact xor_lt (xword_lt k _ _ _ (by omega) ih.2 ih.1 _ (by omega)) (ih.1 _ (by omega))
    · simp only [xp, xpow]
      split
      · exact dbl_lt _
      · exact ih.2

theorem keysP_lt (k : Nat) (hk : 0 < k) (f : Nat → Nat) (hf : ∀ m, m < 4 * k → f m < 256) : ∀ r j, r < k + 7 → j < 16 → keysP k f r j < 256 :=
  fun r j hr hj => (xp_lt k hk f hf _).1 _ (by omega)

end Go.Proofs.Ytnigpobbckampaa
