/- Plain: the field of bytes. -/
import Derived.Test.YtnigpobbckampaaN
namespace Go.Proofs.Ytnigpobbckampaa
set_option linter.unusedSimpArgs false
set_option linter.unusedVariables false

/-! ### Functions that are additive are equal when they are equal at the powers of 2 -/
theorem xor_pow_lt {k a : Nat} (h1 : 2 ^ k ≤ a) (h2 : a < 2 ^ (k + 1)) : a ^^^ 2 ^ k < 2 ^ k := by
  have hlt : a ^^^ 2 ^ k < 2 ^ (k + 1) := Nat.xor_lt_two_pow h2 (Nat.pow_lt_pow_right (by omega) (by omega))
  have hbit : (a ^^^ 2 ^ k).testBit k = false := by
    have ha : a.testBit k = true := by
      rw [Nat.testBit_eq_decide_div_mod_eq]
      have h3 : a / 2 ^ k = 1 := by
        rw [Nat.pow_succ] at h2
        exact Nat.div_eq_of_lt_le (by omega) (by omega)
      simp [h3]
    rw [Nat.testBit_xor, ha, Nat.testBit_two_pow_self]
    rfl
  refine Nat.lt_of_not_le fun hge => ?_
  have : (a ^^^ 2 ^ k).testBit k = true := by
    rw [Nat.testBit_eq_decide_div_mod_eq]
    have h3 : (a ^^^ 2 ^ k) / 2 ^ k = 1 := by
      rw [Nat.pow_succ] at hlt
      exact Nat.div_eq_of_lt_le (by omega) (by omega)
    simp [h3]
  rw [hbit] at this
  cases this

theorem xor_xor_self (a b : Nat) : (a ^^^ b) ^^^ b = a := by rw [Nat.xor_assoc, Nat.xor_self, Nat.xor_zero]

theorem lin_ext {n : Nat} {f g : Nat → Nat} (hf : ∀ a b, a < 2 ^ n → b < 2 ^ n → f (a ^^^ b) = f a ^^^ f b) (hg : ∀ a b, a < 2 ^ n → b < 2 ^ n → g (a ^^^ b) = g a ^^^ g b)
    (h : ∀ i, i < n → f (2 ^ i) = g (2 ^ i)) : ∀ a, a < 2 ^ n → f a = g a := by
  have h0f : f 0 = 0 := by
    have := hf 0 0 (Nat.two_pow_pos n) (Nat.two_pow_pos n)
    rw [Nat.xor_self, Nat.xor_self] at this
    exact this
  have h0g : g 0 = 0 := by
    have := hg 0 0 (Nat.two_pow_pos n) (Nat.two_pow_pos n)
    rw [Nat.xor_self, Nat.xor_self] at this
    exact this
  have key : ∀ k, k ≤ n → ∀ a, a < 2 ^ k → f a = g a := by
    intro k
    induction k with
    | zero => intro _ a ha; obtain rfl : a = 0 := by omega
              rw [h0f, h0g]
    | succ k ih =>
      intro hk a ha
      by_cases hlt : a < 2 ^ k
      · exact ih (by omega) a hlt
      · have h1 := xor_pow_lt (by omega) ha
        have hp : 2 ^ k < 2 ^ n := Nat.pow_lt_pow_right (by omega) (by omega)
        have e : a = (a ^^^ 2 ^ k) ^^^ 2 ^ k := (xor_xor_self a _).symm
        rw [e, hf _ _ (Nat.lt_trans h1 hp) hp, hg _ _ (Nat.lt_trans h1 hp) hp, ih (by omega) _ h1, h k (by omega)]
  exact key n (Nat.le_refl _)

/-! ### Doubling and products are additive -/
theorem dbl_xor_ok : ((List.range 256).all fun a => (List.range 256).all fun b => dbl (a ^^^ b) == dbl a ^^^ dbl b) = true := by kernel_rfl
theorem dbl_xor {a b : Nat} (ha : a < 256) (hb : b < 256) : dbl (a ^^^ b) = dbl a ^^^ dbl b := by
  have h1 := List.all_eq_true.1 dbl_xor_ok a (List.mem_range.2 ha)
  have h2 := List.all_eq_true.1 h1 b (List.mem_range.2 hb)
  simpa using h2

/-- The product by its recursion. -/
def mulR : Nat → Nat → Nat → Nat
  | 0, _, _ => 0
  | n + 1, a, b => (if b % 2 = 1 then a else 0) ^^^ mulR n (dbl a) (b / 2)
theorem mulL_eq (n : Nat) : ∀ a b out, mulL n a b out = out ^^^ mulR n a b := by
  induction n with
  | zero => intro a b out; simp [mulL, mulR]
  | succ n ih =>
    intro a b out
    simp only [mulL, mulR]
    rw [ih]
    split
    · rw [Nat.xor_assoc]
    · rw [Nat.zero_xor]
theorem mulP_eq (a b : Nat) : mulP a b = mulR 8 a b := by unfold mulP; rw [mulL_eq, Nat.zero_xor]
theorem xor4 (a b c d : Nat) : (a ^^^ b) ^^^ (c ^^^ d) = (a ^^^ c) ^^^ (b ^^^ d) := by
  rw [Nat.xor_assoc, Nat.xor_assoc, ← Nat.xor_assoc b c d, Nat.xor_comm b c, Nat.xor_assoc c b d]
theorem mulR_left (n : Nat) : ∀ a a' b, a < 256 → a' < 256 → mulR n (a ^^^ a') b = mulR n a b ^^^ mulR n a' b := by
  induction n with
  | zero => intro a a' b _ _; simp [mulR]
  | succ n ih =>
    intro a a' b ha ha'
    simp only [mulR]
    rw [dbl_xor ha ha', ih _ _ _ (dbl_lt _) (dbl_lt _), xor4]
    congr 1
    split <;> simp
theorem mulR_right (n : Nat) : ∀ a b b', mulR n a (b ^^^ b') = mulR n a b ^^^ mulR n a b' := by
  induction n with
  | zero => intro a b b'; simp [mulR]
  | succ n ih =>
    intro a b b'
    simp only [mulR]
    rw [Nat.xor_div_two, ih, xor4]
    congr 1
    have h : (b ^^^ b') % 2 = (b % 2) ^^^ (b' % 2) := by
      have := @Nat.xor_mod_two_pow b b' 1
      simpa using this
    rw [h]
    rcases Nat.mod_two_eq_zero_or_one b with h1 | h1 <;> rcases Nat.mod_two_eq_zero_or_one b' with h2 | h2 <;> simp [h1, h2]
theorem mulP_left {a a' : Nat} (b : Nat) (ha : a < 256) (ha' : a' < 256) : mulP (a ^^^ a') b = mulP a b ^^^ mulP a' b := by
  rw [mulP_eq, mulP_eq, mulP_eq]; exact mulR_left 8 a a' b ha ha'
theorem mulP_right (a b b' : Nat) : mulP a (b ^^^ b') = mulP a b ^^^ mulP a b' := by
  rw [mulP_eq, mulP_eq, mulP_eq]; exact mulR_right 8 a b b'

/-! ### The laws -/
theorem comm_ok : ((List.range 8).all fun i => (List.range 8).all fun j => mulP (2 ^ i) (2 ^ j) == mulP (2 ^ j) (2 ^ i)) = true := by kernel_rfl
theorem pow_lt256 {i : Nat} (h : i < 8) : 2 ^ i < 256 := by
  have := Nat.pow_lt_pow_right (a := 2) (by omega) h
  simpa using this
theorem mulP_comm (a b : Nat) (ha : a < 256) (hb : b < 256) : mulP a b = mulP b a := by
  refine lin_ext (n := 8) (f := fun a => mulP a b) (g := fun a => mulP b a) (fun x y hx hy => mulP_left b hx hy) (fun x y _ _ => mulP_right b x y) (fun i hi => ?_) a ha
  refine lin_ext (n := 8) (f := fun b => mulP (2 ^ i) b) (g := fun b => mulP b (2 ^ i)) (fun x y _ _ => mulP_right _ x y) (fun x y hx hy => mulP_left _ hx hy) (fun j hj => ?_) b hb
  have h1 := List.all_eq_true.1 comm_ok i (List.mem_range.2 hi)
  have h2 := List.all_eq_true.1 h1 j (List.mem_range.2 hj)
  simpa using h2
theorem assoc_ok : ((List.range 8).all fun i => (List.range 8).all fun j => (List.range 8).all fun k => mulP (mulP (2 ^ i) (2 ^ j)) (2 ^ k) == mulP (2 ^ i) (mulP (2 ^ j) (2 ^ k))) = true := by kernel_rfl
theorem mulP_assoc (a b c : Nat) (ha : a < 256) (hb : b < 256) (hc : c < 256) : mulP (mulP a b) c = mulP a (mulP b c) := by
  refine lin_ext (n := 8) (f := fun a => mulP (mulP a b) c) (g := fun a => mulP a (mulP b c)) (fun x y hx hy => ?_) (fun x y hx hy => mulP_left _ hx hy) (fun i hi => ?_) a ha
  · show mulP (mulP (x ^^^ y) b) c = _
    rw [mulP_left b hx hy, mulP_left c (mulP_lt _ _ hx) (mulP_lt _ _ hy)]
  have hi' := pow_lt256 hi
  refine lin_ext (n := 8) (f := fun b => mulP (mulP (2 ^ i) b) c) (g := fun b => mulP (2 ^ i) (mulP b c)) (fun x y hx hy => ?_) (fun x y hx hy => ?_) (fun j hj => ?_) b hb
  · show mulP (mulP (2 ^ i) (x ^^^ y)) c = _
    rw [mulP_right, mulP_left c (mulP_lt _ _ hi') (mulP_lt _ _ hi')]
  · show mulP (2 ^ i) (mulP (x ^^^ y) c) = _
    rw [mulP_left c hx hy, mulP_right]
  refine lin_ext (n := 8) (f := fun c => mulP (mulP (2 ^ i) (2 ^ j)) c) (g := fun c => mulP (2 ^ i) (mulP (2 ^ j) c)) (fun x y _ _ => mulP_right _ x y) (fun x y hx hy => ?_) (fun k hk => ?_) c hc
  · show mulP (2 ^ i) (mulP (2 ^ j) (x ^^^ y)) = _
    rw [mulP_right, mulP_right]
  have h1 := List.all_eq_true.1 assoc_ok i (List.mem_range.2 hi)
  have h2 := List.all_eq_true.1 h1 j (List.mem_range.2 hj)
  have h3 := List.all_eq_true.1 h2 k (List.mem_range.2 hk)
  simpa using h3
theorem one_ok : ((List.range 256).all fun a => mulP a 1 == a && mulP a 0 == 0) = true := by kernel_rfl
theorem mulP_one (a : Nat) (ha : a < 256) : mulP a 1 = a := by
  have := List.all_eq_true.1 one_ok a (List.mem_range.2 ha)
  simp only [Bool.and_eq_true, beq_iff_eq] at this
  exact this.1
theorem mulP_zero (a : Nat) (ha : a < 256) : mulP a 0 = 0 := by
  have := List.all_eq_true.1 one_ok a (List.mem_range.2 ha)
  simp only [Bool.and_eq_true, beq_iff_eq] at this
  exact this.2
theorem zero_mulP (a : Nat) (ha : a < 256) : mulP 0 a = 0 := by rw [mulP_comm 0 a (by omega) ha, mulP_zero a ha]
theorem inv_ok : ((List.range 256).all fun a => (a == 0 || mulP a (look invT a) == 1) && look invT (look invT a) == a) = true := by kernel_rfl
theorem mulP_inv (a : Nat) (ha : a < 256) (h0 : a ≠ 0) : mulP a (invP a) = 1 := by
  have := List.all_eq_true.1 inv_ok a (List.mem_range.2 ha)
  simp only [Bool.and_eq_true, Bool.or_eq_true, beq_iff_eq] at this
  rw [invP_look a ha]
  rcases this.1 with h | h
  · exact absurd h h0
  · exact h
theorem invP_invP (a : Nat) (ha : a < 256) : invP (invP a) = a := by
  have := List.all_eq_true.1 inv_ok a (List.mem_range.2 ha)
  simp only [Bool.and_eq_true, beq_iff_eq] at this
  have h1 := invP_lt a
  rw [invP_look _ h1, invP_look a ha]
  exact this.2
theorem mulP_zero_iff (a b : Nat) (ha : a < 256) (hb : b < 256) (h0 : a ≠ 0) : mulP a b = 0 ↔ b = 0 := by
  refine ⟨fun h => ?_, fun h => by rw [h, mulP_zero a ha]⟩
  have h1 := mulP_assoc (invP a) a b (invP_lt a) ha hb
  rw [h, mulP_zero _ (invP_lt a), mulP_comm (invP a) a (invP_lt a) ha, mulP_inv a ha h0, mulP_comm 1 b (by omega) hb, mulP_one b hb] at h1
  exact h1
/-- The inverse is the only one. -/
theorem inv_unique (a b : Nat) (ha : a < 256) (hb : b < 256) (h : mulP a b = 1) : b = invP a := by
  have h0 : a ≠ 0 := by
    rintro rfl
    rw [zero_mulP b hb] at h
    cases h
  have h1 := mulP_assoc (invP a) a b (invP_lt a) ha hb
  rw [h, mulP_one _ (invP_lt a), mulP_comm (invP a) a (invP_lt a) ha, mulP_inv a ha h0, mulP_comm 1 b (by omega) hb, mulP_one b hb] at h1
  exact h1

/-! ### The box -/
theorem rot_bit (a n j : Nat) (ha : a < 256) (hn : n < 8) : (rot a n).testBit j = ((decide (j < 8) && (decide (n ≤ j) && a.testBit (j - n))) || a.testBit (8 - n + j)) := by
  unfold rot
  rw [Nat.testBit_or, show (256 : Nat) = 2 ^ 8 from rfl, Nat.testBit_mod_two_pow, Nat.testBit_mul_two_pow, Nat.testBit_div_two_pow]
  rw [Nat.add_comm j (8 - n)]
theorem rot_xor {a b n : Nat} (ha : a < 256) (hb : b < 256) (hn : n < 8) (h0 : 0 < n) : rot (a ^^^ b) n = rot a n ^^^ rot b n := by
  apply Nat.eq_of_testBit_eq
  intro j
  rw [Nat.testBit_xor, rot_bit _ _ _ (xor_lt ha hb) hn, rot_bit _ _ _ ha hn, rot_bit _ _ _ hb hn, Nat.testBit_xor, Nat.testBit_xor]
  have hhi : ∀ x : Nat, x < 256 → ∀ i, 8 ≤ i → x.testBit i = false := fun x hx i hi => Nat.testBit_lt_two_pow (Nat.lt_of_lt_of_le hx (by
    have := Nat.pow_le_pow_right (n := 2) (by omega) hi
    simpa using this))
  by_cases h1 : n ≤ j
  · rw [hhi a ha (8 - n + j) (by omega), hhi b hb (8 - n + j) (by omega)]
    simp only [h1, decide_true, Bool.true_and, Bool.or_false, Bool.bne_false, Bool.xor_false, bne_self_eq_false]
    by_cases h2 : j < 8 <;> simp [h2]
  · simp [h1]
theorem boxA_xor3 {x y z : Nat} (hx : x < 256) (hy : y < 256) (hz : z < 256) : boxA (x ^^^ y ^^^ z) = boxA x ^^^ boxA y ^^^ boxA z := by
  have hxy := xor_lt hx hy
  have h : ∀ {a b : Nat}, a < 256 → b < 256 → boxA (a ^^^ b) = boxA a ^^^ boxA b ^^^ 99 := by
    intro a b ha hb
    unfold boxA
    rw [rot_xor ha hb (by omega) (by omega), rot_xor ha hb (by omega) (by omega), rot_xor ha hb (by omega) (by omega), rot_xor ha hb (by omega) (by omega)]
    generalize rot a 1 = a1
    generalize rot a 2 = a2
    generalize rot a 3 = a3
    generalize rot a 4 = a4
    generalize rot b 1 = b1
    generalize rot b 2 = b2
    generalize rot b 3 = b3
    generalize rot b 4 = b4
    apply Nat.eq_of_testBit_eq
    intro j
    simp only [Nat.testBit_xor]
    generalize Nat.testBit a j = p0
    generalize Nat.testBit a1 j = p1
    generalize Nat.testBit a2 j = p2
    generalize Nat.testBit a3 j = p3
    generalize Nat.testBit a4 j = p4
    generalize Nat.testBit b j = q0
    generalize Nat.testBit b1 j = q1
    generalize Nat.testBit b2 j = q2
    generalize Nat.testBit b3 j = q3
    generalize Nat.testBit b4 j = q4
    generalize Nat.testBit 99 j = c
    revert p0 p1 p2 p3 p4 q0 q1 q2 q3 q4 c
    decide
  rw [h hxy hz, h hx hy]
  apply Nat.eq_of_testBit_eq
  intro j
  simp only [Nat.testBit_xor]
  generalize Nat.testBit (boxA x) j = p0
  generalize Nat.testBit (boxA y) j = p1
  generalize Nat.testBit (boxA z) j = p2
  generalize Nat.testBit 99 j = c
  revert p0 p1 p2 c
  decide
theorem boxP_invP (y : Nat) (hy : y < 256) : boxP (invP y) = boxA y := by
  unfold boxP
  rw [invP_invP y hy]

end Go.Proofs.Ytnigpobbckampaa
