/- Plain: the box has each byte once; a block's rounds lose nothing. -/
import Derived.Test.YtnigpobbckampaaO
namespace Go.Proofs.Ytnigpobbckampaa
set_option linter.unusedSimpArgs false
set_option linter.unusedVariables false

def unT : List Nat := [82, 9, 106, 213, 48, 54, 165, 56, 191, 64, 163, 158, 129, 243, 215, 251, 124, 227, 57, 130, 155, 47, 255, 135, 52, 142, 67, 68, 196, 222, 233, 203, 84, 123, 148, 50, 166, 194, 35, 61, 238, 76, 149, 11, 66, 250, 195, 78, 8, 46, 161, 102, 40, 217, 36, 178, 118, 91, 162, 73, 109, 139, 209, 37, 114, 248, 246, 100, 134, 104, 152, 22, 212, 164, 92, 204, 93, 101, 182, 146, 108, 112, 72, 80, 253, 237, 185, 218, 94, 21, 70, 87, 167, 141, 157, 132, 144, 216, 171, 0, 140, 188, 211, 10, 247, 228, 88, 5, 184, 179, 69, 6, 208, 44, 30, 143, 202, 63, 15, 2, 193, 175, 189, 3, 1, 19, 138, 107, 58, 145, 17, 65, 79, 103, 220, 234, 151, 242, 207, 206, 240, 180, 230, 115, 150, 172, 116, 34, 231, 173, 53, 133, 226, 249, 55, 232, 28, 117, 223, 110, 71, 241, 26, 113, 29, 41, 197, 137, 111, 183, 98, 14, 170, 24, 190, 27, 252, 86, 62, 75, 198, 210, 121, 32, 154, 219, 192, 254, 120, 205, 90, 244, 31, 221, 168, 51, 136, 7, 199, 49, 177, 18, 16, 89, 39, 128, 236, 95, 96, 81, 127, 169, 25, 181, 74, 13, 45, 229, 122, 159, 147, 201, 156, 239, 160, 224, 59, 77, 174, 42, 245, 176, 200, 235, 187, 60, 131, 83, 153, 97, 23, 43, 4, 126, 186, 119, 214, 38, 225, 105, 20, 99, 85, 33, 12, 125]
theorem un_ok : (List.range 256).all (fun a => look unT (look boxT a) == a) = true := by kernel_rfl
theorem boxP_inj {a b : Nat} (ha : a < 256) (hb : b < 256) (h : boxP a = boxP b) : a = b := by
  have h1 := List.all_eq_true.1 un_ok a (List.mem_range.2 ha)
  have h2 := List.all_eq_true.1 un_ok b (List.mem_range.2 hb)
  simp only [beq_iff_eq] at h1 h2
  rw [boxP_look a ha, boxP_look b hb] at h
  rw [← h1, ← h2, h]

/-! ### The mixing of columns has an inverse -/
def mcol (a b c e : Nat) : Nat := dbl a ^^^ (dbl b ^^^ (b ^^^ (c ^^^ e)))
def t9 (a : Nat) : Nat := dbl (dbl (dbl a)) ^^^ a
def t11 (a : Nat) : Nat := dbl (dbl (dbl a)) ^^^ (dbl a ^^^ a)
def t13 (a : Nat) : Nat := dbl (dbl (dbl a)) ^^^ (dbl (dbl a) ^^^ a)
def t14 (a : Nat) : Nat := dbl (dbl (dbl a)) ^^^ (dbl (dbl a) ^^^ dbl a)
theorem dbl5 {p q r s t : Nat} (hp : p < 256) (hq : q < 256) (hr : r < 256) (hs : s < 256) (ht : t < 256) :
    dbl (p ^^^ (q ^^^ (r ^^^ (s ^^^ t)))) = dbl p ^^^ (dbl q ^^^ (dbl r ^^^ (dbl s ^^^ dbl t))) := by
  rw [dbl_xor hp (xor_lt hq (xor_lt hr (xor_lt hs ht))), dbl_xor hq (xor_lt hr (xor_lt hs ht)), dbl_xor hr (xor_lt hs ht), dbl_xor hs ht]
theorem xor_cancel (a b : Nat) : a ^^^ (a ^^^ b) = b := by rw [← Nat.xor_assoc, Nat.xor_self, Nat.zero_xor]
theorem xor_left (a b c : Nat) : a ^^^ (b ^^^ c) = b ^^^ (a ^^^ c) := by rw [← Nat.xor_assoc, Nat.xor_comm a b, Nat.xor_assoc]
theorem col_inv {a b c e : Nat} (ha : a < 256) (hb : b < 256) (hc : c < 256) (he : e < 256) :
    t14 (mcol a b c e) ^^^ (t11 (mcol b c e a) ^^^ (t13 (mcol c e a b) ^^^ t9 (mcol e a b c))) = a := by
  have l1 := fun x => dbl_lt x
  unfold t14 t11 t13 t9 mcol
  rw [dbl5 (l1 _) (l1 _) hb hc he, dbl5 (l1 _) (l1 _) (l1 _) (l1 _) (l1 _), dbl5 (l1 _) (l1 _) (l1 _) (l1 _) (l1 _),
    dbl5 (l1 _) (l1 _) hc he ha, dbl5 (l1 _) (l1 _) (l1 _) (l1 _) (l1 _), dbl5 (l1 _) (l1 _) (l1 _) (l1 _) (l1 _),
    dbl5 (l1 _) (l1 _) he ha hb, dbl5 (l1 _) (l1 _) (l1 _) (l1 _) (l1 _), dbl5 (l1 _) (l1 _) (l1 _) (l1 _) (l1 _),
    dbl5 (l1 _) (l1 _) ha hb hc, dbl5 (l1 _) (l1 _) (l1 _) (l1 _) (l1 _), dbl5 (l1 _) (l1 _) (l1 _) (l1 _) (l1 _)]
  generalize dbl (dbl (dbl (dbl a))) = a4
  generalize dbl (dbl (dbl (dbl b))) = b4
  generalize dbl (dbl (dbl (dbl c))) = c4
  generalize dbl (dbl (dbl (dbl e))) = e4
  generalize dbl (dbl (dbl a)) = a3
  generalize dbl (dbl (dbl b)) = b3
  generalize dbl (dbl (dbl c)) = c3
  generalize dbl (dbl (dbl e)) = e3
  generalize dbl (dbl a) = a2
  generalize dbl (dbl b) = b2
  generalize dbl (dbl c) = c2
  generalize dbl (dbl e) = e2
  generalize dbl a = a1
  generalize dbl b = b1
  generalize dbl c = c1
  generalize dbl e = e1
  simp only [Nat.xor_assoc, Nat.xor_comm, xor_left, xor_cancel, Nat.xor_self, Nat.xor_zero, Nat.zero_xor]
theorem mix_col {f : Nat → Nat} (hf : ∀ i, i < 16 → f i < 256) (q : Nat) (hq : q < 4) :
    mixP f (4 * q) = mcol (f (4 * q)) (f (4 * q + 1)) (f (4 * q + 2)) (f (4 * q + 3)) ∧ mixP f (4 * q + 1) = mcol (f (4 * q + 1)) (f (4 * q + 2)) (f (4 * q + 3)) (f (4 * q)) ∧
    mixP f (4 * q + 2) = mcol (f (4 * q + 2)) (f (4 * q + 3)) (f (4 * q)) (f (4 * q + 1)) ∧ mixP f (4 * q + 3) = mcol (f (4 * q + 3)) (f (4 * q)) (f (4 * q + 1)) (f (4 * q + 2)) := by
  have h0 := hf (4 * q) (by omega)
  have h1 := hf (4 * q + 1) (by omega)
  have h2 := hf (4 * q + 2) (by omega)
  have h3 := hf (4 * q + 3) (by omega)
  have d0 : 4 * q / 4 * 4 = 4 * q := by omega
  have d1 : (4 * q + 1) / 4 * 4 = 4 * q := by omega
  have d2 : (4 * q + 2) / 4 * 4 = 4 * q := by omega
  have d3 : (4 * q + 3) / 4 * 4 = 4 * q := by omega
  have m0 : (4 * q % 4 + 1) % 4 = 1 := by omega
  have m1 : ((4 * q + 1) % 4 + 1) % 4 = 2 := by omega
  have m2 : ((4 * q + 2) % 4 + 1) % 4 = 3 := by omega
  have m3 : ((4 * q + 3) % 4 + 1) % 4 = 0 := by omega
  unfold mixP mcol
  rw [d0, d1, d2, d3, m0, m1, m2, m3, Nat.add_zero]
  generalize f (4 * q) = a at *
  generalize f (4 * q + 1) = b at *
  generalize f (4 * q + 2) = c at *
  generalize f (4 * q + 3) = e at *
  rw [dbl_xor h0 h1, dbl_xor h1 h2, dbl_xor h2 h3, dbl_xor h3 h0]
  generalize dbl a = a1
  generalize dbl b = b1
  generalize dbl c = c1
  generalize dbl e = e1
  refine ⟨?_, ?_, ?_, ?_⟩ <;> simp only [Nat.xor_assoc, Nat.xor_comm, xor_left, xor_cancel, Nat.xor_self, Nat.xor_zero, Nat.zero_xor]
theorem mixP_inj {f g : Nat → Nat} (hf : ∀ i, i < 16 → f i < 256) (hg : ∀ i, i < 16 → g i < 256) (h : ∀ i, i < 16 → mixP f i = mixP g i) : ∀ i, i < 16 → f i = g i := by
  intro i hi
  have key : ∀ q, q < 4 → f (4 * q) = g (4 * q) ∧ f (4 * q + 1) = g (4 * q + 1) ∧ f (4 * q + 2) = g (4 * q + 2) ∧ f (4 * q + 3) = g (4 * q + 3) := by
    intro q hq
    obtain ⟨a0, a1, a2, a3⟩ := mix_col hf q hq
    obtain ⟨b0, b1, b2, b3⟩ := mix_col hg q hq
    have e0 := h (4 * q) (by omega)
    have e1 := h (4 * q + 1) (by omega)
    have e2 := h (4 * q + 2) (by omega)
    have e3 := h (4 * q + 3) (by omega)
    rw [a0, b0] at e0
    rw [a1, b1] at e1
    rw [a2, b2] at e2
    rw [a3, b3] at e3
    have f0 := hf (4 * q) (by omega)
    have f1 := hf (4 * q + 1) (by omega)
    have f2 := hf (4 * q + 2) (by omega)
    have f3 := hf (4 * q + 3) (by omega)
    have g0 := hg (4 * q) (by omega)
    have g1 := hg (4 * q + 1) (by omega)
    have g2 := hg (4 * q + 2) (by omega)
    have g3 := hg (4 * q + 3) (by omega)
    refine ⟨?_, ?_, ?_, ?_⟩
    · rw [← col_inv f0 f1 f2 f3, e0, e1, e2, e3, col_inv g0 g1 g2 g3]
    · rw [← col_inv f1 f2 f3 f0, e0, e1, e2, e3, col_inv g1 g2 g3 g0]
    · rw [← col_inv f2 f3 f0 f1, e0, e1, e2, e3, col_inv g2 g3 g0 g1]
    · rw [← col_inv f3 f0 f1 f2, e0, e1, e2, e3, col_inv g3 g0 g1 g2]
  obtain ⟨k0, k1, k2, k3⟩ := key (i / 4) (by omega)
  rcases (by omega : i = 4 * (i / 4) ∨ i = 4 * (i / 4) + 1 ∨ i = 4 * (i / 4) + 2 ∨ i = 4 * (i / 4) + 3) with h | h | h | h <;> rw [h] <;> assumption
theorem perm_ok : (List.range 16).all (fun t => (List.range 16).any fun i => (i + 4 * (i % 4)) % 16 == t) = true := by kernel_rfl
theorem subP_inj {f g : Nat → Nat} (hf : ∀ i, i < 16 → f i < 256) (hg : ∀ i, i < 16 → g i < 256) (h : ∀ i, i < 16 → subP f i = subP g i) : ∀ i, i < 16 → f i = g i := by
  intro t ht
  have h1 := List.all_eq_true.1 perm_ok t (List.mem_range.2 ht)
  obtain ⟨i, hi, he⟩ := List.any_eq_true.1 h1
  have hi' := List.mem_range.1 hi
  have he' : (i + 4 * (i % 4)) % 16 = t := by simpa using he
  have h2 := h i hi'
  unfold subP at h2
  rw [he'] at h2
  exact boxP_inj (hf t ht) (hg t ht) h2
theorem roundP_inj (last r : Nat) {f g : Nat → Nat} (hf : ∀ i, i < 16 → f i < 256) (hg : ∀ i, i < 16 → g i < 256) (h : ∀ i, i < 16 → roundP last r f i = roundP last r g i) : ∀ i, i < 16 → f i = g i := by
  unfold roundP at h
  split at h
  · exact subP_inj hf hg (mixP_inj (fun i _ => subP_lt f i) (fun i _ => subP_lt g i) h)
  · exact subP_inj hf hg h
theorem xor_inj {a b c : Nat} (h : a ^^^ c = b ^^^ c) : a = b := by
  have this : (a ^^^ c) ^^^ c = (b ^^^ c) ^^^ c := by rw [h]
  rw [xor_xor_self, xor_xor_self] at this
  exact this
theorem blockP_inj (n : Nat) (ks : Nat → Nat → Nat) {x y : Nat → Nat} (hn : 1 ≤ n) (hk : ∀ i, i < n → ∀ j, j < 16 → ks i j < 256) (hx : ∀ i, i < 16 → x i < 256) (hy : ∀ i, i < 16 → y i < 256)
    (h : ∀ i, i < 16 → blockP n ks x i = blockP n ks y i) : ∀ i, i < 16 → x i = y i := by
  have key : ∀ r, r ≤ n - 1 → (∀ i, i < 16 → stP (n - 1) ks x r i = stP (n - 1) ks y r i) → ∀ i, i < 16 → x i = y i := by
    intro r
    induction r with
    | zero => exact fun _ h i hi => xor_inj (h i hi)
    | succ r ih =>
      intro hr h
      refine ih (by omega) (roundP_inj (n - 1) r (fun i hi => stP_lt _ _ _ hx r (fun i h => hk i (by omega)) i hi) (fun i hi => stP_lt _ _ _ hy r (fun i h => hk i (by omega)) i hi) fun i hi => xor_inj (h i hi))
  exact key (n - 1) (Nat.le_refl _) h

end Go.Proofs.Ytnigpobbckampaa
