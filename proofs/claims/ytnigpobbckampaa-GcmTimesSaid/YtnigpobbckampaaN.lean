/- Plain: tables of inverses and boxes, and the known blocks, state by state; each table is held to the definitions by the kernel. -/
import Derived.Test.YtnigpobbckampaaX
import Derived.Test.YtnigpobbckampaaK
namespace Go.Proofs.Ytnigpobbckampaa
set_option linter.unusedSimpArgs false
set_option linter.unusedVariables false

def look (l : List Nat) (i : Nat) : Nat := l.getD i 0
def invT : List Nat := [0, 1, 141, 246, 203, 82, 123, 209, 232, 79, 41, 192, 176, 225, 229, 199, 116, 180, 170, 75, 153, 43, 96, 95, 88, 63, 253, 204, 255, 64, 238, 178, 58, 110, 90, 241, 85, 77, 168, 201, 193, 10, 152, 21, 48, 68, 162, 194, 44, 69, 146, 108, 243, 57, 102, 66, 242, 53, 32, 111, 119, 187, 89, 25, 29, 254, 55, 103, 45, 49, 245, 105, 167, 100, 171, 19, 84, 37, 233, 9, 237, 92, 5, 202, 76, 36, 135, 191, 24, 62, 34, 240, 81, 236, 97, 23, 22, 94, 175, 211, 73, 166, 54, 67, 244, 71, 145, 223, 51, 147, 33, 59, 121, 183, 151, 133, 16, 181, 186, 60, 182, 112, 208, 6, 161, 250, 129, 130, 131, 126, 127, 128, 150, 115, 190, 86, 155, 158, 149, 217, 247, 2, 185, 164, 222, 106, 50, 109, 216, 138, 132, 114, 42, 20, 159, 136, 249, 220, 137, 154, 251, 124, 46, 195, 143, 184, 101, 72, 38, 200, 18, 74, 206, 231, 210, 98, 12, 224, 31, 239, 17, 117, 120, 113, 165, 142, 118, 61, 189, 188, 134, 87, 11, 40, 47, 163, 218, 212, 228, 15, 169, 39, 83, 4, 27, 252, 172, 230, 122, 7, 174, 99, 197, 219, 226, 234, 148, 139, 196, 213, 157, 248, 144, 107, 177, 13, 214, 235, 198, 14, 207, 173, 8, 78, 215, 227, 93, 80, 30, 179, 91, 35, 56, 52, 104, 70, 3, 140, 221, 156, 125, 160, 205, 26, 65, 28]
def boxT : List Nat := [99, 124, 119, 123, 242, 107, 111, 197, 48, 1, 103, 43, 254, 215, 171, 118, 202, 130, 201, 125, 250, 89, 71, 240, 173, 212, 162, 175, 156, 164, 114, 192, 183, 253, 147, 38, 54, 63, 247, 204, 52, 165, 229, 241, 113, 216, 49, 21, 4, 199, 35, 195, 24, 150, 5, 154, 7, 18, 128, 226, 235, 39, 178, 117, 9, 131, 44, 26, 27, 110, 90, 160, 82, 59, 214, 179, 41, 227, 47, 132, 83, 209, 0, 237, 32, 252, 177, 91, 106, 203, 190, 57, 74, 76, 88, 207, 208, 239, 170, 251, 67, 77, 51, 133, 69, 249, 2, 127, 80, 60, 159, 168, 81, 163, 64, 143, 146, 157, 56, 245, 188, 182, 218, 33, 16, 255, 243, 210, 205, 12, 19, 236, 95, 151, 68, 23, 196, 167, 126, 61, 100, 93, 25, 115, 96, 129, 79, 220, 34, 42, 144, 136, 70, 238, 184, 20, 222, 94, 11, 219, 224, 50, 58, 10, 73, 6, 36, 92, 194, 211, 172, 98, 145, 149, 228, 121, 231, 200, 55, 109, 141, 213, 78, 169, 108, 86, 244, 234, 101, 122, 174, 8, 186, 120, 37, 46, 28, 166, 180, 198, 232, 221, 116, 31, 75, 189, 139, 138, 112, 62, 181, 102, 72, 3, 246, 14, 97, 53, 87, 185, 134, 193, 29, 158, 225, 248, 152, 17, 105, 217, 142, 148, 155, 30, 135, 233, 206, 85, 40, 223, 140, 161, 137, 13, 191, 230, 66, 104, 65, 153, 45, 15, 176, 84, 187, 22]
theorem invT_ok : (List.range 256).all (fun a => invP a == look invT a) = true := by kernel_rfl
theorem boxT_ok : (List.range 256).all (fun a => boxA (look invT a) == look boxT a) = true := by kernel_rfl
theorem invP_look (a : Nat) (h : a < 256) : invP a = look invT a := by
  have := List.all_eq_true.1 invT_ok a (List.mem_range.2 h)
  simpa using this
theorem boxP_look (a : Nat) (h : a < 256) : boxP a = look boxT a := by
  have := List.all_eq_true.1 boxT_ok a (List.mem_range.2 h)
  unfold boxP
  rw [invP_look a h]
  simpa using this

/-! ### The growth of a key, checked against a table -/
def xwordT (k : Nat) (F : Nat → Nat) (p i : Nat) : Nat → Nat := fun j =>
  if i % k = 0 then look boxT (F (4 * (i - 1) + (j + 1) % 4)) ^^^ (if j = 0 then p else 0)
  else if k = 8 ∧ i % 8 = 4 then look boxT (F (4 * (i - 1) + j)) else F (4 * (i - 1) + j)
def keyB (k n : Nat) (l ps : List Nat) : Bool :=
  (l.all fun v => decide (v < 256)) && look ps 0 == 1 && (List.range n).all fun t => look ps (t + 1) == xpow k (look ps t) (k + t) &&
    (List.range 4).all fun j => look l (4 * (k + t) + j) == (xwordT k (look l) (look ps t) (k + t) j ^^^ look l (4 * t + j))

theorem look_lt (l : List Nat) (h : (l.all fun v => decide (v < 256)) = true) (i : Nat) : look l i < 256 := by
  unfold look
  rw [List.getD_eq_getElem?_getD]
  cases hi : l[i]? with
  | none => exact (by decide : (0 : Nat) < 256)
  | some v =>
    have := List.all_eq_true.1 h v (List.mem_of_getElem? hi)
    simpa using this

theorem xp_look (k n : Nat) (l ps : List Nat) (hk : 0 < k) (h : keyB k n l ps = true) : ∀ t, t ≤ n → (∀ m, m < 4 * (k + t) → (xp k (look l) t).1 m = look l m) ∧ (xp k (look l) t).2 = look ps t := by
  unfold keyB at h
  simp only [Bool.and_eq_true, beq_iff_eq] at h
  obtain ⟨⟨hl, h0⟩, hall⟩ := h
  intro t
  induction t with
  | zero => intro _; exact ⟨fun _ _ => rfl, h0.symm⟩
  | succ t ih =>
    intro ht
    obtain ⟨ih1, ih2⟩ := ih (by omega)
    have h1 := List.all_eq_true.1 hall t (List.mem_range.2 (by omega))
    simp only [Bool.and_eq_true, beq_iff_eq] at h1
    obtain ⟨hp, hw⟩ := h1
    refine ⟨fun m hm => ?_, ?_⟩
    · simp only [xp, xstep]
      split
      · exact ih1 m (by omega)
      · have h2 := List.all_eq_true.1 hw (m - 4 * (k + t)) (List.mem_range.2 (by omega))
        simp only [beq_iff_eq] at h2
        rw [show 4 * (k + t) + (m - 4 * (k + t)) = m by omega] at h2
        rw [h2, ih1 _ (by omega), show 4 * (k + t - k) + (m - 4 * (k + t)) = 4 * t + (m - 4 * (k + t)) by omega]
        congr 1
        unfold xword xwordT
        rw [ih2]
        split
        · rw [boxP_look _ (by rw [ih1 _ (by omega)]; exact look_lt l hl _), ih1 _ (by omega)]
        · split
          · rw [boxP_look _ (by rw [ih1 _ (by omega)]; exact look_lt l hl _), ih1 _ (by omega)]
          · exact ih1 _ (by omega)
    · simp only [xp]
      rw [ih2, hp]

theorem xp_congr (k : Nat) (f g : Nat → Nat) (hk : 0 < k) (h : ∀ m, m < 4 * k → f m = g m) : ∀ t, (∀ m, m < 4 * (k + t) → (xp k f t).1 m = (xp k g t).1 m) ∧ (xp k f t).2 = (xp k g t).2 := by
  intro t
  induction t with
  | zero => exact ⟨h, rfl⟩
  | succ t ih =>
    obtain ⟨ih1, ih2⟩ := ih
    refine ⟨fun m hm => ?_, ?_⟩
    · simp only [xp, xstep]
      split
      · exact ih1 m (by omega)
      · rw [ih1 _ (by omega)]
        congr 1
        unfold xword
        rw [ih2]
        split
        · rw [ih1 _ (by omega)]
        · split
          · rw [ih1 _ (by omega)]
          · exact ih1 _ (by omega)
    · simp only [xp]
      rw [ih2]

theorem keysP_congr (k : Nat) (f g : Nat → Nat) (hk : 0 < k) (h : ∀ m, m < 4 * k → f m = g m) (r j : Nat) (hr : r < k + 7) (hj : j < 16) : keysP k f r j = keysP k g r j :=
  (xp_congr k f g hk h _).1 _ (by omega)

theorem keysP_look (k : Nat) (l ps : List Nat) (hk : 0 < k) (h : keyB k (4 * (k + 7) - k) l ps = true) (r j : Nat) (hr : r < k + 7) (hj : j < 16) : keysP k (look l) r j = look l (r * 16 + j) :=
  (xp_look k _ l ps hk h _ (Nat.le_refl _)).1 _ (by omega)

/-! ### The states of a block -/
def subT (a : Nat → Nat) : Nat → Nat := fun i => look boxT (a ((i + 4 * (i % 4)) % 16))
def roundT (last r : Nat) (a : Nat → Nat) : Nat → Nat := if r + 1 < last then mixP (subT a) else subT a
def statesB (n : Nat) (l x : List Nat) (S : List (List Nat)) : Bool :=
  (S.all fun s => s.all fun v => decide (v < 256)) && ((List.range 16).all fun j => look (S.getD 0 []) j == (look x j ^^^ look l j)) &&
  (List.range (n - 1)).all fun r => (List.range 16).all fun j => look (S.getD (r + 1) []) j == (roundT (n - 1) r (look (S.getD r [])) j ^^^ look l ((r + 1) * 16 + j))

theorem subP_look (a b : Nat → Nat) (h : ∀ i, i < 16 → a i = b i) (hb : ∀ i, b i < 256) (i : Nat) : subP a i = subT b i := by
  unfold subP subT
  rw [h _ (by omega), boxP_look _ (hb _)]
theorem mixP_congr (b c : Nat → Nat) (h : ∀ i, i < 16 → b i = c i) (t : Nat) (ht : t < 16) : mixP b t = mixP c t := by
  unfold mixP
  rw [h t ht, h _ (by omega), h _ (by omega), h _ (by omega), h _ (by omega), h _ (by omega)]
theorem roundP_look (last r : Nat) (a b : Nat → Nat) (h : ∀ i, i < 16 → a i = b i) (hb : ∀ i, b i < 256) (i : Nat) (hi : i < 16) : roundP last r a i = roundT last r b i := by
  unfold roundP roundT
  split
  · exact mixP_congr _ _ (fun i _ => subP_look a b h hb i) i hi
  · exact subP_look a b h hb i
theorem subP_congr (a b : Nat → Nat) (h : ∀ i, i < 16 → a i = b i) (i : Nat) : subP a i = subP b i := by
  unfold subP
  rw [h _ (by omega)]
theorem roundP_congr (last r : Nat) (a b : Nat → Nat) (h : ∀ i, i < 16 → a i = b i) (i : Nat) (hi : i < 16) : roundP last r a i = roundP last r b i := by
  unfold roundP
  split
  · exact mixP_congr _ _ (fun i _ => subP_congr a b h i) i hi
  · exact subP_congr a b h i
theorem stP_congr (last : Nat) (ks kt : Nat → Nat → Nat) (x y : Nat → Nat) (hx : ∀ j, j < 16 → x j = y j) : ∀ r, (∀ i, i ≤ r → ∀ j, j < 16 → ks i j = kt i j) → ∀ j, j < 16 → stP last ks x r j = stP last kt y r j := by
  intro r
  induction r with
  | zero => intro hk j hj; simp only [stP]; rw [hx j hj, hk 0 (by omega) j hj]
  | succ r ih =>
    intro hk j hj
    simp only [stP]
    rw [roundP_congr last r _ _ (ih (fun i hi => hk i (by omega))) j hj, hk (r + 1) (by omega) j hj]
theorem blockP_congr (n : Nat) (ks kt : Nat → Nat → Nat) (x y : Nat → Nat) (hn : 0 < n) (hx : ∀ j, j < 16 → x j = y j) (hk : ∀ i, i < n → ∀ j, j < 16 → ks i j = kt i j) : ∀ j, j < 16 → blockP n ks x j = blockP n kt y j :=
  stP_congr _ _ _ _ _ hx _ (fun i hi => hk i (by omega))

theorem stP_look (n : Nat) (l x : List Nat) (S : List (List Nat)) (h : statesB n l x S = true) : ∀ r, r ≤ n - 1 → ∀ j, j < 16 → stP (n - 1) (fun i j => look l (i * 16 + j)) (look x) r j = look (S.getD r []) j := by
  unfold statesB at h
  simp only [Bool.and_eq_true] at h
  obtain ⟨⟨hl, h0⟩, hall⟩ := h
  have hlt : ∀ r j, look (S.getD r []) j < 256 := by
    intro r j
    rw [List.getD_eq_getElem?_getD]
    cases hr : S[r]? with
    | none => exact (by decide : (0 : Nat) < 256)
    | some s => exact look_lt s (List.all_eq_true.1 hl s (List.mem_of_getElem? hr)) j
  intro r
  induction r with
  | zero =>
    intro _ j hj
    have := List.all_eq_true.1 h0 j (List.mem_range.2 hj)
    simp only [beq_iff_eq] at this
    simp only [stP]
    rw [this, Nat.zero_mul, Nat.zero_add]
  | succ r ih =>
    intro hr j hj
    have h1 := List.all_eq_true.1 hall r (List.mem_range.2 (by omega))
    have h2 := List.all_eq_true.1 h1 j (List.mem_range.2 hj)
    simp only [beq_iff_eq] at h2
    simp only [stP]
    rw [h2, roundP_look (n - 1) r _ _ (ih (by omega)) (hlt r) j hj]

theorem block_look (k : Nat) (f x : Nat → Nat) (l ps xl : List Nat) (S : List (List Nat)) (hk : 0 < k) (hkey : keyB k (4 * (k + 7) - k) l ps = true) (hst : statesB (k + 7) l xl S = true)
    (hf : ∀ m, m < 4 * k → f m = look l m) (hx : ∀ j, j < 16 → x j = look xl j) (j : Nat) (hj : j < 16) : blockP (k + 7) (keysP k f) x j = look (S.getD (k + 6) []) j := by
  have h1 := blockP_congr (k + 7) (keysP k f) (fun i j => look l (i * 16 + j)) x (look xl) (by omega) hx
    (fun i hi j hj => (keysP_congr k f (look l) hk hf i j hi hj).trans (keysP_look k l ps hk hkey i j hi hj)) j hj
  rw [h1]
  exact stP_look (k + 7) l xl S hst (k + 6) (by omega) j hj

/-! ### The known blocks -/
def x17 : List Nat := [0, 17, 34, 51, 68, 85, 102, 119, 136, 153, 170, 187, 204, 221, 238, 255]
def l4 : List Nat := [0, 1, 2, 3, 4, 5, 6, 7, 8, 9, 10, 11, 12, 13, 14, 15, 214, 170, 116, 253, 210, 175, 114, 250, 218, 166, 120, 241, 214, 171, 118, 254, 182, 146, 207, 11, 100, 61, 189, 241, 190, 155, 197, 0, 104, 48, 179, 254, 182, 255, 116, 78, 210, 194, 201, 191, 108, 89, 12, 191, 4, 105, 191, 65, 71, 247, 247, 188, 149, 53, 62, 3, 249, 108, 50, 188, 253, 5, 141, 253, 60, 170, 163, 232, 169, 159, 157, 235, 80, 243, 175, 87, 173, 246, 34, 170, 94, 57, 15, 125, 247, 166, 146, 150, 167, 85, 61, 193, 10, 163, 31, 107, 20, 249, 112, 26, 227, 95, 226, 140, 68, 10, 223, 77, 78, 169, 192, 38, 71, 67, 135, 53, 164, 28, 101, 185, 224, 22, 186, 244, 174, 191, 122, 210, 84, 153, 50, 209, 240, 133, 87, 104, 16, 147, 237, 156, 190, 44, 151, 78, 19, 17, 29, 127, 227, 148, 74, 23, 243, 7, 167, 139, 77, 43, 48, 197]
def p4 : List Nat := [1, 2, 2, 2, 2, 4, 4, 4, 4, 8, 8, 8, 8, 16, 16, 16, 16, 32, 32, 32, 32, 64, 64, 64, 64, 128, 128, 128, 128, 27, 27, 27, 27, 54, 54, 54, 54, 108, 108, 108, 108]
def s4 : List (List Nat) := [[0, 16, 32, 48, 64, 80, 96, 112, 128, 144, 160, 176, 192, 208, 224, 240], [137, 216, 16, 232, 133, 90, 206, 104, 45, 24, 67, 216, 203, 18, 143, 228], [73, 21, 89, 143, 85, 229, 215, 160, 218, 202, 148, 250, 31, 10, 99, 247], [250, 99, 106, 40, 37, 179, 57, 201, 64, 102, 138, 49, 87, 36, 77, 23], [36, 114, 64, 35, 105, 102, 179, 250, 110, 210, 117, 50, 136, 66, 91, 108], [200, 22, 119, 188, 155, 122, 201, 59, 37, 2, 121, 146, 176, 38, 25, 150], [198, 47, 225, 9, 247, 94, 237, 195, 204, 121, 57, 93, 132, 249, 207, 93], [209, 135, 108, 15, 121, 196, 48, 10, 180, 85, 148, 173, 214, 111, 244, 31], [253, 227, 186, 210, 5, 229, 208, 215, 53, 71, 150, 78, 241, 254, 55, 241], [189, 110, 124, 61, 242, 181, 119, 158, 11, 97, 33, 110, 139, 16, 182, 137], [105, 196, 224, 216, 106, 123, 4, 48, 216, 205, 183, 128, 112, 180, 197, 90]]
def l8 : List Nat := [0, 1, 2, 3, 4, 5, 6, 7, 8, 9, 10, 11, 12, 13, 14, 15, 16, 17, 18, 19, 20, 21, 22, 23, 24, 25, 26, 27, 28, 29, 30, 31, 165, 115, 194, 159, 161, 118, 196, 152, 169, 127, 206, 147, 165, 114, 192, 156, 22, 81, 168, 205, 2, 68, 190, 218, 26, 93, 164, 193, 6, 64, 186, 222, 174, 135, 223, 240, 15, 241, 27, 104, 166, 142, 213, 251, 3, 252, 21, 103, 109, 225, 241, 72, 111, 165, 79, 146, 117, 248, 235, 83, 115, 184, 81, 141, 198, 86, 130, 127, 201, 167, 153, 23, 111, 41, 76, 236, 108, 213, 89, 139, 61, 226, 58, 117, 82, 71, 117, 231, 39, 191, 158, 180, 84, 7, 207, 57, 11, 220, 144, 95, 194, 123, 9, 72, 173, 82, 69, 164, 193, 135, 28, 47, 69, 245, 166, 96, 23, 178, 211, 135, 48, 13, 77, 51, 100, 10, 130, 10, 124, 207, 247, 28, 190, 180, 254, 84, 19, 230, 187, 240, 210, 97, 167, 223, 240, 26, 250, 254, 231, 168, 41, 121, 215, 165, 100, 74, 179, 175, 230, 64, 37, 65, 254, 113, 155, 245, 0, 37, 136, 19, 187, 213, 90, 114, 28, 10, 78, 90, 102, 153, 169, 242, 79, 224, 126, 87, 43, 170, 205, 248, 205, 234, 36, 252, 121, 204, 191, 9, 121, 233, 55, 26, 194, 60, 109, 104, 222, 54]
def p8 : List Nat := [1, 2, 2, 2, 2, 2, 2, 2, 2, 4, 4, 4, 4, 4, 4, 4, 4, 8, 8, 8, 8, 8, 8, 8, 8, 16, 16, 16, 16, 16, 16, 16, 16, 32, 32, 32, 32, 32, 32, 32, 32, 64, 64, 64, 64, 64, 64, 64, 64, 128, 128, 128, 128]
def s8 : List (List Nat) := [[0, 16, 32, 48, 64, 80, 96, 112, 128, 144, 160, 176, 192, 208, 224, 240], [79, 99, 118, 6, 67, 224, 170, 133, 239, 167, 33, 50, 1, 164, 231, 5], [24, 89, 251, 194, 138, 28, 0, 160, 120, 237, 138, 173, 196, 47, 97, 9], [151, 92, 102, 193, 203, 159, 63, 168, 169, 58, 40, 223, 142, 225, 15, 99], [28, 5, 242, 113, 164, 23, 224, 79, 249, 33, 197, 193, 4, 112, 21, 84], [195, 87, 170, 225, 27, 69, 183, 176, 162, 199, 189, 40, 168, 220, 153, 250], [127, 7, 65, 67, 203, 78, 36, 62, 193, 12, 129, 93, 131, 117, 213, 76], [214, 83, 164, 105, 108, 160, 188, 15, 90, 202, 171, 93, 185, 108, 94, 125], [90, 168, 88, 57, 95, 210, 141, 125, 5, 225, 163, 136, 104, 243, 185, 197], [74, 130, 72, 81, 197, 126, 126, 71, 100, 61, 229, 12, 42, 243, 232, 201], [193, 73, 7, 246, 202, 59, 58, 160, 112, 233, 170, 49, 59, 82, 181, 236], [95, 156, 106, 191, 186, 198, 52, 170, 80, 64, 159, 167, 102, 103, 118, 83], [81, 102, 4, 149, 67, 83, 149, 3, 20, 251, 134, 228, 1, 146, 37, 33], [98, 123, 206, 185, 153, 157, 90, 170, 201, 69, 236, 244, 35, 245, 109, 165], [142, 162, 183, 202, 81, 103, 69, 191, 234, 252, 73, 144, 75, 73, 96, 137]]
def lz : List Nat := [0, 0, 0, 0, 0, 0, 0, 0, 0, 0, 0, 0, 0, 0, 0, 0, 98, 99, 99, 99, 98, 99, 99, 99, 98, 99, 99, 99, 98, 99, 99, 99, 155, 152, 152, 201, 249, 251, 251, 170, 155, 152, 152, 201, 249, 251, 251, 170, 144, 151, 52, 80, 105, 108, 207, 250, 242, 244, 87, 51, 11, 15, 172, 153, 238, 6, 218, 123, 135, 106, 21, 129, 117, 158, 66, 178, 126, 145, 238, 43, 127, 46, 43, 136, 248, 68, 62, 9, 141, 218, 124, 187, 243, 75, 146, 144, 236, 97, 75, 133, 20, 37, 117, 140, 153, 255, 9, 55, 106, 180, 155, 167, 33, 117, 23, 135, 53, 80, 98, 11, 172, 175, 107, 60, 198, 27, 240, 155, 14, 249, 3, 51, 59, 169, 97, 56, 151, 6, 10, 4, 81, 29, 250, 159, 177, 212, 216, 226, 138, 125, 185, 218, 29, 123, 179, 222, 76, 102, 73, 65, 180, 239, 91, 203, 62, 146, 226, 17, 35, 233, 81, 207, 111, 143, 24, 142]
def pz : List Nat := [1, 2, 2, 2, 2, 4, 4, 4, 4, 8, 8, 8, 8, 16, 16, 16, 16, 32, 32, 32, 32, 64, 64, 64, 64, 128, 128, 128, 128, 27, 27, 27, 27, 54, 54, 54, 54, 108, 108, 108, 108]
def sz : List (List Nat) := [[0, 0, 0, 0, 0, 0, 0, 0, 0, 0, 0, 0, 0, 0, 0, 0], [1, 0, 0, 0, 1, 0, 0, 0, 1, 0, 0, 0, 1, 0, 0, 0], [198, 228, 228, 139, 164, 135, 135, 232, 198, 228, 228, 139, 164, 135, 135, 232], [40, 45, 243, 196, 106, 243, 134, 37, 74, 78, 144, 167, 8, 144, 229, 70], [171, 210, 205, 254, 55, 90, 181, 73, 80, 160, 175, 192, 117, 154, 106, 95], [212, 111, 79, 108, 85, 184, 150, 51, 126, 5, 187, 61, 121, 121, 222, 35], [4, 242, 202, 151, 7, 120, 40, 69, 226, 47, 1, 150, 73, 197, 215, 16], [183, 170, 228, 197, 29, 37, 45, 79, 108, 146, 15, 129, 148, 229, 129, 80], [35, 231, 140, 60, 19, 33, 99, 219, 170, 192, 198, 87, 46, 3, 203, 149], [127, 254, 14, 149, 81, 165, 102, 53, 14, 52, 124, 71, 41, 41, 236, 203], [102, 233, 75, 212, 239, 138, 44, 59, 136, 76, 250, 89, 202, 52, 43, 46]]
theorem known4 (x : Nat → Nat) (f : Nat → Nat) (hf : ∀ m, m < 16 → f m = m) (hx : ∀ j, j < 16 → x j = j * 17) (j : Nat) (hj : j < 16) : blockP 11 (keysP 4 f) x j = look (s4.getD 10 []) j :=
  block_look 4 f x l4 p4 x17 s4 (by omega) (by kernel_rfl) (by kernel_rfl) (fun m hm => by
    have : (List.range 16).all (fun m => m == look l4 m) = true := by kernel_rfl
    have := List.all_eq_true.1 this m (List.mem_range.2 hm)
    rw [hf m hm]
    simpa using this) (fun m hm => by
    have : (List.range 16).all (fun m => m * 17 == look x17 m) = true := by kernel_rfl
    have := List.all_eq_true.1 this m (List.mem_range.2 hm)
    rw [hx m hm]
    simpa using this) j hj
theorem known8 (x : Nat → Nat) (f : Nat → Nat) (hf : ∀ m, m < 32 → f m = m) (hx : ∀ j, j < 16 → x j = j * 17) (j : Nat) (hj : j < 16) : blockP 15 (keysP 8 f) x j = look (s8.getD 14 []) j :=
  block_look 8 f x l8 p8 x17 s8 (by omega) (by kernel_rfl) (by kernel_rfl) (fun m hm => by
    have : (List.range 32).all (fun m => m == look l8 m) = true := by kernel_rfl
    have := List.all_eq_true.1 this m (List.mem_range.2 hm)
    rw [hf m hm]
    simpa using this) (fun m hm => by
    have : (List.range 16).all (fun m => m * 17 == look x17 m) = true := by kernel_rfl
    have := List.all_eq_true.1 this m (List.mem_range.2 hm)
    rw [hx m hm]
    simpa using this) j hj
theorem knownZ (x : Nat → Nat) (f : Nat → Nat) (hf : ∀ m, m < 16 → f m = 0) (hx : ∀ j, j < 16 → x j = 0) (j : Nat) (hj : j < 16) : blockP 11 (keysP 4 f) x j = look (sz.getD 10 []) j :=
  block_look 4 f x lz pz [] sz (by omega) (by kernel_rfl) (by kernel_rfl) (fun m hm => by
    have : (List.range 16).all (fun m => 0 == look lz m) = true := by kernel_rfl
    have := List.all_eq_true.1 this m (List.mem_range.2 hm)
    rw [hf m hm]
    simpa using this) (fun m hm => by rw [hx m hm]; rfl) j hj

end Go.Proofs.Ytnigpobbckampaa
