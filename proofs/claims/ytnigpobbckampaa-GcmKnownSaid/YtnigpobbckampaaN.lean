/- Plain: tables of inverses and boxes, and the known blocks, state by state; each table is held to the definitions by the kernel. Plain: the field of bytes. Plain: the box has each byte once; a block's rounds lose nothing. -/
import Derived.Test.YtnigpobbckampaaM
import Derived.Test.YtnigpobbckampaaK
namespace Go.Proofs.Ytnigpobbckampaa
set_option linter.unusedSimpArgs false
set_option linter.unusedVariables false

def look (l : List Nat) (i : Nat) : Nat := l.getD i 0
def invT : List Nat := [0, 1, 141, 246, 203, 82, 123, 209, 232, 79, 41, 192, 176, 225, 229, 199, 116, 180, 170, 75, 153, 43, 96, 95, 88, 63, 253, 204, 255, 64, 238, 178, 58, 110, 90, 241, 85, 77, 168, 201, 193, 10, 152, 21, 48, 68, 162, 194, 44, 69, 146, 108, 243, 57, 102, 66, 242, 53, 32, 111, 119, 187, 89, 25, 29, 254, 55, 103, 45, 49, 245, 105, 167, 100, 171, 19, 84, 37, 233, 9, 237, 92, 5, 202, 76, 36, 135, 191, 24, 62, 34, 240, 81, 236, 97, 23, 22, 94, 175, 211, 73, 166, 54, 67, 244, 71, 145, 223, 51, 147, 33, 59, 121, 183, 151, 133, 16, 181, 186, 60, 182, 112, 208, 6, 161, 250, 129, 130, 131, 126, 127, 128, 150, 115, 190, 86, 155, 158, 149, 217, 247, 2, 185, 164, 222, 106, 50, 109, 216, 138, 132, 114, 42, 20, 159, 136, 249, 220, 137, 154, 251, 124, 46, 195, 143, 184, 101, 72, 38, 200, 18, 74, 206, 231, 210, 98, 12, 224, 31, 239, 17, 117, 120, 113, 165, 142, 118, 61, 189, 188, 134, 87, 11, 40, 47, 163, 218, 212, 228, 15, 169, 39, 83, 4, 27, 252, 172, 230, 122, 7, 174, 99, 197, 219, 226, 234, 148, 139, 196, 213, 157, 248, 144, 107, 177, 13, 214, 235, 198, 14, 207, 173, 8, 78, 215, 227, 93, 80, 30, 179, 91, 35, 56, 52, 104, 70, 3, 140, 221, 156, 125, 160, 205, 26, 65, 28]
def boxT : List Nat := [99, 124, 119, 123, 242, 107, 111, 197, 48, 1, 103, 43, 254, 215, 171, 118, 202, 130, 201, 125, 250, 89, 71, 240, 173, 212, 162, 175, 156, 164, 114, 192, 183, 253, 147, 38, 54, 63, 247, 204, 52, 165, 229, 241, 113, 216, 49, 21, 4, 199, 35, 195, 24, 150, 5, 154, 7, 18, 128, 226, 235, 39, 178, 117, 9, 131, 44, 26, 27, 110, 90, 160, 82, 59, 214, 179, 41, 227, 47, 132, 83, 209, 0, 237, 32, 252, 177, 91, 106, 203, 190, 57, 74, 76, 88, 207, 208, 239, 170, 251, 67, 77, 51, 133, 69, 249, 2, 127, 80, 60, 159, 168, 81, 163, 64, 143, 146, 157, 56, 245, 188, 182, 218, 33, 16, 255, 243, 210, 205, 12, 19, 236, 95, 151, 68, 23, 196, 167, 126, 61, 100, 93, 25, 115, 96, 129, 79, 220, 34, 42, 144, 136, 70, 238, 184, 20, 222, 94, 11, 219, 224, 50, 58, 10, 73, 6, 36, 92, 194, 211, 172, 98, 145, 149, 228, 121, 231, 200, 55, 109, 141, 213, 78, 169, 108, 86, 244, 234, 101, 122, 174, 8, 186, 120, 37, 46, 28, 166, 180, 198, 232, 221, 116, 31, 75, 189, 139, 138, 112, 62, 181, 102, 72, 3, 246, 14, 97, 53, 87, 185, 134, 193, 29, 158, 225, 248, 152, 17, 105, 217, 142, 148, 155, 30, 135, 233, 206, 85, 40, 223, 140, 161, 137, 13, 191, 230, 66, 104, 65, 153, 45, 15, 176, 84, 187, 22]
theorem invT_ok : (List.range 256).all (fun a => invP a == look invT a) = true := by kernel_rfl
theorem boxT_ok : (List.range 256).all (fun a => boxA (look invT a) == look boxT a) = true := by kernel_rfl
theorem invP_look (a : Nat) (h : a < 256) : invP a = look invT a := by
  have := List.all_eq_true.1 invT_ok a (List.mem_range.2 h)
  simpa using this
theorem boxP_look (a : Nat) (h : a < 256) : boxP a = look boxT a := by
  have := List.all_eq_true.1 boxT_ok a (List.mem_range.2 h)
  unfold boxP
  rw [invP_look a h]
  simpa using this

/-! ### The growth of a key, checked against a table -/
def xwordT (k : Nat) (F : Nat → Nat) (p i : Nat) : Nat → Nat := fun j =>
  if i % k = 0 then look boxT (F (4 * (i - 1) + (j + 1) % 4)) ^^^ (if j = 0 then p else 0)
  else if k = 8 ∧ i % 8 = 4 then look boxT (F (4 * (i - 1) + j)) else F (4 * (i - 1) + j)
def keyB (k n : Nat) (l ps : List Nat) : Bool :=
  (l.all fun v => decide (v < 256)) && look ps 0 == 1 && (List.range n).all fun t => look ps (t + 1) == xpow k (look ps t) (k + t) &&
    (List.range 4).all fun j => look l (4 * (k + t) + j) == (xwordT k (look l) (look ps t) (k + t) j ^^^ look l (4 * t + j))

theorem look_lt (l : List Nat) (h : (l.all fun v => decide (v < 256)) = true) (i : Nat) : look l i < 256 := by
  unfold look
  rw [List.getD_eq_getElem?_getD]
  cases hi : l[i]? with
  | none => exact (by decide : (0 : Nat) < 256)
  | some v =>
    have := List.all_eq_true.1 h v (List.mem_of_getElem? hi)
    simpa using this

theorem xp_look (k n : Nat) (l ps : List Nat) (hk : 0 < k) (h : keyB k n l ps = true) : ∀ t, t ≤ n → (∀ m, m < 4 * (k + t) → (xp k (look l) t).1 m = look l m) ∧ (xp k (look l) t).2 = look ps t := by
  unfold keyB at h
  simp only [Bool.and_eq_true, beq_iff_eq] at h
  obtain ⟨⟨hl, h0⟩, hall⟩ := h
  intro t
  induction t with
  | zero => intro _; exact ⟨fun _ _ => rfl, h0.symm⟩
  | succ t ih =>
    intro ht
    obtain ⟨ih1, ih2⟩ := ih (by omega)
    have h1 := List.all_eq_true.1 hall t (List.mem_range.2 (by omega))
    simp only [Bool.and_eq_true, beq_iff_eq] at h1
    obtain ⟨hp, hw⟩ := h1
    refine ⟨fun m hm => ?_, ?_⟩
    · simp only [xp, xstep]
      split
      · exact ih1 m (by omega)
      · have h2 := List.all_eq_true.1 hw (m - 4 * (k + t)) (List.mem_range.2 (by omega))
        simp only [beq_iff_eq] at h2
        rw [show 4 * (k + t) + (m - 4 * (k + t)) = m by omega] at h2
        rw [h2, ih1 _ (by omega), show 4 * (k + t - k) + (m - 4 * (k + t)) = 4 * t + (m - 4 * (k + t)) by omega]
        congr 1
        unfold xword xwordT
        rw [ih2]
        split
        · rw [boxP_look _ (by rw [ih1 _ (by omega)]; exact look_lt l hl _), ih1 _ (by omega)]
        · split
          · rw [boxP_look _ (by rw [ih1 _ (by omega)]; exact look_lt l hl _), ih1 _ (by omega)]
          · exact ih1 _ (by omega)
    · simp only [xp]
      rw [ih2, hp]

theorem xp_congr (k : Nat) (f g : Nat → Nat) (hk : 0 < k) (h : ∀ m, m < 4 * k → f m = g m) : ∀ t, (∀ m, m < 4 * (k + t) → (xp k f t).1 m = (xp k g t).1 m) ∧ (xp k f t).2 = (xp k g t).2 := by
  intro t
  induction t with
  | zero => exact ⟨h, rfl⟩
  | succ t ih =>
    obtain ⟨ih1, ih2⟩ := ih
    refine ⟨fun m hm => ?_, ?_⟩
    · simp only [xp, xstep]
      split
      · exact ih1 m (by omega)
      · rw [ih1 _ (by omega)]
        congr 1
        unfold xword
        rw [ih2]
        split
        · rw [ih1 _ (by omega)]
        · split
          · rw [ih1 _ (by omega)]
          · exact ih1 _ (by omega)
    · simp only [xp]
      rw [ih2]

theorem keysP_congr (k : Nat) (f g : Nat → Nat) (hk : 0 < k) (h : ∀ m, m < 4 * k → f m = g m) (r j : Nat) (hr : r < k + 7) (hj : j < 16) : keysP k f r j = keysP k g r j :=
  (xp_congr k f g hk h _).1 _ (by omega)

theorem keysP_look (k : Nat) (l ps : List Nat) (hk : 0 < k) (h : keyB k (4 * (k + 7) - k) l ps = true) (r j : Nat) (hr : r < k + 7) (hj : j < 16) : keysP k (look l) r j = look l (r * 16 + j) :=
  (xp_look k _ l ps hk h _ (Nat.le_refl _)).1 _ (by omega)

/-! ### The states of a block -/
def subT (a : Nat → Nat) : Nat → Nat := fun i => look boxT (a ((i + 4 * (i % 4)) % 16))
def roundT (last r : Nat) (a : Nat → Nat) : Nat → Nat := if r + 1 < last then mixP (subT a) else subT a
def statesB (n : Nat) (l x : List Nat) (S : List (List Nat)) : Bool :=
  (S.all fun s => s.all fun v => decide (v < 256)) && ((List.range 16).all fun j => look (S.getD 0 []) j == (look x j ^^^ look l j)) &&
  (List.range (n - 1)).all fun r => (List.range 16).all fun j => look (S.getD (r + 1) []) j == (roundT (n - 1) r (look (S.getD r [])) j ^^^ look l ((r + 1) * 16 + j))

theorem subP_look (a b : Nat → Nat) (h : ∀ i, i < 16 → a i = b i) (hb : ∀ i, b i < 256) (i : Nat) : subP a i = subT b i := by
  unfold subP subT
  rw [h _ (by omega), boxP_look _ (hb _)]
theorem mixP_congr (b c : Nat → Nat) (h : ∀ i, i < 16 → b i = c i) (t : Nat) (ht : t < 16) : mixP b t = mixP c t := by
  unfold mixP
  rw [h t ht, h _ (by omega), h _ (by omega), h _ (by omega), h _ (by omega), h _ (by omega)]
theorem roundP_look (last r : Nat) (a b : Nat → Nat) (h : ∀ i, i < 16 → a i = b i) (hb : ∀ i, b i < 256) (i : Nat) (hi : i < 16) : roundP last r a i = roundT last r b i := by
  unfold roundP roundT
  split
  · exact mixP_congr _ _ (fun i _ => subP_look a b h hb i) i hi
  · exact subP_look a b h hb i
theorem subP_congr (a b : Nat → Nat) (h : ∀ i, i < 16 → a i = b i) (i : Nat) : subP a i = subP b i := by
  unfold subP
  rw [h _ (by omega)]
theorem roundP_congr (last r : Nat) (a b : Nat → Nat) (h : ∀ i, i < 16 → a i = b i) (i : Nat) (hi : i < 16) : roundP last r a i = roundP last r b i := by
  unfold roundP
  split
  · exact mixP_congr _ _ (fun i _ => subP_congr a b h i) i hi
  · exact subP_congr a b h i
theorem stP_congr (last : Nat) (ks kt : Nat → Nat → Nat) (x y : Nat → Nat) (hx : ∀ j, j < 16 → x j = y j) : ∀ r, (∀ i, i ≤ r → ∀ j, j < 16 → ks i j = kt i j) → ∀ j, j < 16 → stP last ks x r j = stP last kt y r j := by
  intro r
  induction r with
  | zero => intro hk j hj; simp only [stP]; rw [hx j hj, hk 0 (by omega) j hj]
  | succ r ih =>
    intro hk j hj
    simp only [stP]
    rw [roundP_congr last r _ _ (ih (fun i hi => hk i (by omega))) j hj, hk (r + 1) (by omega) j hj]
theorem blockP_congr (n : Nat) (ks kt : Nat → Nat → Nat) (x y : Nat → Nat) (hn : 0 < n) (hx : ∀ j, j < 16 → x j = y j) (hk : ∀ i, i < n → ∀ j, j < 16 → ks i j = kt i j) : ∀ j, j < 16 → blockP n ks x j = blockP n kt y j :=
  stP_congr _ _ _ _ _ hx _ (fun i hi => hk i (by omega))

theorem stP_look (n : Nat) (l x : List Nat) (S : List (List Nat)) (h : statesB n l x S = true) : ∀ r, r ≤ n - 1 → ∀ j, j < 16 → stP (n - 1) (fun i j => look l (i * 16 + j)) (look x) r j = look (S.getD r []) j := by
  unfold statesB at h
  simp only [Bool.and_eq_true] at h
  obtain ⟨⟨hl, h0⟩, hall⟩ := h
  have hlt : ∀ r j, look (S.getD r []) j < 256 := by
    intro r j
    rw [List.getD_eq_getElem?_getD]
    cases hr : S[r]? with
    | none => exact (by decide : (0 : Nat) < 256)
    | some s => exact look_lt s (List.all_eq_true.1 hl s (List.mem_of_getElem? hr)) j
  intro r
  induction r with
  | zero =>
    intro _ j hj
    have := List.all_eq_true.1 h0 j (List.mem_range.2 hj)
    simp only [beq_iff_eq] at this
    simp only [stP]
    rw [this, Nat.zero_mul, Nat.zero_add]
  | succ r ih =>
    intro hr j hj
    have h1 := List.all_eq_true.1 hall r (List.mem_range.2 (by omega))
    have h2 := List.all_eq_true.1 h1 j (List.mem_range.2 hj)
    simp only [beq_iff_eq] at h2
    simp only [stP]
    rw [h2, roundP_look (n - 1) r _ _ (ih (by omega)) (hlt r) j hj]

theorem block_look (k : Nat) (f x : Nat → Nat) (l ps xl : List Nat) (S : List (List Nat)) (hk : 0 < k) (hkey : keyB k (4 * (k + 7) - k) l ps = true) (hst : statesB (k + 7) l xl S = true)
    (hf : ∀ m, m < 4 * k → f m = look l m) (hx : ∀ j, j < 16 → x j = look xl j) (j : Nat) (hj : j < 16) : blockP (k + 7) (keysP k f) x j = look (S.getD (k + 6) []) j := by
  have h1 := blockP_congr (k + 7) (keysP k f) (fun i j => look l (i * 16 + j)) x (look xl) (by omega) hx
    (fun i hi j hj => (keysP_congr k f (look l) hk hf i j hi hj).trans (keysP_look k l ps hk hkey i j hi hj)) j hj
  rw [h1]
  exact stP_look (k + 7) l xl S hst (k + 6) (by omega) j hj

/-! ### The known blocks -/
def x17 : List Nat := [0, 17, 34, 51, 68, 85, 102, 119, 136, 153, 170, 187, 204, 221, 238, 255]
def l4 : List Nat := [0, 1, 2, 3, 4, 5, 6, 7, 8, 9, 10, 11, 12, 13, 14, 15, 214, 170, 116, 253, 210, 175, 114, 250, 218, 166, 120, 241, 214, 171, 118, 254, 182, 146, 207, 11, 100, 61, 189, 241, 190, 155, 197, 0, 104, 48, 179, 254, 182, 255, 116, 78, 210, 194, 201, 191, 108, 89, 12, 191, 4, 105, 191, 65, 71, 247, 247, 188, 149, 53, 62, 3, 249, 108, 50, 188, 253, 5, 141, 253, 60, 170, 163, 232, 169, 159, 157, 235, 80, 243, 175, 87, 173, 246, 34, 170, 94, 57, 15, 125, 247, 166, 146, 150, 167, 85, 61, 193, 10, 163, 31, 107, 20, 249, 112, 26, 227, 95, 226, 140, 68, 10, 223, 77, 78, 169, 192, 38, 71, 67, 135, 53, 164, 28, 101, 185, 224, 22, 186, 244, 174, 191, 122, 210, 84, 153, 50, 209, 240, 133, 87, 104, 16, 147, 237, 156, 190, 44, 151, 78, 19, 17, 29, 127, 227, 148, 74, 23, 243, 7, 167, 139, 77, 43, 48, 197]
def p4 : List Nat := [1, 2, 2, 2, 2, 4, 4, 4, 4, 8, 8, 8, 8, 16, 16, 16, 16, 32, 32, 32, 32, 64, 64, 64, 64, 128, 128, 128, 128, 27, 27, 27, 27, 54, 54, 54, 54, 108, 108, 108, 108]
def s4 : List (List Nat) := [[0, 16, 32, 48, 64, 80, 96, 112, 128, 144, 160, 176, 192, 208, 224, 240], [137, 216, 16, 232, 133, 90, 206, 104, 45, 24, 67, 216, 203, 18, 143, 228], [73, 21, 89, 143, 85, 229, 215, 160, 218, 202, 148, 250, 31, 10, 99, 247], [250, 99, 106, 40, 37, 179, 57, 201, 64, 102, 138, 49, 87, 36, 77, 23], [36, 114, 64, 35, 105, 102, 179, 250, 110, 210, 117, 50, 136, 66, 91, 108], [200, 22, 119, 188, 155, 122, 201, 59, 37, 2, 121, 146, 176, 38, 25, 150], [198, 47, 225, 9, 247, 94, 237, 195, 204, 121, 57, 93, 132, 249, 207, 93], [209, 135, 108, 15, 121, 196, 48, 10, 180, 85, 148, 173, 214, 111, 244, 31], [253, 227, 186, 210, 5, 229, 208, 215, 53, 71, 150, 78, 241, 254, 55, 241], [189, 110, 124, 61, 242, 181, 119, 158, 11, 97, 33, 110, 139, 16, 182, 137], [105, 196, 224, 216, 106, 123, 4, 48, 216, 205, 183, 128, 112, 180, 197, 90]]
def l8 : List Nat := [0, 1, 2, 3, 4, 5, 6, 7, 8, 9, 10, 11, 12, 13, 14, 15, 16, 17, 18, 19, 20, 21, 22, 23, 24, 25, 26, 27, 28, 29, 30, 31, 165, 115, 194, 159, 161, 118, 196, 152, 169, 127, 206, 147, 165, 114, 192, 156, 22, 81, 168, 205, 2, 68, 190, 218, 26, 93, 164, 193, 6, 64, 186, 222, 174, 135, 223, 240, 15, 241, 27, 104, 166, 142, 213, 251, 3, 252, 21, 103, 109, 225, 241, 72, 111, 165, 79, 146, 117, 248, 235, 83, 115, 184, 81, 141, 198, 86, 130, 127, 201, 167, 153, 23, 111, 41, 76, 236, 108, 213, 89, 139, 61, 226, 58, 117, 82, 71, 117, 231, 39, 191, 158, 180, 84, 7, 207, 57, 11, 220, 144, 95, 194, 123, 9, 72, 173, 82, 69, 164, 193, 135, 28, 47, 69, 245, 166, 96, 23, 178, 211, 135, 48, 13, 77, 51, 100, 10, 130, 10, 124, 207, 247, 28, 190, 180, 254, 84, 19, 230, 187, 240, 210, 97, 167, 223, 240, 26, 250, 254, 231, 168, 41, 121, 215, 165, 100, 74, 179, 175, 230, 64, 37, 65, 254, 113, 155, 245, 0, 37, 136, 19, 187, 213, 90, 114, 28, 10, 78, 90, 102, 153, 169, 242, 79, 224, 126, 87, 43, 170, 205, 248, 205, 234, 36, 252, 121, 204, 191, 9, 121, 233, 55, 26, 194, 60, 109, 104, 222, 54]
def p8 : List Nat := [1, 2, 2, 2, 2, 2, 2, 2, 2, 4, 4, 4, 4, 4, 4, 4, 4, 8, 8, 8, 8, 8, 8, 8, 8, 16, 16, 16, 16, 16, 16, 16, 16, 32, 32, 32, 32, 32, 32, 32, 32, 64, 64, 64, 64, 64, 64, 64, 64, 128, 128, 128, 128]
def s8 : List (List Nat) := [[0, 16, 32, 48, 64, 80, 96, 112, 128, 144, 160, 176, 192, 208, 224, 240], [79, 99, 118, 6, 67, 224, 170, 133, 239, 167, 33, 50, 1, 164, 231, 5], [24, 89, 251, 194, 138, 28, 0, 160, 120, 237, 138, 173, 196, 47, 97, 9], [151, 92, 102, 193, 203, 159, 63, 168, 169, 58, 40, 223, 142, 225, 15, 99], [28, 5, 242, 113, 164, 23, 224, 79, 249, 33, 197, 193, 4, 112, 21, 84], [195, 87, 170, 225, 27, 69, 183, 176, 162, 199, 189, 40, 168, 220, 153, 250], [127, 7, 65, 67, 203, 78, 36, 62, 193, 12, 129, 93, 131, 117, 213, 76], [214, 83, 164, 105, 108, 160, 188, 15, 90, 202, 171, 93, 185, 108, 94, 125], [90, 168, 88, 57, 95, 210, 141, 125, 5, 225, 163, 136, 104, 243, 185, 197], [74, 130, 72, 81, 197, 126, 126, 71, 100, 61, 229, 12, 42, 243, 232, 201], [193, 73, 7, 246, 202, 59, 58, 160, 112, 233, 170, 49, 59, 82, 181, 236], [95, 156, 106, 191, 186, 198, 52, 170, 80, 64, 159, 167, 102, 103, 118, 83], [81, 102, 4, 149, 67, 83, 149, 3, 20, 251, 134, 228, 1, 146, 37, 33], [98, 123, 206, 185, 153, 157, 90, 170, 201, 69, 236, 244, 35, 245, 109, 165], [142, 162, 183, 202, 81, 103, 69, 191, 234, 252, 73, 144, 75, 73, 96, 137]]
def lz : List Nat := [0, 0, 0, 0, 0, 0, 0, 0, 0, 0, 0, 0, 0, 0, 0, 0, 98, 99, 99, 99, 98, 99, 99, 99, 98, 99, 99, 99, 98, 99, 99, 99, 155, 152, 152, 201, 249, 251, 251, 170, 155, 152, 152, 201, 249, 251, 251, 170, 144, 151, 52, 80, 105, 108, 207, 250, 242, 244, 87, 51, 11, 15, 172, 153, 238, 6, 218, 123, 135, 106, 21, 129, 117, 158, 66, 178, 126, 145, 238, 43, 127, 46, 43, 136, 248, 68, 62, 9, 141, 218, 124, 187, 243, 75, 146, 144, 236, 97, 75, 133, 20, 37, 117, 140, 153, 255, 9, 55, 106, 180, 155, 167, 33, 117, 23, 135, 53, 80, 98, 11, 172, 175, 107, 60, 198, 27, 240, 155, 14, 249, 3, 51, 59, 169, 97, 56, 151, 6, 10, 4, 81, 29, 250, 159, 177, 212, 216, 226, 138, 125, 185, 218, 29, 123, 179, 222, 76, 102, 73, 65, 180, 239, 91, 203, 62, 146, 226, 17, 35, 233, 81, 207, 111, 143, 24, 142]
def pz : List Nat := [1, 2, 2, 2, 2, 4, 4, 4, 4, 8, 8, 8, 8, 16, 16, 16, 16, 32, 32, 32, 32, 64, 64, 64, 64, 128, 128, 128, 128, 27, 27, 27, 27, 54, 54, 54, 54, 108, 108, 108, 108]
def sz : List (List Nat) := [[0, 0, 0, 0, 0, 0, 0, 0, 0, 0, 0, 0, 0, 0, 0, 0], [1, 0, 0, 0, 1, 0, 0, 0, 1, 0, 0, 0, 1, 0, 0, 0], [198, 228, 228, 139, 164, 135, 135, 232, 198, 228, 228, 139, 164, 135, 135, 232], [40, 45, 243, 196, 106, 243, 134, 37, 74, 78, 144, 167, 8, 144, 229, 70], [171, 210, 205, 254, 55, 90, 181, 73, 80, 160, 175, 192, 117, 154, 106, 95], [212, 111, 79, 108, 85, 184, 150, 51, 126, 5, 187, 61, 121, 121, 222, 35], [4, 242, 202, 151, 7, 120, 40, 69, 226, 47, 1, 150, 73, 197, 215, 16], [183, 170, 228, 197, 29, 37, 45, 79, 108, 146, 15, 129, 148, 229, 129, 80], [35, 231, 140, 60, 19, 33, 99, 219, 170, 192, 198, 87, 46, 3, 203, 149], [127, 254, 14, 149, 81, 165, 102, 53, 14, 52, 124, 71, 41, 41, 236, 203], [102, 233, 75, 212, 239, 138, 44, 59, 136, 76, 250, 89, 202, 52, 43, 46]]
theorem known4 (x : Nat → Nat) (f : Nat → Nat) (hf : ∀ m, m < 16 → f m = m) (hx : ∀ j, j < 16 → x j = j * 17) (j : Nat) (hj : j < 16) : blockP 11 (keysP 4 f) x j = look (s4.getD 10 []) j :=
  block_look 4 f x l4 p4 x17 s4 (by omega) (by kernel_rfl) (by kernel_rfl) (fun m hm => by
    have : (List.range 16).all (fun m => m == look l4 m) = true := by kernel_rfl
    have := List.all_eq_true.1 this m (List.mem_range.2 hm)
    rw [hf m hm]
    simpa using this) (fun m hm => by
    have : (List.range 16).all (fun m => m * 17 == look x17 m) = true := by kernel_rfl
    have := List.all_eq_true.1 this m (List.mem_range.2 hm)
    rw [hx m hm]
    simpa using this) j hj
theorem known8 (x : Nat → Nat) (f : Nat → Nat) (hf : ∀ m, m < 32 → f m = m) (hx : ∀ j, j < 16 → x j = j * 17) (j : Nat) (hj : j < 16) : blockP 15 (keysP 8 f) x j = look (s8.getD 14 []) j :=
  block_look 8 f x l8 p8 x17 s8 (by omega) (by kernel_rfl) (by kernel_rfl) (fun m hm => by
    have : (List.range 32).all (fun m => m == look l8 m) = true := by kernel_rfl
    have := List.all_eq_true.1 this m (List.mem_range.2 hm)
    rw [hf m hm]
    simpa using this) (fun m hm => by
    have : (List.range 16).all (fun m => m * 17 == look x17 m) = true := by kernel_rfl
    have := List.all_eq_true.1 this m (List.mem_range.2 hm)
    rw [hx m hm]
    simpa using this) j hj
theorem knownZ (x : Nat → Nat) (f : Nat → Nat) (hf : ∀ m, m < 16 → f m = 0) (hx : ∀ j, j < 16 → x j = 0) (j : Nat) (hj : j < 16) : blockP 11 (keysP 4 f) x j = look (sz.getD 10 []) j :=
  block_look 4 f x lz pz [] sz (by omega) (by kernel_rfl) (by kernel_rfl) (fun m hm => by
    have : (List.range 16).all (fun m => 0 == look lz m) = true := by kernel_rfl
    have := List.all_eq_true.1 this m (List.mem_range.2 hm)
    rw [hf m hm]
    simpa using this) (fun m hm => by rw [hx m hm]; rfl) j hj

end Go.Proofs.Ytnigpobbckampaa
namespace Go.Proofs.Ytnigpobbckampaa
set_option linter.unusedSimpArgs false
set_option linter.unusedVariables false

/-! ### Functions that are additive are equal when they are equal at the powers of 2 -/
theorem xor_pow_lt {k a : Nat} (h1 : 2 ^ k ≤ a) (h2 : a < 2 ^ (k + 1)) : a ^^^ 2 ^ k < 2 ^ k := by
  have hlt : a ^^^ 2 ^ k < 2 ^ (k + 1) := Nat.xor_lt_two_pow h2 (Nat.pow_lt_pow_right (by omega) (by omega))
  have hbit : (a ^^^ 2 ^ k).testBit k = false := by
    have ha : a.testBit k = true := by
      rw [Nat.testBit_eq_decide_div_mod_eq]
      have h3 : a / 2 ^ k = 1 := by
        rw [Nat.pow_succ] at h2
        exact Nat.div_eq_of_lt_le (by omega) (by omega)
      simp [h3]
    rw [Nat.testBit_xor, ha, Nat.testBit_two_pow_self]
    rfl
  refine Nat.lt_of_not_le fun hge => ?_
  have : (a ^^^ 2 ^ k).testBit k = true := by
    rw [Nat.testBit_eq_decide_div_mod_eq]
    have h3 : (a ^^^ 2 ^ k) / 2 ^ k = 1 := by
      rw [Nat.pow_succ] at hlt
      exact Nat.div_eq_of_lt_le (by omega) (by omega)
    simp [h3]
  rw [hbit] at this
  cases this

theorem xor_xor_self (a b : Nat) : (a ^^^ b) ^^^ b = a := by rw [Nat.xor_assoc, Nat.xor_self, Nat.xor_zero]

theorem lin_ext {n : Nat} {f g : Nat → Nat} (hf : ∀ a b, a < 2 ^ n → b < 2 ^ n → f (a ^^^ b) = f a ^^^ f b) (hg : ∀ a b, a < 2 ^ n → b < 2 ^ n → g (a ^^^ b) = g a ^^^ g b)
    (h : ∀ i, i < n → f (2 ^ i) = g (2 ^ i)) : ∀ a, a < 2 ^ n → f a = g a := by
  have h0f : f 0 = 0 := by
    have := hf 0 0 (Nat.two_pow_pos n) (Nat.two_pow_pos n)
    rw [Nat.xor_self, Nat.xor_self] at this
    exact this
  have h0g : g 0 = 0 := by
    have := hg 0 0 (Nat.two_pow_pos n) (Nat.two_pow_pos n)
    rw [Nat.xor_self, Nat.xor_self] at this
    exact this
  have key : ∀ k, k ≤ n → ∀ a, a < 2 ^ k → f a = g a := by
    intro k
    induction k with
    | zero => intro _ a ha; obtain rfl : a = 0 := by omega
              rw [h0f, h0g]
    | succ k ih =>
      intro hk a ha
      by_cases hlt : a < 2 ^ k
      · exact ih (by omega) a hlt
      · have h1 := xor_pow_lt (by omega) ha
        have hp : 2 ^ k < 2 ^ n := Nat.pow_lt_pow_right (by omega) (by omega)
        have e : a = (a ^^^ 2 ^ k) ^^^ 2 ^ k := (xor_xor_self a _).symm
        rw [e, hf _ _ (Nat.lt_trans h1 hp) hp, hg _ _ (Nat.lt_trans h1 hp) hp, ih (by omega) _ h1, h k (by omega)]
  exact key n (Nat.le_refl _)

/-! ### Doubling and products are additive -/
theorem dbl_xor_ok : ((List.range 256).all fun a => (List.range 256).all fun b => dbl (a ^^^ b) == dbl a ^^^ dbl b) = true := by kernel_rfl
theorem dbl_xor {a b : Nat} (ha : a < 256) (hb : b < 256) : dbl (a ^^^ b) = dbl a ^^^ dbl b := by
  have h1 := List.all_eq_true.1 dbl_xor_ok a (List.mem_range.2 ha)
  have h2 := List.all_eq_true.1 h1 b (List.mem_range.2 hb)
  simpa using h2

/-- The product by its recursion. -/
def mulR : Nat → Nat → Nat → Nat
  | 0, _, _ => 0
  | n + 1, a, b => (if b % 2 = 1 then a else 0) ^^^ mulR n (dbl a) (b / 2)
theorem mulL_eq (n : Nat) : ∀ a b out, mulL n a b out = out ^^^ mulR n a b := by
  induction n with
  | zero => intro a b out; simp [mulL, mulR]
  | succ n ih =>
    intro a b out
    simp only [mulL, mulR]
    rw [ih]
    split
    · rw [Nat.xor_assoc]
    · rw [Nat.zero_xor]
theorem mulP_eq (a b : Nat) : mulP a b = mulR 8 a b := by unfold mulP; rw [mulL_eq, Nat.zero_xor]
theorem xor4 (a b c d : Nat) : (a ^^^ b) ^^^ (c ^^^ d) = (a ^^^ c) ^^^ (b ^^^ d) := by
  rw [Nat.xor_assoc, Nat.xor_assoc, ← Nat.xor_assoc b c d, Nat.xor_comm b c, Nat.xor_assoc c b d]
theorem mulR_left (n : Nat) : ∀ a a' b, a < 256 → a' < 256 → mulR n (a ^^^ a') b = mulR n a b ^^^ mulR n a' b := by
  induction n with
  | zero => intro a a' b _ _; simp [mulR]
  | succ n ih =>
    intro a a' b ha ha'
    simp only [mulR]
    rw [dbl_xor ha ha', ih _ _ _ (dbl_lt _) (dbl_lt _), xor4]
    congr 1
    split <;> simp
theorem mulR_right (n : Nat) : ∀ a b b', mulR n a (b ^^^ b') = mulR n a b ^^^ mulR n a b' := by
  induction n with
  | zero => intro a b b'; simp [mulR]
  | succ n ih =>
    intro a b b'
    simp only [mulR]
    rw [Nat.xor_div_two, ih, xor4]
    congr 1
    have h : (b ^^^ b') % 2 = (b % 2) ^^^ (b' % 2) := by
      have := @Nat.xor_mod_two_pow b b' 1
      simpa using this
    rw [h]
    rcases Nat.mod_two_eq_zero_or_one b with h1 | h1 <;> rcases Nat.mod_two_eq_zero_or_one b' with h2 | h2 <;> simp [h1, h2]
theorem mulP_left {a a' : Nat} (b : Nat) (ha : a < 256) (ha' : a' < 256) : mulP (a ^^^ a') b = mulP a b ^^^ mulP a' b := by
  rw [mulP_eq, mulP_eq, mulP_eq]; exact mulR_left 8 a a' b ha ha'
theorem mulP_right (a b b' : Nat) : mulP a (b ^^^ b') = mulP a b ^^^ mulP a b' := by
  rw [mulP_eq, mulP_eq, mulP_eq]; exact mulR_right 8 a b b'

/-! ### The laws -/
theorem comm_ok : ((List.range 8).all fun i => (List.range 8).all fun j => mulP (2 ^ i) (2 ^ j) == mulP (2 ^ j) (2 ^ i)) = true := by kernel_rfl
theorem pow_lt256 {i : Nat} (h : i < 8) : 2 ^ i < 256 := by
  have := Nat.pow_lt_pow_right (a := 2) (by omega) h
  simpa using this
theorem mulP_comm (a b : Nat) (ha : a < 256) (hb : b < 256) : mulP a b = mulP b a := by
  refine lin_ext (n := 8) (f := fun a => mulP a b) (g := fun a => mulP b a) (fun x y hx hy => mulP_left b hx hy) (fun x y _ _ => mulP_right b x y) (fun i hi => ?_) a ha
  refine lin_ext (n := 8) (f := fun b => mulP (2 ^ i) b) (g := fun b => mulP b (2 ^ i)) (fun x y _ _ => mulP_right _ x y) (fun x y hx hy => mulP_left _ hx hy) (fun j hj => ?_) b hb
  have h1 := List.all_eq_true.1 comm_ok i (List.mem_range.2 hi)
  have h2 := List.all_eq_true.1 h1 j (List.mem_range.2 hj)
  simpa using h2
theorem assoc_ok : ((List.range 8).all fun i => (List.range 8).all fun j => (List.range 8).all fun k => mulP (mulP (2 ^ i) (2 ^ j)) (2 ^ k) == mulP (2 ^ i) (mulP (2 ^ j) (2 ^ k))) = true := by kernel_rfl
theorem mulP_assoc (a b c : Nat) (ha : a < 256) (hb : b < 256) (hc : c < 256) : mulP (mulP a b) c = mulP a (mulP b c) := by
  refine lin_ext (n := 8) (f := fun a => mulP (mulP a b) c) (g := fun a => mulP a (mulP b c)) (fun x y hx hy => ?_) (fun x y hx hy => mulP_left _ hx hy) (fun i hi => ?_) a ha
  · show mulP (mulP (x ^^^ y) b) c = _
    rw [mulP_left b hx hy, mulP_left c (mulP_lt _ _ hx) (mulP_lt _ _ hy)]
  have hi' := pow_lt256 hi
  refine lin_ext (n := 8) (f := fun b => mulP (mulP (2 ^ i) b) c) (g := fun b => mulP (2 ^ i) (mulP b c)) (fun x y hx hy => ?_) (fun x y hx hy => ?_) (fun j hj => ?_) b hb
  · show mulP (mulP (2 ^ i) (x ^^^ y)) c = _
    rw [mulP_right, mulP_left c (mulP_lt _ _ hi') (mulP_lt _ _ hi')]
  · show mulP (2 ^ i) (mulP (x ^^^ y) c) = _
    rw [mulP_left c hx hy, mulP_right]
  refine lin_ext (n := 8) (f := fun c => mulP (mulP (2 ^ i) (2 ^ j)) c) (g := fun c => mulP (2 ^ i) (mulP (2 ^ j) c)) (fun x y _ _ => mulP_right _ x y) (fun x y hx hy => ?_) (fun k hk => ?_) c hc
  · show mulP (2 ^ i) (mulP (2 ^ j) (x ^^^ y)) = _
    rw [mulP_right, mulP_right]
  have h1 := List.all_eq_true.1 assoc_ok i (List.mem_range.2 hi)
  have h2 := List.all_eq_true.1 h1 j (List.mem_range.2 hj)
  have h3 := List.all_eq_true.1 h2 k (List.mem_range.2 hk)
  simpa using h3
theorem one_ok : ((List.range 256).all fun a => mulP a 1 == a && mulP a 0 == 0) = true := by kernel_rfl
theorem mulP_one (a : Nat) (ha : a < 256) : mulP a 1 = a := by
  have := List.all_eq_true.1 one_ok a (List.mem_range.2 ha)
  simp only [Bool.and_eq_true, beq_iff_eq] at this
  exact this.1
theorem mulP_zero (a : Nat) (ha : a < 256) : mulP a 0 = 0 := by
  have := List.all_eq_true.1 one_ok a (List.mem_range.2 ha)
  simp only [Bool.and_eq_true, beq_iff_eq] at this
  exact this.2
theorem zero_mulP (a : Nat) (ha : a < 256) : mulP 0 a = 0 := by rw [mulP_comm 0 a (by omega) ha, mulP_zero a ha]
theorem inv_ok : ((List.range 256).all fun a => (a == 0 || mulP a (look invT a) == 1) && look invT (look invT a) == a) = true := by kernel_rfl
theorem mulP_inv (a : Nat) (ha : a < 256) (h0 : a ≠ 0) : mulP a (invP a) = 1 := by
  have := List.all_eq_true.1 inv_ok a (List.mem_range.2 ha)
  simp only [Bool.and_eq_true, Bool.or_eq_true, beq_iff_eq] at this
  rw [invP_look a ha]
  rcases this.1 with h | h
  · exact absurd h h0
  · exact h
theorem invP_invP (a : Nat) (ha : a < 256) : invP (invP a) = a := by
  have := List.all_eq_true.1 inv_ok a (List.mem_range.2 ha)
  simp only [Bool.and_eq_true, beq_iff_eq] at this
  have h1 := invP_lt a
  rw [invP_look _ h1, invP_look a ha]
  exact this.2
theorem mulP_zero_iff (a b : Nat) (ha : a < 256) (hb : b < 256) (h0 : a ≠ 0) : mulP a b = 0 ↔ b = 0 := by
  refine ⟨fun h => ?_, fun h => by rw [h, mulP_zero a ha]⟩
  have h1 := mulP_assoc (invP a) a b (invP_lt a) ha hb
  rw [h, mulP_zero _ (invP_lt a), mulP_comm (invP a) a (invP_lt a) ha, mulP_inv a ha h0, mulP_comm 1 b (by omega) hb, mulP_one b hb] at h1
  exact h1
/-- The inverse is the only one. -/
theorem inv_unique (a b : Nat) (ha : a < 256) (hb : b < 256) (h : mulP a b = 1) : b = invP a := by
  have h0 : a ≠ 0 := by
    rintro rfl
    rw [zero_mulP b hb] at h
    cases h
  have h1 := mulP_assoc (invP a) a b (invP_lt a) ha hb
  rw [h, mulP_one _ (invP_lt a), mulP_comm (invP a) a (invP_lt a) ha, mulP_inv a ha h0, mulP_comm 1 b (by omega) hb, mulP_one b hb] at h1
  exact h1

/-! ### The box -/
theorem rot_bit (a n j : Nat) (ha : a < 256) (hn : n < 8) : (rot a n).testBit j = ((decide (j < 8) && (decide (n ≤ j) && a.testBit (j - n))) || a.testBit (8 - n + j)) := by
  unfold rot
  rw [Nat.testBit_or, show (256 : Nat) = 2 ^ 8 from rfl, Nat.testBit_mod_two_pow, Nat.testBit_mul_two_pow, Nat.testBit_div_two_pow]
  rw [Nat.add_comm j (8 - n)]
theorem rot_xor {a b n : Nat} (ha : a < 256) (hb : b < 256) (hn : n < 8) (h0 : 0 < n) : rot (a ^^^ b) n = rot a n ^^^ rot b n := by
  apply Nat.eq_of_testBit_eq
  intro j
  rw [Nat.testBit_xor, rot_bit _ _ _ (xor_lt ha hb) hn, rot_bit _ _ _ ha hn, rot_bit _ _ _ hb hn, Nat.testBit_xor, Nat.testBit_xor]
  have hhi : ∀ x : Nat, x < 256 → ∀ i, 8 ≤ i → x.testBit i = false := fun x hx i hi => Nat.testBit_lt_two_pow (Nat.lt_of_lt_of_le hx (by
    have := Nat.pow_le_pow_right (n := 2) (by omega) hi
    simpa using this))
  by_cases h1 : n ≤ j
  · rw [hhi a ha (8 - n + j) (by omega), hhi b hb (8 - n + j) (by omega)]
    simp only [h1, decide_true, Bool.true_and, Bool.or_false, Bool.bne_false, Bool.xor_false, bne_self_eq_false]
    by_cases h2 : j < 8 <;> simp [h2]
  · simp [h1]
theorem boxA_xor3 {x y z : Nat} (hx : x < 256) (hy : y < 256) (hz : z < 256) : boxA (x ^^^ y ^^^ z) = boxA x ^^^ boxA y ^^^ boxA z := by
  have hxy := xor_lt hx hy
  have h : ∀ {a b : Nat}, a < 256 → b < 256 → boxA (a ^^^ b) = boxA a ^^^ boxA b ^^^ 99 := by
    intro a b ha hb
    unfold boxA
    rw [rot_xor ha hb (by omega) (by omega), rot_xor ha hb (by omega) (by omega), rot_xor ha hb (by omega) (by omega), rot_xor ha hb (by omega) (by omega)]
    generalize rot a 1 = a1
    generalize rot a 2 = a2
    generalize rot a 3 = a3
    generalize rot a 4 = a4
    generalize rot b 1 = b1
    generalize rot b 2 = b2
    generalize rot b 3 = b3
    generalize rot b 4 = b4
    apply Nat.eq_of_testBit_eq
    intro j
    simp only [Nat.testBit_xor]
    generalize Nat.testBit a j = p0
    generalize Nat.testBit a1 j = p1
    generalize Nat.testBit a2 j = p2
    generalize Nat.testBit a3 j = p3
    generalize Nat.testBit a4 j = p4
    generalize Nat.testBit b j = q0
    generalize Nat.testBit b1 j = q1
    generalize Nat.testBit b2 j = q2
    generalize Nat.testBit b3 j = q3
    generalize Nat.testBit b4 j = q4
    generalize Nat.testBit 99 j = c
    revert p0 p1 p2 p3 p4 q0 q1 q2 q3 q4 c
    decide
  rw [h hxy hz, h hx hy]
  apply Nat.eq_of_testBit_eq
  intro j
  simp only [Nat.testBit_xor]
  generalize Nat.testBit (boxA x) j = p0
  generalize Nat.testBit (boxA y) j = p1
  generalize Nat.testBit (boxA z) j = p2
  generalize Nat.testBit 99 j = c
  revert p0 p1 p2 c
  decide
theorem boxP_invP (y : Nat) (hy : y < 256) : boxP (invP y) = boxA y := by
  unfold boxP
  rw [invP_invP y hy]

end Go.Proofs.Ytnigpobbckampaa
namespace Go.Proofs.Ytnigpobbckampaa
set_option linter.unusedSimpArgs false
set_option linter.unusedVariables false

def unT : List Nat := [82, 9, 106, 213, 48, 54, 165, 56, 191, 64, 163, 158, 129, 243, 215, 251, 124, 227, 57, 130, 155, 47, 255, 135, 52, 142, 67, 68, 196, 222, 233, 203, 84, 123, 148, 50, 166, 194, 35, 61, 238, 76, 149, 11, 66, 250, 195, 78, 8, 46, 161, 102, 40, 217, 36, 178, 118, 91, 162, 73, 109, 139, 209, 37, 114, 248, 246, 100, 134, 104, 152, 22, 212, 164, 92, 204, 93, 101, 182, 146, 108, 112, 72, 80, 253, 237, 185, 218, 94, 21, 70, 87, 167, 141, 157, 132, 144, 216, 171, 0, 140, 188, 211, 10, 247, 228, 88, 5, 184, 179, 69, 6, 208, 44, 30, 143, 202, 63, 15, 2, 193, 175, 189, 3, 1, 19, 138, 107, 58, 145, 17, 65, 79, 103, 220, 234, 151, 242, 207, 206, 240, 180, 230, 115, 150, 172, 116, 34, 231, 173, 53, 133, 226, 249, 55, 232, 28, 117, 223, 110, 71, 241, 26, 113, 29, 41, 197, 137, 111, 183, 98, 14, 170, 24, 190, 27, 252, 86, 62, 75, 198, 210, 121, 32, 154, 219, 192, 254, 120, 205, 90, 244, 31, 221, 168, 51, 136, 7, 199, 49, 177, 18, 16, 89, 39, 128, 236, 95, 96, 81, 127, 169, 25, 181, 74, 13, 45, 229, 122, 159, 147, 201, 156, 239, 160, 224, 59, 77, 174, 42, 245, 176, 200, 235, 187, 60, 131, 83, 153, 97, 23, 43, 4, 126, 186, 119, 214, 38, 225, 105, 20, 99, 85, 33, 12, 125]
theorem un_ok : (List.range 256).all (fun a => look unT (look boxT a) == a) = true := by kernel_rfl
theorem boxP_inj {a b : Nat} (ha : a < 256) (hb : b < 256) (h : boxP a = boxP b) : a = b := by
  have h1 := List.all_eq_true.1 un_ok a (List.mem_range.2 ha)
  have h2 := List.all_eq_true.1 un_ok b (List.mem_range.2 hb)
  simp only [beq_iff_eq] at h1 h2
  rw [boxP_look a ha, boxP_look b hb] at h
  rw [← h1, ← h2, h]

/-! ### The mixing of columns has an inverse -/
def mcol (a b c e : Nat) : Nat := dbl a ^^^ (dbl b ^^^ (b ^^^ (c ^^^ e)))
def t9 (a : Nat) : Nat := dbl (dbl (dbl a)) ^^^ a
def t11 (a : Nat) : Nat := dbl (dbl (dbl a)) ^^^ (dbl a ^^^ a)
def t13 (a : Nat) : Nat := dbl (dbl (dbl a)) ^^^ (dbl (dbl a) ^^^ a)
def t14 (a : Nat) : Nat := dbl (dbl (dbl a)) ^^^ (dbl (dbl a) ^^^ dbl a)
theorem dbl5 {p q r s t : Nat} (hp : p < 256) (hq : q < 256) (hr : r < 256) (hs : s < 256) (ht : t < 256) :
    dbl (p ^^^ (q ^^^ (r ^^^ (s ^^^ t)))) = dbl p ^^^ (dbl q ^^^ (dbl r ^^^ (dbl s ^^^ dbl t))) := by
  rw [dbl_xor hp (xor_lt hq (xor_lt hr (xor_lt hs ht))), dbl_xor hq (xor_lt hr (xor_lt hs ht)), dbl_xor hr (xor_lt hs ht), dbl_xor hs ht]
theorem xor_cancel (a b : Nat) : a ^^^ (a ^^^ b) = b := by rw [← Nat.xor_assoc, Nat.xor_self, Nat.zero_xor]
theorem xor_left (a b c : Nat) : a ^^^ (b ^^^ c) = b ^^^ (a ^^^ c) := by rw [← Nat.xor_assoc, Nat.xor_comm a b, Nat.xor_assoc]
theorem col_inv {a b c e : Nat} (ha : a < 256) (hb : b < 256) (hc : c < 256) (he : e < 256) :
    t14 (mcol a b c e) ^^^ (t11 (mcol b c e a) ^^^ (t13 (mcol c e a b) ^^^ t9 (mcol e a b c))) = a := by
  have l1 := fun x => dbl_lt x
  unfold t14 t11 t13 t9 mcol
  rw [dbl5 (l1 _) (l1 _) hb hc he, dbl5 (l1 _) (l1 _) (l1 _) (l1 _) (l1 _), dbl5 (l1 _) (l1 _) (l1 _) (l1 _) (l1 _),
    dbl5 (l1 _) (l1 _) hc he ha, dbl5 (l1 _) (l1 _) (l1 _) (l1 _) (l1 _), dbl5 (l1 _) (l1 _) (l1 _) (l1 _) (l1 _),
    dbl5 (l1 _) (l1 _) he ha hb, dbl5 (l1 _) (l1 _) (l1 _) (l1 _) (l1 _), dbl5 (l1 _) (l1 _) (l1 _) (l1 _) (l1 _),
    dbl5 (l1 _) (l1 _) ha hb hc, dbl5 (l1 _) (l1 _) (l1 _) (l1 _) (l1 _), dbl5 (l1 _) (l1 _) (l1 _) (l1 _) (l1 _)]
  generalize dbl (dbl (dbl (dbl a))) = a4
  generalize dbl (dbl (dbl (dbl b))) = b4
  generalize dbl (dbl (dbl (dbl c))) = c4
  generalize dbl (dbl (dbl (dbl e))) = e4
  generalize dbl (dbl (dbl a)) = a3
  generalize dbl (dbl (dbl b)) = b3
  generalize dbl (dbl (dbl c)) = c3
  generalize dbl (dbl (dbl e)) = e3
  generalize dbl (dbl a) = a2
  generalize dbl (dbl b) = b2
  generalize dbl (dbl c) = c2
  generalize dbl (dbl e) = e2
  generalize dbl a = a1
  generalize dbl b = b1
  generalize dbl c = c1
  generalize dbl e = e1
  simp only [Nat.xor_assoc, Nat.xor_comm, xor_left, xor_cancel, Nat.xor_self, Nat.xor_zero, Nat.zero_xor]
theorem mix_col {f : Nat → Nat} (hf : ∀ i, i < 16 → f i < 256) (q : Nat) (hq : q < 4) :
    mixP f (4 * q) = mcol (f (4 * q)) (f (4 * q + 1)) (f (4 * q + 2)) (f (4 * q + 3)) ∧ mixP f (4 * q + 1) = mcol (f (4 * q + 1)) (f (4 * q + 2)) (f (4 * q + 3)) (f (4 * q)) ∧
    mixP f (4 * q + 2) = mcol (f (4 * q + 2)) (f (4 * q + 3)) (f (4 * q)) (f (4 * q + 1)) ∧ mixP f (4 * q + 3) = mcol (f (4 * q + 3)) (f (4 * q)) (f (4 * q + 1)) (f (4 * q + 2)) := by
  have h0 := hf (4 * q) (by omega)
  have h1 := hf (4 * q + 1) (by omega)
  have h2 := hf (4 * q + 2) (by omega)
  have h3 := hf (4 * q + 3) (by omega)
  have d0 : 4 * q / 4 * 4 = 4 * q := by omega
  have d1 : (4 * q + 1) / 4 * 4 = 4 * q := by omega
  have d2 : (4 * q + 2) / 4 * 4 = 4 * q := by omega
  have d3 : (4 * q + 3) / 4 * 4 = 4 * q := by omega
  have m0 : (4 * q % 4 + 1) % 4 = 1 := by omega
  have m1 : ((4 * q + 1) % 4 + 1) % 4 = 2 := by omega
  have m2 : ((4 * q + 2) % 4 + 1) % 4 = 3 := by omega
  have m3 : ((4 * q + 3) % 4 + 1) % 4 = 0 := by omega
  unfold mixP mcol
  rw [d0, d1, d2, d3, m0, m1, m2, m3, Nat.add_zero]
  generalize f (4 * q) = a at *
  generalize f (4 * q + 1) = b at *
  generalize f (4 * q + 2) = c at *
  generalize f (4 * q + 3) = e at *
  rw [dbl_xor h0 h1, dbl_xor h1 h2, dbl_xor h2 h3, dbl_xor h3 h0]
  generalize dbl a = a1
  generalize dbl b = b1
  generalize dbl c = c1
  generalize dbl e = e1
  refine ⟨?_, ?_, ?_, ?_⟩ <;> simp only [Nat.xor_assoc, Nat.xor_comm, xor_left, xor_cancel, Nat.xor_self, Nat.xor_zero, Nat.zero_xor]
theorem mixP_inj {f g : Nat → Nat} (hf : ∀ i, i < 16 → f i < 256) (hg : ∀ i, i < 16 → g i < 256) (h : ∀ i, i < 16 → mixP f i = mixP g i) : ∀ i, i < 16 → f i = g i := by
  intro i hi
  have key : ∀ q, q < 4 → f (4 * q) = g (4 * q) ∧ f (4 * q + 1) = g (4 * q + 1) ∧ f (4 * q + 2) = g (4 * q + 2) ∧ f (4 * q + 3) = g (4 * q + 3) := by
    intro q hq
    obtain ⟨a0, a1, a2, a3⟩ := mix_col hf q hq
    obtain ⟨b0, b1, b2, b3⟩ := mix_col hg q hq
    have e0 := h (4 * q) (by omega)
    have e1 := h (4 * q + 1) (by omega)
    have e2 := h (4 * q + 2) (by omega)
    have e3 := h (4 * q + 3) (by omega)
    rw [a0, b0] at e0
    rw [a1, b1] at e1
    rw [a2, b2] at e2
    rw [a3, b3] at e3
    have f0 := hf (4 * q) (by omega)
    have f1 := hf (4 * q + 1) (by omega)
    have f2 := hf (4 * q + 2) (by omega)
    have f3 := hf (4 * q + 3) (by omega)
    have g0 := hg (4 * q) (by omega)
    have g1 := hg (4 * q + 1) (by omega)
    have g2 := hg (4 * q + 2) (by omega)
    have g3 := hg (4 * q + 3) (by omega)
    refine ⟨?_, ?_, ?_, ?_⟩
    · rw [← col_inv f0 f1 f2 f3, e0, e1, e2, e3, col_inv g0 g1 g2 g3]
    · rw [← col_inv f1 f2 f3 f0, e0, e1, e2, e3, col_inv g1 g2 g3 g0]
    · rw [← col_inv f2 f3 f0 f1, e0, e1, e2, e3, col_inv g2 g3 g0 g1]
    · rw [← col_inv f3 f0 f1 f2, e0, e1, e2, e3, col_inv g3 g0 g1 g2]
  obtain ⟨k0, k1, k2, k3⟩ := key (i / 4) (by omega)
  rcases (by omega : i = 4 * (i / 4) ∨ i = 4 * (i / 4) + 1 ∨ i = 4 * (i / 4) + 2 ∨ i = 4 * (i / 4) + 3) with h | h | h | h <;> rw [h] <;> assumption
theorem perm_ok : (List.range 16).all (fun t => (List.range 16).any fun i => (i + 4 * (i % 4)) % 16 == t) = true := by kernel_rfl
theorem subP_inj {f g : Nat → Nat} (hf : ∀ i, i < 16 → f i < 256) (hg : ∀ i, i < 16 → g i < 256) (h : ∀ i, i < 16 → subP f i = subP g i) : ∀ i, i < 16 → f i = g i := by
  intro t ht
  have h1 := List.all_eq_true.1 perm_ok t (List.mem_range.2 ht)
  obtain ⟨i, hi, he⟩ := List.any_eq_true.1 h1
  have hi' := List.mem_range.1 hi
  have he' : (i + 4 * (i % 4)) % 16 = t := by simpa using he
  have h2 := h i hi'
  unfold subP at h2
  rw [he'] at h2
  exact boxP_inj (hf t ht) (hg t ht) h2
theorem roundP_inj (last r : Nat) {f g : Nat → Nat} (hf : ∀ i, i < 16 → f i < 256) (hg : ∀ i, i < 16 → g i < 256) (h : ∀ i, i < 16 → roundP last r f i = roundP last r g i) : ∀ i, i < 16 → f i = g i := by
  unfold roundP at h
  split at h
  · exact subP_inj hf hg (mixP_inj (fun i _ => subP_lt f i) (fun i _ => subP_lt g i) h)
  · exact subP_inj hf hg h
theorem xor_inj {a b c : Nat} (h : a ^^^ c = b ^^^ c) : a = b := by
  have this : (a ^^^ c) ^^^ c = (b ^^^ c) ^^^ c := by rw [h]
  rw [xor_xor_self, xor_xor_self] at this
  exact this
theorem blockP_inj (n : Nat) (ks : Nat → Nat → Nat) {x y : Nat → Nat} (hn : 1 ≤ n) (hk : ∀ i, i < n → ∀ j, j < 16 → ks i j < 256) (hx : ∀ i, i < 16 → x i < 256) (hy : ∀ i, i < 16 → y i < 256)
    (h : ∀ i, i < 16 → blockP n ks x i = blockP n ks y i) : ∀ i, i < 16 → x i = y i := by
  have key : ∀ r, r ≤ n - 1 → (∀ i, i < 16 → stP (n - 1) ks x r i = stP (n - 1) ks y r i) → ∀ i, i < 16 → x i = y i := by
    intro r
    induction r with
    | zero => exact fun _ h i hi => xor_inj (h i hi)
    | succ r ih =>
      intro hr h
      refine ih (by omega) (roundP_inj (n - 1) r (fun i hi => stP_lt _ _ _ hx r (fun i h => hk i (by omega)) i hi) (fun i hi => stP_lt _ _ _ hy r (fun i h => hk i (by omega)) i hi) fun i hi => xor_inj (h i hi))
  exact key (n - 1) (Nat.le_refl _) h

end Go.Proofs.Ytnigpobbckampaa
