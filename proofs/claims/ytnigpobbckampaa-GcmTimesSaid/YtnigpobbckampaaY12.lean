/- Plain: the values of the chapter's boxes; each table is held to the definitions by the kernel. -/
import Derived.Test.YtnigpobbckampaaY10
import Derived.Test.YtnigpobbckampaaN
namespace Go.Proofs.Ytnigpobbckampaa
open Go.RowKit
set_option linter.unusedSimpArgs false
set_option linter.unusedVariables false

def tagQ (z c1 ns nh : Nat) (fs fh : Nat → Nat) : Nat := tms (sm z (blks nh ns fh fs) ((nh + 15) / 16 + (ns + 15) / 16) ^^^ (8 * nh * 18446744073709551616 + 8 * ns)) z ^^^ c1
def ctrL (nl : List Nat) (i : Nat) : List Nat := (List.range 16).map fun j => ctrB (look nl) i j
theorem ctrB_congr {f g : Nat → Nat} (h : ∀ j, j < 12 → f j = g j) (n j : Nat) : ctrB f n j = ctrB g n j := by
  unfold ctrB ctrK
  by_cases hj : j < 12
  · rw [if_pos hj, if_pos hj, h j hj]
  · rw [if_neg hj, if_neg hj]
theorem look_ctrL (nl : List Nat) (i j : Nat) (h : j < 16) : look (ctrL nl i) j = ctrB (look nl) i j := by
  unfold look ctrL
  rw [List.getD_eq_getElem?_getD, List.getElem?_map, List.getElem?_range h]
  rfl

theorem all_range {n : Nat} {p : Nat → Bool} (h : (List.range n).all p = true) (i : Nat) (hi : i < n) : p i = true := List.all_eq_true.1 h i (List.mem_range.2 hi)
theorem eq_range {n : Nat} {f g : Nat → Nat} (h : (List.range n).all (fun i => f i == g i) = true) (i : Nat) (hi : i < n) : f i = g i := by
  have := all_range h i hi
  simpa using this

theorem box_known (l ps nl pl hl wl : List Nat) (S0 : List (List Nat)) (S : List (List (List Nat))) (f nonce fp fh : Nat → Nat) (n nh m T : Nat)
    (hkey : keyB 4 (4 * (4 + 7) - 4) l ps = true) (h0 : statesB (4 + 7) l [] S0 = true)
    (hS : (List.range m).all (fun i => statesB (4 + 7) l (ctrL nl (i + 1)) (S.getD i [])) = true) (hm : 0 < m) (hnm : n ≤ 16 * (m - 1))
    (hf : ∀ j, j < 16 → f j = look l j) (hn : ∀ j, j < 12 → nonce j = look nl j) (hp : ∀ j, j < n → fp j = look pl j) (hh : ∀ j, j < nh → fh j = look hl j)
    (hw : (List.range n).all (fun j => look pl j ^^^ look ((S.getD (1 + j / 16) []).getD 10 []) (j % 16) == look wl j) = true)
    (hT : tagQ (be (look (S0.getD 10 [])) 16) (be (look ((S.getD 0 []).getD 10 [])) 16) n nh (look wl) (look hl) = T)
    (hTw : (List.range 16).all (fun j => byP T j == look wl (n + j)) = true) :
    ∀ i, i < n + 16 → sealP (4 + 7) (keysP 4 f) nonce n nh fp fh i = look wl i := by
  have hb0 : ∀ j, j < 16 → blockP (4 + 7) (keysP 4 f) (fun _ => 0) j = look (S0.getD 10 []) j := fun j hj =>
    block_look 4 f (fun _ => 0) l ps [] S0 (by omega) hkey h0 hf (fun j _ => rfl) j hj
  have hbi : ∀ i, i < m → ∀ j, j < 16 → blockP (4 + 7) (keysP 4 f) (ctrB nonce (i + 1)) j = look ((S.getD i []).getD 10 []) j := fun i hi j hj =>
    block_look 4 f (ctrB nonce (i + 1)) l ps (ctrL nl (i + 1)) (S.getD i []) (by omega) hkey (all_range hS i hi) hf (fun j hj => by rw [look_ctrL _ _ _ hj]; exact ctrB_congr hn _ _) j hj
  have hhide : ∀ j, j < n → hideP (4 + 7) (keysP 4 f) nonce fp j = look wl j := fun j hj => by
    unfold hideP
    rw [← eq_range hw j hj, hp j hj, show 2 + j / 16 = (1 + j / 16) + 1 from by omega, hbi (1 + j / 16) (by omega) (j % 16) (by omega)]
  have htag : tagN (4 + 7) (keysP 4 f) nonce n nh (hideP (4 + 7) (keysP 4 f) nonce fp) fh = T := by
    rw [tagN_congr (4 + 7) (keysP 4 f) nonce hh hhide, ← hT]
    unfold tagN tagQ
    rw [be_congr 16 hb0, be_congr 16 (hbi 0 hm)]
  intro i hi
  by_cases hin : i < n
  · rw [sealP_lt i hin, hhide i hin]
  · obtain ⟨j, rfl⟩ : ∃ j, i = n + j := ⟨i - n, by omega⟩
    rw [sealP_ge, htag]
    exact eq_range hTw j (by omega)

/-! ### Hexadecimal digits -/
def hexB (s : ByteArray) (m : Nat) (l : List Nat) : Bool := s.size == 2 * m && (s.data.toList.map UInt8.toNat == l) && l.all fun c => decide (48 ≤ c) && decide (c < 103) && (decide (c < 58) || decide (97 ≤ c))
def HexOk (s : ByteArray) (m : Nat) (cs : Nat → Nat) : Prop := s.size = 2 * m ∧ ∀ i (h : i < s.size), (s[i]'h).toNat = cs i ∧ 48 ≤ cs i ∧ cs i < 103 ∧ (cs i < 58 ∨ 97 ≤ cs i)
theorem hex_ok {s : ByteArray} {m : Nat} {l : List Nat} (h : hexB s m l = true) : HexOk s m (look l) := by
  simp only [hexB, Bool.and_eq_true, beq_iff_eq] at h
  obtain ⟨⟨h1, h2⟩, h3⟩ := h
  refine ⟨h1, fun i hi => ?_⟩
  have hlen : l.length = s.size := by rw [← h2, List.length_map]; rfl
  have hil : i < l.length := by omega
  have he : look l i = l[i] := by unfold look; rw [List.getD_eq_getElem?_getD, List.getElem?_eq_getElem hil]; rfl
  have hs : (s[i]'hi).toNat = l[i] := by
    have h5 : (s.data.toList.map UInt8.toNat)[i]'(by rw [h2]; exact hil) = l[i] := by simp only [h2]
    rw [← h5, List.getElem_map]
    rfl
  have h4 := List.all_eq_true.1 h3 (l[i]) (List.getElem_mem hil)
  simp only [Bool.and_eq_true, Bool.or_eq_true, decide_eq_true_eq] at h4
  rw [he]
  exact ⟨hs, h4.1.1, h4.1.2, h4.2⟩

/-! ### The key of zeros -/
def lZk : List Nat := [0, 0, 0, 0, 0, 0, 0, 0, 0, 0, 0, 0, 0, 0, 0, 0, 98, 99, 99, 99, 98, 99, 99, 99, 98, 99, 99, 99, 98, 99, 99, 99, 155, 152, 152, 201, 249, 251, 251, 170, 155, 152, 152, 201, 249, 251, 251, 170, 144, 151, 52, 80, 105, 108, 207, 250, 242, 244, 87, 51, 11, 15, 172, 153, 238, 6, 218, 123, 135, 106, 21, 129, 117, 158, 66, 178, 126, 145, 238, 43, 127, 46, 43, 136, 248, 68, 62, 9, 141, 218, 124, 187, 243, 75, 146, 144, 236, 97, 75, 133, 20, 37, 117, 140, 153, 255, 9, 55, 106, 180, 155, 167, 33, 117, 23, 135, 53, 80, 98, 11, 172, 175, 107, 60, 198, 27, 240, 155, 14, 249, 3, 51, 59, 169, 97, 56, 151, 6, 10, 4, 81, 29, 250, 159, 177, 212, 216, 226, 138, 125, 185, 218, 29, 123, 179, 222, 76, 102, 73, 65, 180, 239, 91, 203, 62, 146, 226, 17, 35, 233, 81, 207, 111, 143, 24, 142]
def pZk : List Nat := [1, 2, 2, 2, 2, 4, 4, 4, 4, 8, 8, 8, 8, 16, 16, 16, 16, 32, 32, 32, 32, 64, 64, 64, 64, 128, 128, 128, 128, 27, 27, 27, 27, 54, 54, 54, 54, 108, 108, 108, 108]
def sZk : List (List Nat) := [[0, 0, 0, 0, 0, 0, 0, 0, 0, 0, 0, 0, 0, 0, 0, 0], [1, 0, 0, 0, 1, 0, 0, 0, 1, 0, 0, 0, 1, 0, 0, 0], [198, 228, 228, 139, 164, 135, 135, 232, 198, 228, 228, 139, 164, 135, 135, 232], [40, 45, 243, 196, 106, 243, 134, 37, 74, 78, 144, 167, 8, 144, 229, 70], [171, 210, 205, 254, 55, 90, 181, 73, 80, 160, 175, 192, 117, 154, 106, 95], [212, 111, 79, 108, 85, 184, 150, 51, 126, 5, 187, 61, 121, 121, 222, 35], [4, 242, 202, 151, 7, 120, 40, 69, 226, 47, 1, 150, 73, 197, 215, 16], [183, 170, 228, 197, 29, 37, 45, 79, 108, 146, 15, 129, 148, 229, 129, 80], [35, 231, 140, 60, 19, 33, 99, 219, 170, 192, 198, 87, 46, 3, 203, 149], [127, 254, 14, 149, 81, 165, 102, 53, 14, 52, 124, 71, 41, 41, 236, 203], [102, 233, 75, 212, 239, 138, 44, 59, 136, 76, 250, 89, 202, 52, 43, 46]]
def cZk : List (List (List Nat)) := [[[0, 0, 0, 0, 0, 0, 0, 0, 0, 0, 0, 0, 0, 0, 0, 1], [30, 31, 33, 62, 1, 0, 0, 0, 1, 0, 0, 0, 1, 0, 0, 0], [218, 234, 234, 153, 117, 86, 239, 81, 88, 93, 195, 21, 90, 218, 36, 75], [107, 120, 64, 75, 68, 221, 91, 251, 137, 115, 23, 228, 120, 135, 219, 170], [20, 71, 112, 136, 49, 23, 38, 231, 31, 3, 241, 64, 146, 108, 39, 163], [48, 221, 102, 216, 232, 254, 86, 127, 35, 221, 233, 210, 104, 84, 147, 4], [222, 216, 197, 211, 220, 57, 47, 229, 84, 30, 4, 241, 188, 21, 162, 105], [38, 184, 247, 169, 232, 26, 72, 30, 120, 21, 53, 10, 27, 34, 38, 25], [68, 36, 6, 182, 217, 81, 56, 157, 64, 77, 99, 196, 149, 251, 52, 133], [131, 247, 93, 208, 136, 243, 141, 226, 47, 131, 137, 25, 89, 53, 127, 54], [88, 226, 252, 206, 250, 126, 48, 97, 54, 127, 29, 87, 164, 231, 69, 90]], [[0, 0, 0, 0, 0, 0, 0, 0, 0, 0, 0, 0, 0, 0, 0, 2], [21, 20, 60, 40, 1, 0, 0, 0, 1, 0, 0, 0, 1, 0, 0, 0], [140, 193, 193, 228, 243, 208, 126, 70, 78, 103, 239, 3, 20, 174, 30, 113], [180, 202, 123, 14, 252, 143, 24, 200, 185, 218, 130, 106, 228, 112, 94, 241], [200, 249, 250, 206, 246, 55, 164, 8, 227, 225, 36, 243, 159, 254, 180, 77], [212, 80, 11, 218, 105, 234, 3, 183, 100, 225, 220, 126, 170, 111, 85, 44], [25, 220, 0, 190, 69, 127, 110, 54, 126, 35, 84, 56, 84, 192, 156, 157], [129, 32, 179, 174, 243, 165, 100, 6, 226, 147, 235, 225, 143, 145, 122, 236], [59, 23, 137, 79, 96, 150, 40, 250, 38, 95, 120, 133, 206, 38, 171, 21], [32, 139, 34, 65, 157, 10, 245, 15, 96, 166, 145, 214, 233, 221, 248, 54], [3, 136, 218, 206, 96, 182, 163, 146, 243, 40, 194, 185, 113, 178, 254, 120]]]
theorem keyZk : keyB 4 (4 * (4 + 7) - 4) lZk pZk = true := by kernel_rfl
theorem stZk : statesB (4 + 7) lZk [] sZk = true := by kernel_rfl
theorem ctZk : (List.range 2).all (fun i => statesB (4 + 7) lZk (ctrL [] (i + 1)) (cZk.getD i [])) = true := by kernel_rfl
def wZ1 : List Nat := [88, 226, 252, 206, 250, 126, 48, 97, 54, 127, 29, 87, 164, 231, 69, 90]
def xZ1 : List Nat := []
def hZ1 : List Nat := []
theorem boxZ1 (f nonce fp fh : Nat → Nat) (hf : ∀ j, j < 16 → f j = look lZk j) (hn : ∀ j, j < 12 → nonce j = look [] j) (hp : ∀ j, j < 0 → fp j = look xZ1 j) (hh : ∀ j, j < 0 → fh j = look hZ1 j) :
    ∀ i, i < 0 + 16 → sealP (4 + 7) (keysP 4 f) nonce 0 0 fp fh i = look wZ1 i :=
  box_known lZk pZk [] xZ1 hZ1 wZ1 sZk cZk f nonce fp fh 0 0 2 118150650284846871594443245464813258074 keyZk stZk ctZk (by omega) (by omega) hf hn hp hh (by kernel_rfl) (by kernel_rfl) (by kernel_rfl)
def wZ2 : List Nat := [3, 136, 218, 206, 96, 182, 163, 146, 243, 40, 194, 185, 113, 178, 254, 120, 171, 110, 71, 212, 44, 236, 19, 189, 245, 58, 103, 178, 18, 87, 189, 223]
def xZ2 : List Nat := [0, 0, 0, 0, 0, 0, 0, 0, 0, 0, 0, 0, 0, 0, 0, 0]
def hZ2 : List Nat := []
theorem boxZ2 (f nonce fp fh : Nat → Nat) (hf : ∀ j, j < 16 → f j = look lZk j) (hn : ∀ j, j < 12 → nonce j = look [] j) (hp : ∀ j, j < 16 → fp j = look xZ2 j) (hh : ∀ j, j < 0 → fh j = look hZ2 j) :
    ∀ i, i < 16 + 16 → sealP (4 + 7) (keysP 4 f) nonce 16 0 fp fh i = look wZ2 i :=
  box_known lZk pZk [] xZ2 hZ2 wZ2 sZk cZk f nonce fp fh 16 0 2 227870596795014497752965622056248393183 keyZk stZk ctZk (by omega) (by omega) hf hn hp hh (by kernel_rfl) (by kernel_rfl) (by kernel_rfl)

end Go.Proofs.Ytnigpobbckampaa
