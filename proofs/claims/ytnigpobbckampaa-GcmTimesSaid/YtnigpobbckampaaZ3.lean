/- works of layer 5, walked. -/
import Derived.Test.YtnigpobbckampaaZ2
import Derived.Test.YtnigpobbckampaaY12
namespace Go.Proofs.Ytnigpobbckampaa
open Go.RowKit
set_option linter.unusedSimpArgs false
set_option linter.unusedVariables false

def sz16 : ByteArray := { data := #[48, 48, 48, 48, 48, 48, 48, 48, 48, 48, 48, 48, 48, 48, 48, 48, 48, 48, 48, 48, 48, 48, 48, 48, 48, 48, 48, 48, 48, 48, 48, 48] }
def dz16 : List Nat := [48, 48, 48, 48, 48, 48, 48, 48, 48, 48, 48, 48, 48, 48, 48, 48, 48, 48, 48, 48, 48, 48, 48, 48, 48, 48, 48, 48, 48, 48, 48, 48]
theorem okz16 : HexS sz16 16 (look dz16) := hex_ok (by kernel_rfl)
def sz12 : ByteArray := { data := #[48, 48, 48, 48, 48, 48, 48, 48, 48, 48, 48, 48, 48, 48, 48, 48, 48, 48, 48, 48, 48, 48, 48, 48] }
def dz12 : List Nat := [48, 48, 48, 48, 48, 48, 48, 48, 48, 48, 48, 48, 48, 48, 48, 48, 48, 48, 48, 48, 48, 48, 48, 48]
theorem okz12 : HexS sz12 12 (look dz12) := hex_ok (by kernel_rfl)
def se0 : ByteArray := { data := #[] }
def de0 : List Nat := []
theorem oke0 : HexS se0 0 (look de0) := hex_ok (by kernel_rfl)
def sw1 : ByteArray := { data := #[53, 56, 101, 50, 102, 99, 99, 101, 102, 97, 55, 101, 51, 48, 54, 49, 51, 54, 55, 102, 49, 100, 53, 55, 97, 52, 101, 55, 52, 53, 53, 97] }
def dw1 : List Nat := [53, 56, 101, 50, 102, 99, 99, 101, 102, 97, 55, 101, 51, 48, 54, 49, 51, 54, 55, 102, 49, 100, 53, 55, 97, 52, 101, 55, 52, 53, 53, 97]
theorem okw1 : HexS sw1 16 (look dw1) := hex_ok (by kernel_rfl)
def sw2 : ByteArray := { data := #[48, 51, 56, 56, 100, 97, 99, 101, 54, 48, 98, 54, 97, 51, 57, 50, 102, 51, 50, 56, 99, 50, 98, 57, 55, 49, 98, 50, 102, 101, 55, 56, 97, 98, 54, 101, 52, 55, 100, 52, 50, 99, 101, 99, 49, 51, 98, 100, 102, 53, 51, 97, 54, 55, 98, 50, 49, 50, 53, 55, 98, 100, 100, 102] }
def dw2 : List Nat := [48, 51, 56, 56, 100, 97, 99, 101, 54, 48, 98, 54, 97, 51, 57, 50, 102, 51, 50, 56, 99, 50, 98, 57, 55, 49, 98, 50, 102, 101, 55, 56, 97, 98, 54, 101, 52, 55, 100, 52, 50, 99, 101, 99, 49, 51, 98, 100, 102, 53, 51, 97, 54, 55, 98, 50, 49, 50, 53, 55, 98, 100, 100, 102]
theorem okw2 : HexS sw2 32 (look dw2) := hex_ok (by kernel_rfl)

set_option maxRecDepth 100000 in
set_option maxHeartbeats 1000000 in
theorem works34_any (w : World) : Calls Try.prog 34 #[] w fun e w' => e = .returned (.bool true) ∧ Ext w w' := by
  have hsl : ∀ W : World, (Instr.slice 9 (.string sz16) none (some (.int .i64 24)) none).run Try.prog W = .ok (.string sz12) W := fun W => by kernel_rfl
  have f16 : ∀ j, j < 16 → hexF (look dz16) j = look lZk j := eq_range (by kernel_rfl)
  have f12 : ∀ j, j < 12 → hexF (look dz12) j = look [] j := eq_range (by kernel_rfl)
  have p16 : ∀ j, j < 16 → hexF (look dz16) j = look xZ2 j := eq_range (by kernel_rfl)
  have g1 : ∀ j, j < 16 → look wZ1 j = hexF (look dw1) j := eq_range (by kernel_rfl)
  have g2 : ∀ j, j < 32 → look wZ2 j = hexF (look dw2) j := eq_range (by kernel_rfl)
  have H1 := Lib.hid (show ∀ i, i < 16 → sealP (4 + 7) (keysP 4 (hexF (look dz16))) (hexF (look dz12)) 0 0 (hexF (look de0)) (hexF (look de0)) i = hexF (look dw1) i from fun i hi => (boxZ1 _ _ _ _ f16 f12 (fun j hj => absurd hj (Nat.not_lt_zero _)) (fun j hj => absurd hj (Nat.not_lt_zero _)) i hi).trans (g1 i hi))
  have H2 := Lib.hid (show ∀ i, i < 32 → sealP (4 + 7) (keysP 4 (hexF (look dz16))) (hexF (look dz12)) 16 0 (hexF (look dz16)) (hexF (look de0)) i = hexF (look dw2) i from fun i hi => (boxZ2 _ _ _ _ f16 f12 p16 (fun j hj => absurd hj (Nat.not_lt_zero _)) i hi).trans (g2 i hi))
  clear f16 f12 p16 g1 g2
  go_enter Try.func34, Try.ntmps34
  go_wp2_with fail
  refine (seals45_any sz16 sz12 se0 se0 sw1 _ _ _ _ _ 0 0 16 _ okz16 okz12 oke0 oke0 okw1 (by omega) (by omega) (by omega) (by omega) H1.out).mono ?_
  rintro e w1 ⟨rfl, hx1⟩
  have HX1 := Lib.hid hx1
  clear hx1
  go_wp2_with fail
  refine (seals45_any sz16 sz12 sz16 se0 sw2 _ _ _ _ _ 16 0 32 _ okz16 okz12 okz16 oke0 okw2 (by omega) (by omega) (by omega) (by omega) H2.out).mono ?_
  rintro e w2 ⟨rfl, hx2⟩
  have HX2 := Lib.hid (HX1.out.trans hx2)
  clear hx2
  go_wp2_with fail
  go_ret
  exact ⟨rfl, HX2.out⟩
end Go.Proofs.Ytnigpobbckampaa
