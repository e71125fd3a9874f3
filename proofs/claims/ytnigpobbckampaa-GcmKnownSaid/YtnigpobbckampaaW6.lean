/- GcmKnown, walked. -/
import Derived.Test.YtnigpobbckampaaW1
import Derived.Test.YtnigpobbckampaaW5
import Derived.Test.YtnigpobbckampaaJ3
import Derived.Test.YtnigpobbckampaaY13
import Derived.BigFrame
namespace Go.Proofs.Ytnigpobbckampaa
open Go.RowKit
set_option linter.unusedSimpArgs false
set_option linter.unusedVariables false

def sKk : ByteArray := { data := #[102, 101, 102, 102, 101, 57, 57, 50, 56, 54, 54, 53, 55, 51, 49, 99, 54, 100, 54, 97, 56, 102, 57, 52, 54, 55, 51, 48, 56, 51, 48, 56] }
def dKk : List Nat := [102, 101, 102, 102, 101, 57, 57, 50, 56, 54, 54, 53, 55, 51, 49, 99, 54, 100, 54, 97, 56, 102, 57, 52, 54, 55, 51, 48, 56, 51, 48, 56]
theorem okKk : HexS sKk 16 (look dKk) := hex_ok (by kernel_rfl)
def sKc : ByteArray := { data := #[99, 97, 102, 101, 98, 97, 98, 101, 102, 97, 99, 101, 100, 98, 97, 100, 100, 101, 99, 97, 102, 56, 56, 56] }
def dKc : List Nat := [99, 97, 102, 101, 98, 97, 98, 101, 102, 97, 99, 101, 100, 98, 97, 100, 100, 101, 99, 97, 102, 56, 56, 56]
theorem okKc : HexS sKc 12 (look dKc) := hex_ok (by kernel_rfl)
def sKp : ByteArray := { data := #[100, 57, 51, 49, 51, 50, 50, 53, 102, 56, 56, 52, 48, 54, 101, 53, 97, 53, 53, 57, 48, 57, 99, 53, 97, 102, 102, 53, 50, 54, 57, 97, 56, 54, 97, 55, 97, 57, 53, 51, 49, 53, 51, 52, 102, 55, 100, 97, 50, 101, 52, 99, 51, 48, 51, 100, 56, 97, 51, 49, 56, 97, 55, 50, 49, 99, 51, 99, 48, 99, 57, 53, 57, 53, 54, 56, 48, 57, 53, 51, 50, 102, 99, 102, 48, 101, 50, 52, 52, 57, 97, 54, 98, 53, 50, 53, 98, 49, 54, 97, 101, 100, 102, 53, 97, 97, 48, 100, 101, 54, 53, 55, 98, 97, 54, 51, 55, 98, 51, 57] }
def dKp : List Nat := [100, 57, 51, 49, 51, 50, 50, 53, 102, 56, 56, 52, 48, 54, 101, 53, 97, 53, 53, 57, 48, 57, 99, 53, 97, 102, 102, 53, 50, 54, 57, 97, 56, 54, 97, 55, 97, 57, 53, 51, 49, 53, 51, 52, 102, 55, 100, 97, 50, 101, 52, 99, 51, 48, 51, 100, 56, 97, 51, 49, 56, 97, 55, 50, 49, 99, 51, 99, 48, 99, 57, 53, 57, 53, 54, 56, 48, 57, 53, 51, 50, 102, 99, 102, 48, 101, 50, 52, 52, 57, 97, 54, 98, 53, 50, 53, 98, 49, 54, 97, 101, 100, 102, 53, 97, 97, 48, 100, 101, 54, 53, 55, 98, 97, 54, 51, 55, 98, 51, 57]
theorem okKp : HexS sKp 60 (look dKp) := hex_ok (by kernel_rfl)
def sKh : ByteArray := { data := #[102, 101, 101, 100, 102, 97, 99, 101, 100, 101, 97, 100, 98, 101, 101, 102, 102, 101, 101, 100, 102, 97, 99, 101, 100, 101, 97, 100, 98, 101, 101, 102, 97, 98, 97, 100, 100, 97, 100, 50] }
def dKh : List Nat := [102, 101, 101, 100, 102, 97, 99, 101, 100, 101, 97, 100, 98, 101, 101, 102, 102, 101, 101, 100, 102, 97, 99, 101, 100, 101, 97, 100, 98, 101, 101, 102, 97, 98, 97, 100, 100, 97, 100, 50]
theorem okKh : HexS sKh 20 (look dKh) := hex_ok (by kernel_rfl)
def sKb : ByteArray := { data := #[52, 50, 56, 51, 49, 101, 99, 50, 50, 49, 55, 55, 55, 52, 50, 52, 52, 98, 55, 50, 50, 49, 98, 55, 56, 52, 100, 48, 100, 52, 57, 99, 101, 51, 97, 97, 50, 49, 50, 102, 50, 99, 48, 50, 97, 52, 101, 48, 51, 53, 99, 49, 55, 101, 50, 51, 50, 57, 97, 99, 97, 49, 50, 101, 50, 49, 100, 53, 49, 52, 98, 50, 53, 52, 54, 54, 57, 51, 49, 99, 55, 100, 56, 102, 54, 97, 53, 97, 97, 99, 56, 52, 97, 97, 48, 53, 49, 98, 97, 51, 48, 98, 51, 57, 54, 97, 48, 97, 97, 99, 57, 55, 51, 100, 53, 56, 101, 48, 57, 49] }
def dKb : List Nat := [52, 50, 56, 51, 49, 101, 99, 50, 50, 49, 55, 55, 55, 52, 50, 52, 52, 98, 55, 50, 50, 49, 98, 55, 56, 52, 100, 48, 100, 52, 57, 99, 101, 51, 97, 97, 50, 49, 50, 102, 50, 99, 48, 50, 97, 52, 101, 48, 51, 53, 99, 49, 55, 101, 50, 51, 50, 57, 97, 99, 97, 49, 50, 101, 50, 49, 100, 53, 49, 52, 98, 50, 53, 52, 54, 54, 57, 51, 49, 99, 55, 100, 56, 102, 54, 97, 53, 97, 97, 99, 56, 52, 97, 97, 48, 53, 49, 98, 97, 51, 48, 98, 51, 57, 54, 97, 48, 97, 97, 99, 57, 55, 51, 100, 53, 56, 101, 48, 57, 49]
theorem okKb : HexS sKb 60 (look dKb) := hex_ok (by kernel_rfl)
def sKt : ByteArray := { data := #[53, 98, 99, 57, 52, 102, 98, 99, 51, 50, 50, 49, 97, 53, 100, 98, 57, 52, 102, 97, 101, 57, 53, 97, 101, 55, 49, 50, 49, 97, 52, 55] }
def dKt : List Nat := [53, 98, 99, 57, 52, 102, 98, 99, 51, 50, 50, 49, 97, 53, 100, 98, 57, 52, 102, 97, 101, 57, 53, 97, 101, 55, 49, 50, 49, 97, 52, 55]
theorem okKt : HexS sKt 16 (look dKt) := hex_ok (by kernel_rfl)
def dKw : List Nat := [52, 50, 56, 51, 49, 101, 99, 50, 50, 49, 55, 55, 55, 52, 50, 52, 52, 98, 55, 50, 50, 49, 98, 55, 56, 52, 100, 48, 100, 52, 57, 99, 101, 51, 97, 97, 50, 49, 50, 102, 50, 99, 48, 50, 97, 52, 101, 48, 51, 53, 99, 49, 55, 101, 50, 51, 50, 57, 97, 99, 97, 49, 50, 101, 50, 49, 100, 53, 49, 52, 98, 50, 53, 52, 54, 54, 57, 51, 49, 99, 55, 100, 56, 102, 54, 97, 53, 97, 97, 99, 56, 52, 97, 97, 48, 53, 49, 98, 97, 51, 48, 98, 51, 57, 54, 97, 48, 97, 97, 99, 57, 55, 51, 100, 53, 56, 101, 48, 57, 49, 53, 98, 99, 57, 52, 102, 98, 99, 51, 50, 50, 49, 97, 53, 100, 98, 57, 52, 102, 97, 101, 57, 53, 97, 101, 55, 49, 50, 49, 97, 52, 55]
theorem okKw : HexS (sKb ++ sKt) 76 (look dKw) := hex_ok (by kernel_rfl)
def dKpp : List Nat := [100, 57, 51, 49, 51, 50, 50, 53, 102, 56, 56, 52, 48, 54, 101, 53, 97, 53, 53, 57, 48, 57, 99, 53, 97, 102, 102, 53, 50, 54, 57, 97, 56, 54, 97, 55, 97, 57, 53, 51, 49, 53, 51, 52, 102, 55, 100, 97, 50, 101, 52, 99, 51, 48, 51, 100, 56, 97, 51, 49, 56, 97, 55, 50, 49, 99, 51, 99, 48, 99, 57, 53, 57, 53, 54, 56, 48, 57, 53, 51, 50, 102, 99, 102, 48, 101, 50, 52, 52, 57, 97, 54, 98, 53, 50, 53, 98, 49, 54, 97, 101, 100, 102, 53, 97, 97, 48, 100, 101, 54, 53, 55, 98, 97, 54, 51, 55, 98, 51, 57, 100, 57, 51, 49, 51, 50, 50, 53, 102, 56, 56, 52, 48, 54, 101, 53, 97, 53, 53, 57, 48, 57, 99, 53, 97, 102, 102, 53, 50, 54, 57, 97, 56, 54, 97, 55, 97, 57, 53, 51, 49, 53, 51, 52, 102, 55, 100, 97, 50, 101, 52, 99, 51, 48, 51, 100, 56, 97, 51, 49, 56, 97, 55, 50, 49, 99, 51, 99, 48, 99, 57, 53, 57, 53, 54, 56, 48, 57, 53, 51, 50, 102, 99, 102, 48, 101, 50, 52, 52, 57, 97, 54, 98, 53, 50, 53, 98, 49, 54, 97, 101, 100, 102, 53, 97, 97, 48, 100, 101, 54, 53, 55, 98, 97, 54, 51, 55, 98, 51, 57]
theorem okKpp : HexS (sKp ++ sKp) 120 (look dKpp) := hex_ok (by kernel_rfl)

theorem wlg_buildR {P : Program} {ops : Array Oper} {rest : List Oper} {o : Oper} {a : Act} {w : World} {Q : Exit → Act → World → Prop} (hw : Region.wanted o (yielded ops a.tmps) = true) (ty : TypeId) (parts : Array (Nat × Operand)) (ho : o.op = .build ty parts) (cs : Array Value)
    (hb : P.built ty (parts.map fun (i, x) => (i, a.eval x)).toList = some cs)
    (h : wpList P ops Q rest (a.put o.dst (.agg cs)) w) : wpList P ops Q (o :: rest) a w :=
  BigFrame.wpList_want hw fun _ hK => by
    have h1 := hK _ _ h
    have hr := run_build w ty _ cs hb
    unfold Oper.wp execOp
    simp only [ho, Sem.run_bind, hr, Result.andThen_ok]
    exact h1
/-- A nonce of one byte and 00s. -/
def oneN (c : Nat) : Nat → Nat := fun j => if j = 0 then c else 0
theorem oneN_lt {c : Nat} (h : c < 256) : ∀ j, j < 12 → oneN c j < 256 := fun j _ => by unfold oneN; split <;> omega
def twoF : Nat → Nat := fun j => j + 1
theorem rd_two (w : World) : RdF (w.alloc (.cells #[.int .u8 1, .int .u8 2] 5)) (.slice (some ⟨w.heap.size, 0, none⟩) 2 2) 2 twoF :=
  rd_of_blk (f := twoF) (Blk.new w 5 (row 2 twoF)) (fun i hi => by unfold twoF; omega)

set_option maxRecDepth 100000 in
set_option maxHeartbeats 1000000 in
theorem gcmknown_any (w : World) : Calls Try.prog 17 #[] w fun e w' => e = .returned (.bool true) ∧ Ext w w' := by
  have fk : ∀ j, j < 16 → hexF (look dKk) j = look lPk j := eq_range (by kernel_rfl)
  have fc : ∀ j, j < 12 → hexF (look dKc) j = look nPk j := eq_range (by kernel_rfl)
  have fp : ∀ j, j < 60 → hexF (look dKp) j = look xPp j := eq_range (by kernel_rfl)
  have fh : ∀ j, j < 20 → hexF (look dKh) j = look hPp j := eq_range (by kernel_rfl)
  have fw : ∀ j, j < 76 → look wPp j = hexF (look dKw) j := eq_range (by kernel_rfl)
  have H1 := Lib.hid (show ∀ i, i < 76 → sealP (4 + 7) (keysP 4 (hexF (look dKk))) (hexF (look dKc)) 60 20 (hexF (look dKp)) (hexF (look dKh)) i = hexF (look dKw) i from fun i hi => (boxPp _ _ _ _ fk fc fp fh i hi).trans (fw i hi))
  clear fk fc fp fh fw
  go_enter Try.func17, Try.ntmps17
  go_wp2_with fail
  refine (seals45_any sKk sKc sKp sKh (sKb ++ sKt) _ _ _ _ _ 60 20 76 _ okKk okKc okKp okKh okKw (by omega) (by omega) (by omega) (by omega) H1.out).mono ?_
  rintro e w1 ⟨rfl, hx1⟩
  have HX1 := Lib.hid hx1
  clear hx1 H1
  go_wp2_with fail
  go_loopw [6] (fun v6 wr => ∃ i : Nat, i ≤ 50 ∧ v6 = .int .i64 i ∧ Ext w1 wr) (fun v6 _ => 50 - (intOf v6).toNat)
  case atStart => exact ⟨0, by omega, rfl, Ext.refl _⟩
  case round =>
    obtain ⟨i, hi, rfl, hx⟩ := hrel
    have HX := Lib.hid hx
    clear hx
    by_cases hi50 : i < 50
    · have hi' : (i : Int) < 50 := by omega
      go_wp2_with fail
      refine (bytes46_any (sKp ++ sKp) 120 _ _ (by omega) okKpp).mono ?_
      rintro e2 w2 ⟨v2, rfl, ho2, hx2⟩
      obtain ⟨gt, ot, ct, rfl, hct, _⟩ := ho2.rd.form (by omega)
      have HT2 := Lib.hid (ho2.rd.head i (by omega))
      have HX2 := Lib.hid (HX.out.trans hx2)
      have h120 : (i : Int) ≤ (ct : Int) := by omega
      clear ho2 hx2 HX
      go_wp2_with (first | (refine wlg_buildR rfl 55 _ rfl (row 12 (oneN 3)) (by kernel_rfl) ?_))
      have HK3 := Lib.hid (own_one w2 1 (by omega)).rd
      have HX3 := Lib.hid (HX2.out.trans (Ext.alloc w2 (.cells #[.int .u8 ((1 : Nat) : Int)] 5)))
      have HT3 := Lib.hid (HT2.out.ext (Ext.alloc w2 (.cells #[.int .u8 ((1 : Nat) : Int)] 5)))
      refine (bytes46_any sKb 60 _ _ (by omega) okKb).mono ?_
      rintro e4 w4 ⟨v4, rfl, ho4, hx4⟩
      obtain ⟨gx, ox, cx, rfl, hcx, _⟩ := ho4.rd.form (by omega)
      have HB4 := Lib.hid (ho4.rd.head i (by omega))
      have HK4 := Lib.hid (HK3.out.ext hx4)
      have HT4 := Lib.hid (HT3.out.ext hx4)
      have HX4 := Lib.hid (HX3.out.trans hx4)
      have h60 : (i : Int) ≤ (cx : Int) := by omega
      clear ho4 hx4 HK3 HT3 HX3 HT2 HX2
      go_wp2_with (first | (refine wlg_buildR rfl 56 _ rfl #[(.slice (some ⟨gt, ot, none⟩) i ct), (.slice (some ⟨gx, ox, none⟩) i cx)] (by kernel_rfl) ?_))
      refine (gcmseals_any _ 1 (fun _ => 1) (oneN 3) _ _ i _ i _ _ (by omega) HK4.out (oneN_lt (by omega)) (by omega) HT4.out (by omega) HB4.out).mono ?_
      rintro e5 w5 ⟨rfl, hx5⟩
      have HT5 := Lib.hid (HT4.out.ext hx5)
      have HX5 := Lib.hid (HX4.out.trans hx5)
      clear hx5 HT4 HX4 HB4 HK4
      go_wp2_with (first | (refine wlg_buildR rfl 55 _ rfl (row 12 (oneN 5)) (by kernel_rfl) ?_) | (refine wlg_buildR rfl 56 _ rfl #[(.slice (some ⟨gt, ot, none⟩) i ct), (.slice (some ⟨gt, ot, none⟩) i ct)] (by kernel_rfl) ?_))
      have HT6 := Lib.hid (HT5.out.ext (Ext.alloc w5 (.cells #[.int .u8 1, .int .u8 2] 5)))
      have HX6 := Lib.hid (HX5.out.trans (Ext.alloc w5 (.cells #[.int .u8 1, .int .u8 2] 5)))
      refine (gcmback_any _ 2 twoF (oneN 5) _ _ i _ i _ _ (by omega) (rd_two w5) (oneN_lt (by omega)) (by omega) HT6.out (by omega) HT6.out).mono ?_
      rintro e7 w7 ⟨rfl, hx7⟩
      have HT7 := Lib.hid (HT6.out.ext hx7)
      have HX7 := Lib.hid (HX6.out.trans hx7)
      clear hx7 HT5 HX5 HT6 HX6
      go_wp2_with (first | (refine wlg_buildR rfl 55 _ rfl (row 12 fun _ => 0) (by kernel_rfl) ?_) | (refine wlg_buildR rfl 56 _ rfl #[(.slice (some ⟨gt, ot, none⟩) i ct), .slice none 0 0] (by kernel_rfl) ?_))
      refine (gcmopens_any _ i _ (fun _ => 0) _ _ i _ 0 (fun _ => 0) _ (by omega) HT7.out (fun _ _ => by omega) (by omega) HT7.out (by omega) nilRd).mono ?_
      rintro e8 w8 ⟨rfl, hx8⟩
      have HX8 := Lib.hid (HX7.out.trans hx8)
      clear hx8 HT7 HX7
      go_wp2_with fail
      go_roundw
      case rel => exact ⟨i + 1, by omega, by go_num, HX8.out⟩
      case measure => simp [intOf]; omega
    · obtain rfl : i = 50 := by omega
      have hi' : ¬ ((50 : Nat) : Int) < 50 := by omega
      go_wp2_with (refine wl_makeF rfl _ _ rfl 16 16 rfl rfl (by omega) (by omega) ?_)
      have hk0 : RdF (wr.alloc (.cells (row 16 fun _ => 0) 5)) (.slice (some ⟨wr.heap.size, 0, none⟩) 16 16) 16 (fun _ => 0) := rd_of_blk (Blk.new _ _ _) (fun _ _ => by omega)
      have hxk : Ext w (wr.alloc (.cells (row 16 fun _ => 0) 5)) := (HX1.out.trans HX.out).trans (Ext.alloc _ _)
      refine (new4_any _ (fun _ => 0) _ hk0).mono ?_
      rintro e2 w2 ⟨b, rfl, hC, _, hx2⟩
      have HC2 := Lib.hid hC
      have HX2 := Lib.hid (hxk.trans hx2)
      clear hC hx2 hk0 hxk HX
      go_wp2_with (first | (refine wl_makeF rfl _ _ rfl 65537 65537 rfl rfl (by omega) (by omega) ?_; have hbig : RdF (w2.alloc (.cells (row 65537 fun _ => 0) 5)) (.slice (some ⟨w2.heap.size, 0, none⟩) 65537 65537) 65537 (fun _ => 0) := rd_of_blk (Blk.new _ _ _) (fun _ _ => by omega); have hxb : Ext w2 (w2.alloc (.cells (row 65537 fun _ => 0) 5)) := Ext.alloc _ _; generalize w2.alloc (.cells (row 65537 fun _ => 0) 5) = wS at hbig hxb ⊢; generalize w2.heap.size = gB at hbig ⊢; have HBIG := Lib.hid hbig; have HXS := Lib.hid (HX2.out.trans hxb); have HCS := Lib.hid (HC2.out.ext hxb); clear hbig hxb HX2 HC2) | (refine wlg_buildR rfl 55 _ rfl (row 12 fun _ => 0) (by kernel_rfl) ?_))
      refine (seal39_any _ _ 65536 0 b (4 + 7) (fun _ => 0) (fun _ => 0) (fun _ => 0) (keysP 4 fun _ => 0) _ (by omega) (by omega) (HBIG.out.head 65536 (by omega)) nilRd (fun _ _ => by omega) HCS.out (by omega) (by omega)).mono ?_
      rintro e3 w3 ⟨v3, rfl, ho3, hx3⟩
      obtain ⟨gf, of, cf, rfl, hcf, _⟩ := ho3.rd.form (by omega)
      have HF3 := Lib.hid ho3
      have HX3 := Lib.hid (show Ext wS w3 from hx3)
      clear ho3 hx3
      go_wp2_with (refine wlg_buildR rfl 55 _ rfl (row 12 fun _ => 0) (by kernel_rfl) ?_)
      refine (seal39_limit (some ⟨gB, 0, none⟩) none 65537 65537 0 0 b (fun _ => 0) _ (.inl (by omega))).mono ?_
      rintro e4 w4 ⟨rfl, hx4⟩
      have HF4 := Lib.hid (HF3.out.ext hx4)
      have HX4 := Lib.hid (HX3.out.trans hx4)
      clear hx4 HF3 HX3
      go_wp2_with (refine wlg_buildR rfl 55 _ rfl (row 12 fun _ => 0) (by kernel_rfl) ?_)
      refine (seal39_limit none (some ⟨gB, 0, none⟩) 0 0 65537 65537 b (fun _ => 0) _ (.inr (by omega))).mono ?_
      rintro e5 w5 ⟨rfl, hx5⟩
      have HF5 := Lib.hid (HF4.out.ext hx5)
      have HX5 := Lib.hid (HX4.out.trans hx5)
      have hs5 := HX5.out.size
      clear hx5 HF4 HX4
      have HO1 := Lib.hid (own_one w5 0 (by omega)).rd
      have HF6 := Lib.hid (HF5.out.ext (Ext.alloc w5 (.cells #[.int .u8 ((0 : Nat) : Int)] 5)))
      have HX6 := Lib.hid (HX5.out.trans (Ext.alloc w5 (.cells #[.int .u8 ((0 : Nat) : Int)] 5)))
      have hs6 : wS.heap.size ≤ (w5.alloc (.cells #[.int .u8 ((0 : Nat) : Int)] 5)).heap.size := HX6.out.size
      go_wp2_with (first | (refine wlg_buildR rfl 55 _ rfl (row 12 fun _ => 0) (by kernel_rfl) ?_) | (refine wl_appendO rfl (.tmp 103) (.tmp 104) rfl wS.heap.size _ _ (65536 + 16) 1 (sealP (4 + 7) (keysP 4 fun _ => 0) (fun _ => 0) 65536 0 (fun _ => 0) fun _ => 0) (fun _ => 0) (fun j => if j < 65536 + 16 then (sealP (4 + 7) (keysP 4 fun _ => 0) (fun _ => 0) 65536 0 (fun _ => 0) fun _ => 0) j else 0) rfl rfl HF6.out HO1.out hs6 (by omega) (by omega) (fun i hi => if_pos hi) (fun j hj => if_neg (by omega)) ?_; intro v7 w7 hr7 hb7 hf7; obtain ⟨ao7, ac7, rfl, _⟩ := hr7.len; have HX7 := Lib.hid (show Ext wS w7 from Below.trans HX6.out hb7); have HF7 := Lib.hid hf7; clear hr7 hb7 hf7 HO1 HF6 HX6 hs6 hs5 HF5 HX5))
      refine (open42_limit ao7 none (65536 + 16 + 1) ac7 0 0 b (fun _ => 0) _ (.inl (by omega))).mono ?_
      rintro e8 w8 ⟨rfl, hx8⟩
      have HF8 := Lib.hid (HF7.out.ext hx8)
      have HX8 := Lib.hid (HX7.out.trans hx8)
      clear hx8 HF7 HX7
      go_wp2_with (refine wlg_buildR rfl 55 _ rfl (row 12 fun _ => 0) (by kernel_rfl) ?_)
      refine (opened42_any _ _ 65536 0 b (4 + 7) (fun _ => 0) (fun _ => 0) (fun _ => 0) (keysP 4 fun _ => 0) _ (by omega) (by omega) HF8.out nilRd (fun _ _ => by omega) (HCS.out.ext HX8.out) (by omega) (by omega)).mono ?_
      rintro e9 w9 ⟨v9, rfl, ho9, hx9⟩
      obtain ⟨po, pc, rfl, _⟩ := ho9.rd.len
      have HX9 := Lib.hid (HX8.out.trans hx9)
      clear ho9 hx9 HF8 HX8
      go_wp2_with (refine wlg_buildR rfl 55 _ rfl (row 12 fun _ => 0) (by kernel_rfl) ?_)
      refine (open42_limit (some ⟨gf, of, none⟩) (some ⟨gB, 0, none⟩) (65536 + 16) cf 65537 65537 b (fun _ => 0) _ (.inr (by omega))).mono ?_
      rintro e10 w10 ⟨rfl, hx10⟩
      have HX10 := Lib.hid (HX9.out.trans hx10)
      clear hx10 HX9
      go_wp2_with (refine wlg_buildR rfl 55 _ rfl (row 12 fun _ => 0) (by kernel_rfl) ?_)
      refine (seal39_nil none none 0 0 0 0 (fun _ => 0) _).mono ?_
      rintro e11 w11 ⟨rfl, hx11⟩
      have HX11 := Lib.hid (HX10.out.trans hx11)
      clear hx11 HX10
      go_wp2_with (refine wlg_buildR rfl 55 _ rfl (row 12 fun _ => 0) (by kernel_rfl) ?_)
      refine (open42_nil none none 0 0 0 0 (fun _ => 0) _).mono ?_
      rintro e12 w12 ⟨rfl, hx12⟩
      have HX12 := Lib.hid (HX11.out.trans hx12)
      clear hx12 HX11
      go_wp2_with (first | (refine wlg_buildR rfl 55 _ rfl (row 12 fun _ => 0) (by kernel_rfl) ?_) | (refine wl_makeF rfl _ _ rfl 15 15 rfl rfl (by omega) (by omega) ?_))
      have h15 : RdF (w12.alloc (.cells (row 15 fun _ => 0) 5)) (.slice (some ⟨w12.heap.size, 0, none⟩) 15 15) 15 (fun _ => 0) := rd_of_blk (Blk.new _ _ _) (fun _ _ => by omega)
      have hx15 : Ext wS (w12.alloc (.cells (row 15 fun _ => 0) 5)) := HX12.out.trans (Ext.alloc _ _)
      refine (open42_any _ _ 15 0 b (4 + 7) (fun _ => 0) (fun _ => 0) (fun _ => 0) (keysP 4 fun _ => 0) _ (by omega) (by omega) h15 nilRd (fun _ _ => by omega) (HCS.out.ext hx15) (by omega) (by omega)).mono ?_
      rintro e13 w13 ⟨hx13, h13⟩
      obtain rfl : e13 = .returned (.tuple #[.slice none 0 0, .int .i64 80]) := by
        rcases h13 with ⟨⟨h, _⟩, _⟩ | ⟨_, h⟩
        · omega
        · exact h
      have HX13 := Lib.hid ((HXS.out.trans hx15).trans hx13)
      clear hx13 h13 hx15 h15 HX12
      go_wp2_with fail
      refine (works34_any _).mono ?_
      rintro e14 w14 ⟨rfl, hx14⟩
      have HX14 := Lib.hid (HX13.out.trans hx14)
      clear hx14
      go_wp2_with fail
      go_ret
      exact ⟨rfl, HX14.out⟩
end Go.Proofs.Ytnigpobbckampaa
