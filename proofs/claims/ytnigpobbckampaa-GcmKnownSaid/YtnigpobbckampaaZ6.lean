/- The law's key, walked; ciphers of such keys. -/
import Derived.Test.YtnigpobbckampaaL
import Derived.Test.YtnigpobbckampaaE8
import Derived.Test.YtnigpobbckampaaE4
namespace Go.Proofs.Ytnigpobbckampaa
open Go.RowKit
set_option linter.unusedSimpArgs false
set_option linter.unusedVariables false

/-- The first n of f, then 0. -/
def keyF (n : Nat) (f : Nat → Nat) : Nat → Nat := fun i => if i < n then f i else 0

theorem keyF_lt {n : Nat} {f : Nat → Nat} (h : ∀ i, i < n → f i < 256) (N : Nat) : ∀ i, i < N → keyF n f i < 256 := by
  intro i _
  unfold keyF
  split
  · exact h i (by assumption)
  · omega
theorem rd_of_blk {w : World} {g n : Nat} {t : TypeId} {f : Nat → Nat} (h : Blk w g t (row n f)) (hf : ∀ i, i < n → f i < 256) : RdF w (.slice (some ⟨g, 0, none⟩) n n) n f := by
  refine ⟨_, _, rfl, Nat.le_refl _, fun h => (by cases h), fun i hi => ⟨hf i hi, _, rfl, ?_⟩⟩
  rw [Addr.add_lit, Nat.zero_add]
  exact h.byte i hi

set_option maxRecDepth 100000 in
set_option maxHeartbeats 1000000 in
theorem key38_any (v : Value) (n : Nat) (f : Nat → Nat) (w : World) (hn : n ≤ 9223372036854775807) (hv : RdF w v n f) :
    Calls Try.prog 38 #[v] w fun e w' => ∃ v', e = .returned v' ∧ OwnF w' w.heap.size v' (16 + 16 * (n % 2)) (keyF n f) ∧ Ext w w' := by
  obtain ⟨ao, cap, rfl, hcap⟩ := hv.len
  have HV := Lib.hid hv
  clear hv
  go_enter Try.func38, Try.ntmps38
  rcases Nat.mod_two_eq_zero_or_one n with h | h
  · have hr : (n : Int) % 2 = 0 := by omega
    go_wp2_with (refine wl_makeF rfl _ _ rfl 16 16 rfl rfl (by omega) (by omega) ?_)
    have hK0 : Blk (w.alloc (.cells (row 16 fun _ => 0) 5)) w.heap.size 5 (row 16 fun _ => 0) := Blk.new _ _ _
    have hx0 : Ext w (w.alloc (.cells (row 16 fun _ => 0) 5)) := Ext.alloc _ _
    clear hr
    obtain ⟨gk, hgk⟩ : ∃ g, g = w.heap.size := ⟨_, rfl⟩
    rw [← hgk] at hK0 ⊢
    generalize w.alloc (.cells (row 16 fun _ => 0) 5) = w1 at hK0 hx0 ⊢
    have HG := Lib.hid hgk
    clear hgk
    go_wp2_with fail
    go_loopw [4] (fun v4 wr => ∃ k : Nat, k ≤ 16 ∧ k ≤ n ∧ v4 = .int .i64 k ∧ Blk wr gk 5 (row 16 (mixF k f fun _ => 0)) ∧ Ext w wr) (fun v4 _ => 16 - (intOf v4).toNat)
    case atStart => exact ⟨0, by omega, by omega, rfl, by rw [mixF_zero]; exact hK0, hx0⟩
    case round =>
      clear hK0 hx0
      obtain ⟨k, hk, hkn, rfl, hK, hx⟩ := hrel
      have HK := Lib.hid hK
      have HX := Lib.hid hx
      clear hK hx
      by_cases hgo : k < 16 ∧ k < n
      · have h1' : (k : Int) < 16 := by omega
        have h2' : (k : Int) < (n : Int) := by omega
        obtain ⟨g, off, cap', hs, _, hf⟩ := (HV.out.ext HX.out).form (by omega)
        obtain ⟨rfl, rfl⟩ : ao = some ⟨g, off, none⟩ ∧ cap = cap' := by cases hs; exact ⟨rfl, rfl⟩
        have hc := (hf k hgo.2).2
        have ht := HK.out.byte k hgo.1
        have hfr := HK.out.frozen k
        clear hf hs
        go_wp2_with fail
        go_roundw
        case rel =>
          refine ⟨k + 1, by omega, by omega, by go_num, ?_, HX.out.setCell (Nat.le_of_eq HG.out.symm) _⟩
          rw [← mixF_upd]
          exact HK.out.setB k _
        case measure => simp [intOf]; omega
      · have hkf : row 16 (mixF k f fun _ => 0) = row 16 (keyF n f) := row_congr fun j hj => by
          simp only [mixF, keyF]
          by_cases h1 : j < k
          · rw [if_pos h1, if_pos (by omega)]
          · rw [if_neg h1, if_neg (by omega)]
        have hb := HK.out
        rw [hkf] at hb
        have HB := Lib.hid hb
        have HE := Lib.hid (show OwnF wr w.heap.size (.slice (some ⟨gk, 0, none⟩) 16 16) 16 (keyF n f) from by
          exact .inr ⟨gk, 0, 16, 5, _, rfl, Nat.le_of_eq HG.out.symm, HB.out, Nat.le_refl _, by simp [row_size], fun i hi => ⟨keyF_lt HV.out.lt 16 i hi, by rw [Nat.zero_add]; exact row_get _ _ i hi⟩⟩)
        clear hkf hb HK HB
        by_cases h1 : k < 16
        · have h1' : (k : Int) < 16 := by omega
          have h2' : ¬ (k : Int) < (n : Int) := by omega
          go_wp2_with fail
          refine bodyPost_ret (v := .slice (some ⟨gk, 0, none⟩) 16 16) (by kernel_rfl) rfl ?_
          exact ⟨_, rfl, HE.out, HX.out⟩
        · have h1' : ¬ (k : Int) < 16 := by omega
          go_wp2_with fail
          refine bodyPost_ret (v := .slice (some ⟨gk, 0, none⟩) 16 16) (by kernel_rfl) rfl ?_
          exact ⟨_, rfl, HE.out, HX.out⟩
  · have hr : (n : Int) % 2 = 1 := by omega
    go_wp2_with (refine wl_makeF rfl _ _ rfl 32 32 rfl rfl (by omega) (by omega) ?_)
    have hK0 : Blk (w.alloc (.cells (row 32 fun _ => 0) 5)) w.heap.size 5 (row 32 fun _ => 0) := Blk.new _ _ _
    have hx0 : Ext w (w.alloc (.cells (row 32 fun _ => 0) 5)) := Ext.alloc _ _
    clear hr
    obtain ⟨gk, hgk⟩ : ∃ g, g = w.heap.size := ⟨_, rfl⟩
    rw [← hgk] at hK0 ⊢
    generalize w.alloc (.cells (row 32 fun _ => 0) 5) = w1 at hK0 hx0 ⊢
    have HG := Lib.hid hgk
    clear hgk
    go_wp2_with fail
    go_loopw [4] (fun v4 wr => ∃ k : Nat, k ≤ 32 ∧ k ≤ n ∧ v4 = .int .i64 k ∧ Blk wr gk 5 (row 32 (mixF k f fun _ => 0)) ∧ Ext w wr) (fun v4 _ => 32 - (intOf v4).toNat)
    case atStart => exact ⟨0, by omega, by omega, rfl, by rw [mixF_zero]; exact hK0, hx0⟩
    case round =>
      clear hK0 hx0
      obtain ⟨k, hk, hkn, rfl, hK, hx⟩ := hrel
      have HK := Lib.hid hK
      have HX := Lib.hid hx
      clear hK hx
      by_cases hgo : k < 32 ∧ k < n
      · have h1' : (k : Int) < 32 := by omega
        have h2' : (k : Int) < (n : Int) := by omega
        obtain ⟨g, off, cap', hs, _, hf⟩ := (HV.out.ext HX.out).form (by omega)
        obtain ⟨rfl, rfl⟩ : ao = some ⟨g, off, none⟩ ∧ cap = cap' := by cases hs; exact ⟨rfl, rfl⟩
        have hc := (hf k hgo.2).2
        have ht := HK.out.byte k hgo.1
        have hfr := HK.out.frozen k
        clear hf hs
        go_wp2_with fail
        go_roundw
        case rel =>
          refine ⟨k + 1, by omega, by omega, by go_num, ?_, HX.out.setCell (Nat.le_of_eq HG.out.symm) _⟩
          rw [← mixF_upd]
          exact HK.out.setB k _
        case measure => simp [intOf]; omega
      · have hkf : row 32 (mixF k f fun _ => 0) = row 32 (keyF n f) := row_congr fun j hj => by
          simp only [mixF, keyF]
          by_cases h1 : j < k
          · rw [if_pos h1, if_pos (by omega)]
          · rw [if_neg h1, if_neg (by omega)]
        have hb := HK.out
        rw [hkf] at hb
        have HB := Lib.hid hb
        have HE := Lib.hid (show OwnF wr w.heap.size (.slice (some ⟨gk, 0, none⟩) 32 32) 32 (keyF n f) from by
          exact .inr ⟨gk, 0, 32, 5, _, rfl, Nat.le_of_eq HG.out.symm, HB.out, Nat.le_refl _, by simp [row_size], fun i hi => ⟨keyF_lt HV.out.lt 32 i hi, by rw [Nat.zero_add]; exact row_get _ _ i hi⟩⟩)
        clear hkf hb HK HB
        by_cases h1 : k < 32
        · have h1' : (k : Int) < 32 := by omega
          have h2' : ¬ (k : Int) < (n : Int) := by omega
          go_wp2_with fail
          refine bodyPost_ret (v := .slice (some ⟨gk, 0, none⟩) 32 32) (by kernel_rfl) rfl ?_
          exact ⟨_, rfl, HE.out, HX.out⟩
        · have h1' : ¬ (k : Int) < 32 := by omega
          go_wp2_with fail
          refine bodyPost_ret (v := .slice (some ⟨gk, 0, none⟩) 32 32) (by kernel_rfl) rfl ?_
          exact ⟨_, rfl, HE.out, HX.out⟩
def Kn (n : Nat) : Nat := if n % 2 = 0 then 4 + 7 else 8 + 7
def ksn (n : Nat) (f : Nat → Nat) : Nat → Nat → Nat := if n % 2 = 0 then keysP 4 f else keysP 8 f
theorem Kn_ge (n : Nat) : 2 ≤ Kn n := by unfold Kn; split <;> omega
theorem Kn_le (n : Nat) : Kn n ≤ 1000 := by unfold Kn; split <;> omega
theorem Kn_ge1 (n : Nat) : 1 ≤ Kn n := by unfold Kn; split <;> omega
theorem ksn_lt (n : Nat) (f : Nat → Nat) (hf : ∀ i, i < 16 + 16 * (n % 2) → f i < 256) : ∀ i, i < Kn n → ∀ j, j < 16 → ksn n f i j < 256 := by
  intro i hi j hj
  unfold Kn at hi
  unfold ksn
  rcases Nat.mod_two_eq_zero_or_one n with h | h
  · rw [if_pos h] at hi ⊢
    exact keysP_lt 4 (by omega) f (fun m hm => hf m (by omega)) i j hi hj
  · rw [if_neg (by omega)] at hi ⊢
    exact keysP_lt 8 (by omega) f (fun m hm => hf m (by omega)) i j hi hj

theorem newk19_any (v : Value) (n : Nat) (f : Nat → Nat) (w : World) (hv : RdF w v (16 + 16 * (n % 2)) f) :
    Calls Try.prog 19 #[v] w fun e w' => ∃ b, e = .returned (.tuple #[.pointer (some ⟨b, 0, none⟩), .int .i64 0]) ∧ Cph w' b (Kn n) (ksn n f) ∧ Ext w w' := by
  unfold Kn ksn
  rcases Nat.mod_two_eq_zero_or_one n with h | h
  · rw [if_pos h, if_pos h]
    rw [h] at hv
    exact (new4_any v f w hv).mono fun e w' ⟨b, h1, h2, _, h3⟩ => ⟨b, h1, h2, h3⟩
  · rw [if_neg (by omega), if_neg (by omega)]
    rw [h] at hv
    exact (new8_any v f w hv).mono fun e w' ⟨b, h1, h2, _, h3⟩ => ⟨b, h1, h2, h3⟩
/-- The first k of a slice. -/
theorem RdF.head {w : World} {ao : Option Addr} {n cap : Nat} {f : Nat → Nat} (h : RdF w (.slice ao n cap) n f) (m : Nat) (hm : m ≤ n) : RdF w (.slice ao m cap) m f := by
  obtain ⟨a1, c1, e, h1, h2, h3⟩ := h
  cases e
  exact ⟨_, _, rfl, by omega, h2, fun i hi => h3 i (by omega)⟩
end Go.Proofs.Ytnigpobbckampaa
