/- The law's hexadecimal digits, walked. EqBytes, walked. -/
import Derived.Test.YtnigpobbckampaaY9
import Derived.Test.YtnigpobbckampaaL
import Derived.Deep.DeepCutAuto
import Derived.Laws.BytesString
namespace Go.Proofs.Ytnigpobbckampaa
open Go.RowKit
set_option linter.unusedSimpArgs false
set_option linter.unusedVariables false

def dig (c : Nat) : Nat := if 97 ≤ c then c - 87 else c - 48

set_option maxRecDepth 100000 in
set_option maxHeartbeats 1000000 in
theorem digit_any (c : Nat) (h1 : 48 ≤ c) (h2 : c < 103) (w : World) : Calls Try.prog 67 #[.int .u8 c] w fun e w' => e = .returned (.int .u8 ((dig c : Nat) : Int)) ∧ w = w' := by
  by_cases h : 97 ≤ c
  · have h' : (97 : Int) ≤ (c : Int) := by omega
    have e : ((c : Int) - 97 + 10) = ((dig c : Nat) : Int) := by unfold dig; rw [if_pos h]; omega
    go_enter Try.func67, Try.ntmps67
    go_wp2_with fail
    go_ret
    exact ⟨rfl, rfl⟩
  · have h' : ¬ (97 : Int) ≤ (c : Int) := by omega
    have e : ((c : Int) - 48) = ((dig c : Nat) : Int) := by unfold dig; rw [if_neg h]; omega
    go_enter Try.func67, Try.ntmps67
    go_wp2_with fail
    go_ret
    exact ⟨rfl, rfl⟩
theorem dig_lt {c : Nat} (h1 : 48 ≤ c) (h2 : c < 103) (h3 : c < 58 ∨ 97 ≤ c) : dig c < 16 := by
  unfold dig
  split <;> omega

/-- Bytes of digits. -/
def hexF (cs : Nat → Nat) : Nat → Nat := fun j => dig (cs (2 * j)) * 16 + dig (cs (2 * j + 1))
/-- s has 2m hexadecimal digits cs. -/
def HexS (s : ByteArray) (m : Nat) (cs : Nat → Nat) : Prop := s.size = 2 * m ∧ ∀ i (h : i < s.size), (s[i]'h).toNat = cs i ∧ 48 ≤ cs i ∧ cs i < 103 ∧ (cs i < 58 ∨ 97 ≤ cs i)

set_option maxRecDepth 100000 in
set_option maxHeartbeats 1000000 in
theorem bytes46_any (s : ByteArray) (m : Nat) (cs : Nat → Nat) (w : World) (hm : m ≤ 1000) (hs : HexS s m cs) : Calls Try.prog 46 #[.string s] w fun e w' => ∃ v', e = .returned v' ∧ OwnF w' w.heap.size v' m (hexF cs) ∧ Ext w w' := by
  obtain ⟨hsz, hcs⟩ := hs
  have HC := Lib.hid hcs
  have hszi : (s.size : Int) = 2 * (m : Int) := by omega
  clear hcs
  go_enter Try.func46, Try.ntmps46
  go_wp2_with fail
  go_loopw [3, 4] (fun v3 v4 wr => ∃ j : Nat, j ≤ m ∧ v4 = .int .i64 ((2 * j : Nat) : Int) ∧ OwnF wr w.heap.size v3 j (hexF cs) ∧ Ext w wr) (fun _ v4 _ => 2 * m - (intOf v4).toNat)
  case atStart => exact ⟨0, by omega, rfl, .inl ⟨rfl, rfl⟩, Ext.refl _⟩
  case round =>
    obtain ⟨j, hj, rfl, ho, hx⟩ := hrel
    have HO := Lib.hid ho
    have HX := Lib.hid hx
    have hxs := hx.size
    clear ho hx
    by_cases hjm : j < m
    · have hj' : (2 * (j : Int) + 1) < (s.size : Int) := by omega
      obtain ⟨ha, ha1, ha2, ha3⟩ := HC.out (2 * j) (by omega)
      obtain ⟨hb, hb1, hb2, hb3⟩ := HC.out (2 * j + 1) (by omega)
      have i1 : ∀ W : World, (Instr.index 9 (.string s) (.int .i64 (2 * (j : Int)))).run Try.prog W = .ok (.int .u8 ((cs (2 * j) : Nat) : Int)) W := fun W => by
        rw [run_index_string W 9 s .i64 (2 * (j : Int)) Try.underlying9, dif_pos (by omega)]
        congr 2
        have e : (2 * (j : Int)).toNat = 2 * j := by omega
        simp only [e, ha]
      have i2 : ∀ W : World, (Instr.index 9 (.string s) (.int .i64 (2 * (j : Int) + 1))).run Try.prog W = .ok (.int .u8 ((cs (2 * j + 1) : Nat) : Int)) W := fun W => by
        rw [run_index_string W 9 s .i64 (2 * (j : Int) + 1) Try.underlying9, dif_pos (by omega)]
        congr 2
        have e : (2 * (j : Int) + 1).toNat = 2 * j + 1 := by omega
        simp only [e, hb]
      have la := dig_lt ha1 ha2 ha3
      have lb := dig_lt hb1 hb2 hb3
      have HV := Lib.hid (show bits .or .u8 (((dig (cs (2 * j)) : Nat) : Int) * 16) ((dig (cs (2 * j + 1)) : Nat) : Int) = ((hexF cs j : Nat) : Int) from by
        rw [show (((dig (cs (2 * j)) : Nat) : Int) * 16) = ((dig (cs (2 * j)) * 16 : Nat) : Int) by omega, u8_or_nat _ _ (by omega) (by omega)]
        have h := Nat.two_pow_add_eq_or_of_lt (i := 4) (b := dig (cs (2 * j + 1))) (by omega) (dig (cs (2 * j)))
        rw [show (2 : Nat) ^ 4 = 16 from rfl, Nat.mul_comm] at h
        rw [← h]
        rfl)
      clear ha hb
      go_upto_region 5 with fail
      apply wp_region_mid 13 [.det _, .det _, .det _, .det _, .det _, .det _, .det _, .det _, .det _, .det _, .det _, .det _, .any (One wr (.int .u8 ((hexF cs j : Nat) : Int)))] (by kernel_rfl) rfl (by kernel_rfl)
      · (first | (refine wpE_move rfl rfl rfl ?_; simp only [put_lit, eval_lit, BigFrame.eval_const, List.set_cons_succ, List.set_cons_zero, List.getD_cons_succ, List.getD_cons_zero]) | (refine wpE_run rfl rfl (by simp) (fun w1 hx1 _ K hK => by go_step; exact hK _ (Ext.refl _)) ?_; simp only [put_lit, List.set_cons_succ, List.set_cons_zero]))
        (first | (refine wpE_move rfl rfl rfl ?_; simp only [put_lit, eval_lit, BigFrame.eval_const, List.set_cons_succ, List.set_cons_zero, List.getD_cons_succ, List.getD_cons_zero]) | (refine wpE_run rfl rfl (by simp) (fun w1 hx1 _ K hK => by go_step; exact hK _ (Ext.refl _)) ?_; simp only [put_lit, List.set_cons_succ, List.set_cons_zero]))
        (first | (refine wpE_move rfl rfl rfl ?_; simp only [put_lit, eval_lit, BigFrame.eval_const, List.set_cons_succ, List.set_cons_zero, List.getD_cons_succ, List.getD_cons_zero]) | (refine wpE_run rfl rfl (by simp) (fun w1 hx1 _ K hK => by go_step; exact hK _ (Ext.refl _)) ?_; simp only [put_lit, List.set_cons_succ, List.set_cons_zero]))
        (first | (refine wpE_move rfl rfl rfl ?_; simp only [put_lit, eval_lit, BigFrame.eval_const, List.set_cons_succ, List.set_cons_zero, List.getD_cons_succ, List.getD_cons_zero]) | (refine wpE_run rfl rfl (by simp) (fun w1 hx1 _ K hK => by go_step; exact hK _ (Ext.refl _)) ?_; simp only [put_lit, List.set_cons_succ, List.set_cons_zero]))
        (refine wpE_run rfl rfl (by simp) (fun w1 hx1 _ K9 hK9 => by go_wp2_with (go_at_call 67; refine (digit_any (cs (2 * j)) ha1 ha2 _).mono ?_; rintro e w2 ⟨rfl, rfl⟩; exact hK9 _ (Ext.refl _))) ?_)
        simp only [put_lit, List.set_cons_succ, List.set_cons_zero]
        (first | (refine wpE_move rfl rfl rfl ?_; simp only [put_lit, eval_lit, BigFrame.eval_const, List.set_cons_succ, List.set_cons_zero, List.getD_cons_succ, List.getD_cons_zero]) | (refine wpE_run rfl rfl (by simp) (fun w1 hx1 _ K hK => by go_step; exact hK _ (Ext.refl _)) ?_; simp only [put_lit, List.set_cons_succ, List.set_cons_zero]))
        (first | (refine wpE_move rfl rfl rfl ?_; simp only [put_lit, eval_lit, BigFrame.eval_const, List.set_cons_succ, List.set_cons_zero, List.getD_cons_succ, List.getD_cons_zero]) | (refine wpE_run rfl rfl (by simp) (fun w1 hx1 _ K hK => by go_step; exact hK _ (Ext.refl _)) ?_; simp only [put_lit, List.set_cons_succ, List.set_cons_zero]))
        (first | (refine wpE_move rfl rfl rfl ?_; simp only [put_lit, eval_lit, BigFrame.eval_const, List.set_cons_succ, List.set_cons_zero, List.getD_cons_succ, List.getD_cons_zero]) | (refine wpE_run rfl rfl (by simp) (fun w1 hx1 _ K hK => by go_step; exact hK _ (Ext.refl _)) ?_; simp only [put_lit, List.set_cons_succ, List.set_cons_zero]))
        (first | (refine wpE_move rfl rfl rfl ?_; simp only [put_lit, eval_lit, BigFrame.eval_const, List.set_cons_succ, List.set_cons_zero, List.getD_cons_succ, List.getD_cons_zero]) | (refine wpE_run rfl rfl (by simp) (fun w1 hx1 _ K hK => by go_step; exact hK _ (Ext.refl _)) ?_; simp only [put_lit, List.set_cons_succ, List.set_cons_zero]))
        (first | (refine wpE_move rfl rfl rfl ?_; simp only [put_lit, eval_lit, BigFrame.eval_const, List.set_cons_succ, List.set_cons_zero, List.getD_cons_succ, List.getD_cons_zero]) | (refine wpE_run rfl rfl (by simp) (fun w1 hx1 _ K hK => by go_step; exact hK _ (Ext.refl _)) ?_; simp only [put_lit, List.set_cons_succ, List.set_cons_zero]))
        (refine wpE_run rfl rfl (by simp) (fun w1 hx1 _ K9 hK9 => by go_wp2_with (go_at_call 67; refine (digit_any (cs (2 * j + 1)) hb1 hb2 _).mono ?_; rintro e w2 ⟨rfl, rfl⟩; exact hK9 _ (Ext.refl _))) ?_)
        simp only [put_lit, List.set_cons_succ, List.set_cons_zero]
        (first | (refine wpE_move rfl rfl rfl ?_; simp only [put_lit, eval_lit, BigFrame.eval_const, List.set_cons_succ, List.set_cons_zero, List.getD_cons_succ, List.getD_cons_zero]) | (refine wpE_run rfl rfl (by simp) (fun w1 hx1 _ K hK => by go_step; exact hK _ (Ext.refl _)) ?_; simp only [put_lit, List.set_cons_succ, List.set_cons_zero]))
        rw [HV.out]
        refine wpE_any (V := One wr (.int .u8 ((hexF cs j : Nat) : Int))) rfl (fun _ _ _ hx h => h.mono hx) rfl (by simp) (fun w1 hx1 _ K9 hK9 => by go_step; exact hK9 _ _ (Ext.alloc _ _) ⟨_, rfl, hx1.size, Blk.new _ _ _⟩) ?_
        intro u24
        simp only [put_lit, List.set_cons_succ, List.set_cons_zero]
        refine wpE_nil ?_
        intro w2 hw2 hF
        simp only [List.drop_succ_cons, List.drop_zero]
        have ho1 := hF _ (List.mem_cons_self ..)
        have hhl : hexF cs j < 256 := by unfold hexF; omega
        have HR := Lib.hid (ho1.rd hhl)
        have hs2 := hw2.size
        have HO2 := Lib.hid (HO.out.ext hw2)
        have HX2 := Lib.hid (HX.out.trans hw2)
        clear hF ho1 hw2 i1 i2
        refine wl_appendF rfl (.tmp 12) (.tmp 24) rfl w.heap.size _ _ j 1 (hexF cs) (fun _ => hexF cs j) (hexF cs) rfl rfl HO2.out HR.out (by omega) (by omega) (fun _ _ => rfl) (fun i hi => by obtain rfl : i = 0 := (by omega); rfl) ?_
        intro v' w' hv' hb'
        have HV' := Lib.hid hv'
        have HB' := Lib.hid (Below.trans HX2.out hb')
        clear hv' hb'
        simp only [put_lit, List.set_cons_succ, List.set_cons_zero]
        go_wp2_with fail
        go_roundw
        case rel => exact ⟨j + 1, by omega, by go_num, HV'.out, HB'.out⟩
        case measure => simp [intOf]; omega
    · obtain rfl : j = m := by omega
      have hj' : ¬ (2 * (j : Int) + 1) < (s.size : Int) := by omega
      go_wp2_with fail
      go_ret
      exact ⟨_, rfl, HO.out, HX.out⟩
end Go.Proofs.Ytnigpobbckampaa
namespace Go.Proofs.Ytnigpobbckampaa
open Go.RowKit Go.WideShapes
set_option linter.unusedSimpArgs false
set_option linter.unusedVariables false

def strOf (n : Nat) (f : Nat → Nat) : ByteArray := ((List.range n).map fun i => ((f i : Nat) : Int)).foldl (fun r n => r.push (UInt8.ofNat n.toNat)) ByteArray.empty
theorem push_list : ∀ (ns : List Int) (s : ByteArray), (ns.foldl (fun r n => r.push (UInt8.ofNat n.toNat)) s).data.toList = s.data.toList ++ ns.map fun n => UInt8.ofNat n.toNat
  | [], s => by simp
  | n :: ns, s => by
    rw [List.foldl_cons, push_list ns]
    simp [ByteArray.push]
theorem strOf_list (n : Nat) (f : Nat → Nat) : (strOf n f).data.toList = (List.range n).map fun i => UInt8.ofNat (f i) := by
  unfold strOf
  rw [push_list, List.map_map]
  simp [ByteArray.empty, ByteArray.emptyWithCapacity, Function.comp_def]
  rfl
theorem strOf_eq {n m : Nat} {f g : Nat → Nat} (hf : ∀ i, i < n → f i < 256) (hg : ∀ i, i < m → g i < 256) : strOf n f = strOf m g ↔ n = m ∧ ∀ i, i < n → f i = g i := by
  constructor
  · intro h
    have h1 := congrArg (fun s : ByteArray => s.data.toList) h
    simp only [strOf_list] at h1
    have hl := congrArg List.length h1
    simp at hl
    subst hl
    refine ⟨rfl, fun i hi => ?_⟩
    have h2 := congrArg (fun l => l[i]?) h1
    simp [hi] at h2
    have h3 := congrArg UInt8.toNat h2
    have e1 := hf i hi
    have e2 := hg i hi
    simp at h3
    omega
  · rintro ⟨rfl, h⟩
    have h1 : (strOf n f).data.toList = (strOf n g).data.toList := by
      rw [strOf_list, strOf_list]
      exact List.map_congr_left fun i hi => by rw [h i (List.mem_range.1 hi)]
    have h2 : (strOf n f).data = (strOf n g).data := by
      have := congrArg List.toArray h1
      simpa using this
    cases hs : strOf n f
    cases ht : strOf n g
    rw [hs, ht] at h2
    simp only at h2
    rw [h2]

theorem run_str (w : World) (v : Value) (n : Nat) (f : Nat → Nat) (hv : RdF w v n f) : (convert 22 9 v).run Try.prog w = .ok (.string (strOf n f)) w := by
  obtain ⟨ao, cap, rfl, _⟩ := hv.len
  rw [run_convert_bytes_string w 22 9 5 ao n cap Try.underlying22 Try.underlying5 Try.underlying9]
  rcases Nat.eq_zero_or_pos n with rfl | hn
  · cases ao with
    | none => simp [Conv.bytesToString, strOf]
    | some a =>
      have h := run_bytesToString (P := Try.prog) (w := w) a 0 cap [] (by simpa using run_loadCells_list (P := Try.prog) w a [] (fun j v hv => by simp at hv))
      exact h
  · obtain ⟨g, off, c', e, _, hf⟩ := hv.form hn
    obtain ⟨rfl, rfl⟩ : ao = some ⟨g, off, none⟩ ∧ cap = c' := by cases e; exact ⟨rfl, rfl⟩
    refine run_bytesToString (P := Try.prog) (w := w) ⟨g, off, none⟩ n cap ((List.range n).map fun i => ((f i : Nat) : Int)) ?_
    have hl := run_loadCells_list (P := Try.prog) w ⟨g, off, none⟩ (((List.range n).map fun i => ((f i : Nat) : Int)).map (Value.int .u8)) (fun j v hv => by
      have hj : j < n := by
        rcases Nat.lt_or_ge j n with h | h
        · exact h
        · rw [List.getElem?_eq_none (by simpa using h)] at hv
          cases hv
      simp [hj] at hv
      subst hv
      rw [Addr.add_lit]
      exact (hf j hj).2)
    simpa using hl

set_option maxHeartbeats 400000 in
theorem eqb41_any (v u : Value) (n m : Nat) (f g : Nat → Nat) (w : World) (hv : RdF w v n f) (hu : RdF w u m g) :
    Calls Try.prog 41 #[v, u] w fun e w' => e = .returned (.bool (eqU n m f g)) ∧ Ext w w' := by
  have h1 := run_str w v n f hv
  have h2 := run_str w u m g hu
  have he := strOf_eq hv.lt hu.lt
  have HE := Lib.hid he
  clear hv hu he
  go_enter Try.func41, Try.ntmps41
  go_wp2_with fail
  go_ret
  refine ⟨?_, Ext.refl _⟩
  have hb : ((strOf n f).toList == (strOf m g).toList) = eqU n m f g := by
    rw [ByteArray.toList_eq, ByteArray.toList_eq]
    by_cases h : n = m ∧ ∀ i, i < n → f i = g i
    · rw [eqU_true h.1 h.2, HE.out.2 h]
      simp
    · rw [eqU_false h]
      have h3 : ¬ (strOf n f).data.toList = (strOf m g).data.toList := fun h4 => h (HE.out.1 (bytes_inj h4))
      simpa using h3
  show Ending.returned (.bool ((strOf n f).toList == (strOf m g).toList)) = _
  rw [hb]
end Go.Proofs.Ytnigpobbckampaa
