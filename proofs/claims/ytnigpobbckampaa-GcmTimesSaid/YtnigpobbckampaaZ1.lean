/- EqBytes, walked. -/
import Derived.Test.YtnigpobbckampaaY9
import Derived.Laws.BytesString
namespace Go.Proofs.Ytnigpobbckampaa
open Go.RowKit Go.WideShapes
set_option linter.unusedSimpArgs false
set_option linter.unusedVariables false

def strOf (n : Nat) (f : Nat → Nat) : ByteArray := ((List.range n).map fun i => ((f i : Nat) : Int)).foldl (fun r n => r.push (UInt8.ofNat n.toNat)) ByteArray.empty
theorem push_list : ∀ (ns : List Int) (s : ByteArray), (ns.foldl (fun r n => r.push (UInt8.ofNat n.toNat)) s).data.toList = s.data.toList ++ ns.map fun n => UInt8.ofNat n.toNat
  | [], s => by simp
  | n :: ns, s => by
    rw [List.foldl_cons, push_list ns]
    simp [ByteArray.push]
theorem strOf_list (n : Nat) (f : Nat → Nat) : (strOf n f).data.toList = (List.range n).map fun i => UInt8.ofNat (f i) := by
  unfold strOf
  rw [push_list, List.map_map]
  simp [ByteArray.empty, ByteArray.emptyWithCapacity, Function.comp_def]
  rfl
theorem strOf_eq {n m : Nat} {f g : Nat → Nat} (hf : ∀ i, i < n → f i < 256) (hg : ∀ i, i < m → g i < 256) : strOf n f = strOf m g ↔ n = m ∧ ∀ i, i < n → f i = g i := by
  constructor
  · intro h
    have h1 := congrArg (fun s : ByteArray => s.data.toList) h
    simp only [strOf_list] at h1
    have hl := congrArg List.length h1
    simp at hl
    subst hl
    refine ⟨rfl, fun i hi => ?_⟩
    have h2 := congrArg (fun l => l[i]?) h1
    simp [hi] at h2
    have h3 := congrArg UInt8.toNat h2
    have e1 := hf i hi
    have e2 := hg i hi
    simp at h3
    omega
  · rintro ⟨rfl, h⟩
    have h1 : (strOf n f).data.toList = (strOf n g).data.toList := by
      rw [strOf_list, strOf_list]
      exact List.map_congr_left fun i hi => by rw [h i (List.mem_range.1 hi)]
    have h2 : (strOf n f).data = (strOf n g).data := by
      have := congrArg List.toArray h1
      simpa using this
    cases hs : strOf n f
    cases ht : strOf n g
    rw [hs, ht] at h2
    simp only at h2
    rw [h2]

theorem run_str (w : World) (v : Value) (n : Nat) (f : Nat → Nat) (hv : RdF w v n f) : (convert 22 9 v).run Try.prog w = .ok (.string (strOf n f)) w := by
  obtain ⟨ao, cap, rfl, _⟩ := hv.len
  rw [run_convert_bytes_string w 22 9 5 ao n cap Try.underlying22 Try.underlying5 Try.underlying9]
  rcases Nat.eq_zero_or_pos n with rfl | hn
  · cases ao with
    | none => simp [Conv.bytesToString, strOf]
    | some a =>
      have h := run_bytesToString (P := Try.prog) (w := w) a 0 cap [] (by simpa using run_loadCells_list (P := Try.prog) w a [] (fun j v hv => by simp at hv))
      exact h
  · obtain ⟨g, off, c', e, _, hf⟩ := hv.form hn
    obtain ⟨rfl, rfl⟩ : ao = some ⟨g, off, none⟩ ∧ cap = c' := by cases e; exact ⟨rfl, rfl⟩
    refine run_bytesToString (P := Try.prog) (w := w) ⟨g, off, none⟩ n cap ((List.range n).map fun i => ((f i : Nat) : Int)) ?_
    have hl := run_loadCells_list (P := Try.prog) w ⟨g, off, none⟩ (((List.range n).map fun i => ((f i : Nat) : Int)).map (Value.int .u8)) (fun j v hv => by
      have hj : j < n := by
        rcases Nat.lt_or_ge j n with h | h
        · exact h
        · rw [List.getElem?_eq_none (by simpa using h)] at hv
          cases hv
      simp [hj] at hv
      subst hv
      rw [Addr.add_lit]
      exact (hf j hj).2)
    simpa using hl

set_option maxHeartbeats 400000 in
theorem eqb41_any (v u : Value) (n m : Nat) (f g : Nat → Nat) (w : World) (hv : RdF w v n f) (hu : RdF w u m g) :
    Calls Try.prog 41 #[v, u] w fun e w' => e = .returned (.bool (eqU n m f g)) ∧ Ext w w' := by
  have h1 := run_str w v n f hv
  have h2 := run_str w u m g hu
  have he := strOf_eq hv.lt hu.lt
  have HE := Lib.hid he
  clear hv hu he
  go_enter Try.func41, Try.ntmps41
  go_wp2_with fail
  go_ret
  refine ⟨?_, Ext.refl _⟩
  have hb : ((strOf n f).toList == (strOf m g).toList) = eqU n m f g := by
    rw [ByteArray.toList_eq, ByteArray.toList_eq]
    by_cases h : n = m ∧ ∀ i, i < n → f i = g i
    · rw [eqU_true h.1 h.2, HE.out.2 h]
      simp
    · rw [eqU_false h]
      have h3 : ¬ (strOf n f).data.toList = (strOf m g).data.toList := fun h4 => h (HE.out.1 (bytes_inj h4))
      simpa using h3
  show Ending.returned (.bool ((strOf n f).toList == (strOf m g).toList)) = _
  rw [hb]
end Go.Proofs.Ytnigpobbckampaa
