/- asked, slices.Equal, Seal, walked. Open, walked. What a box holds: plain laws. -/
import Derived.Test.YtnigpobbckampaaY8
namespace Go.Proofs.Ytnigpobbckampaa
open Go.RowKit
set_option linter.unusedSimpArgs false
set_option linter.unusedVariables false

set_option maxRecDepth 100000 in
set_option maxHeartbeats 1000000 in
theorem asked_ok (b : Nat) (ao ho : Option Addr) (n c nh hc : Nat) (many : Nat) (w : World) (h1 : n ≤ many) (h2 : nh ≤ 65536) :
    Calls Try.prog 60 #[.pointer (some ⟨b, 0, none⟩), .slice ao n c, .slice ho nh hc, .int .i64 many] w fun e w' => e = .returned (.int .i64 0) ∧ w = w' := by
  have h1' : ¬ (many : Int) < (n : Int) := by omega
  have h2' : ¬ (65536 : Int) < (nh : Int) := by omega
  go_enter Try.func60, Try.ntmps60
  go_wp2_with fail
  go_ret
  exact ⟨rfl, rfl⟩

def eqU (n m : Nat) (f g : Nat → Nat) : Bool := decide (n = m ∧ ∀ i, i < n → f i = g i)
theorem eqU_true {n m : Nat} {f g : Nat → Nat} (h : n = m) (h2 : ∀ i, i < n → f i = g i) : eqU n m f g = true := decide_eq_true ⟨h, h2⟩
theorem eqU_false {n m : Nat} {f g : Nat → Nat} (h : ¬ (n = m ∧ ∀ i, i < n → f i = g i)) : eqU n m f g = false := decide_eq_false h

set_option maxRecDepth 100000 in
set_option maxHeartbeats 1000000 in
theorem equal66_any (v u : Value) (n m : Nat) (f g : Nat → Nat) (w : World) (hn : n ≤ 1000000) (hm : m ≤ 1000000) (hv : RdF w v n f) (hu : RdF w u m g) :
    Calls Try.prog 66 #[v, u] w fun e w' => e = .returned (.bool (eqU n m f g)) ∧ Ext w w' := by
  obtain ⟨ao, cap, rfl, hcap⟩ := hv.len
  obtain ⟨bo, cbp, rfl, hcbp⟩ := hu.len
  have HV := Lib.hid hv
  have HU := Lib.hid hu
  obtain ⟨D, hD⟩ : ∃ D : Bool, D = eqU n m f g := ⟨_, rfl⟩
  rw [← hD]
  have HD := Lib.hid hD
  clear hv hu hD
  by_cases hnm : n = m
  · subst hnm
    go_enter Try.func66, Try.ntmps66
    go_wp2_with fail
    go_loopw [13] (fun v13 wr => ∃ k : Nat, k ≤ n ∧ v13 = .int .i64 k ∧ (∀ i, i < k → f i = g i) ∧ Ext w wr) (fun v13 _ => n - (intOf v13).toNat)
    case atStart => exact ⟨0, by omega, rfl, fun i hi => absurd hi (Nat.not_lt_zero _), Ext.refl _⟩
    case round =>
      obtain ⟨k, hk, rfl, heq, hx⟩ := hrel
      have HE := Lib.hid heq
      have HX := Lib.hid hx
      clear heq hx
      by_cases hkn : k < n
      · have hk' : (k : Int) < (n : Int) := by omega
        obtain ⟨g1, o1, c1, e1, _, hf⟩ := (HV.out.ext HX.out).form (by omega)
        obtain ⟨rfl, rfl⟩ : ao = some ⟨g1, o1, none⟩ ∧ cap = c1 := by cases e1; exact ⟨rfl, rfl⟩
        obtain ⟨g2, o2, c2, e2, _, hg⟩ := (HU.out.ext HX.out).form (by omega)
        obtain ⟨rfl, rfl⟩ : bo = some ⟨g2, o2, none⟩ ∧ cbp = c2 := by cases e2; exact ⟨rfl, rfl⟩
        have q1 := (hf k hkn).2
        have q2 := (hg k hkn).2
        clear hf hg e1 e2
        go_upto_region 6 with fail
        apply wp_region_mid 9 [.det _, .det _, .det _, .det _, .det _, .det _, .det _, .det _, .det _] (by kernel_rfl) rfl (by kernel_rfl)
        · (first | (refine wpE_move rfl rfl rfl ?_; simp only [put_lit, eval_lit, BigFrame.eval_const, List.set_cons_succ, List.set_cons_zero, List.getD_cons_succ, List.getD_cons_zero]) | (refine wpE_run rfl rfl (by simp) (fun w1 hx1 _ K hK => by go_step; exact hK _ (Ext.refl _)) ?_; simp only [put_lit, List.set_cons_succ, List.set_cons_zero]))
          (first | (refine wpE_move rfl rfl rfl ?_; simp only [put_lit, eval_lit, BigFrame.eval_const, List.set_cons_succ, List.set_cons_zero, List.getD_cons_succ, List.getD_cons_zero]) | (refine wpE_run rfl rfl (by simp) (fun w1 hx1 _ K hK => by go_step; exact hK _ (Ext.refl _)) ?_; simp only [put_lit, List.set_cons_succ, List.set_cons_zero]))
          (first | (refine wpE_move rfl rfl rfl ?_; simp only [put_lit, eval_lit, BigFrame.eval_const, List.set_cons_succ, List.set_cons_zero, List.getD_cons_succ, List.getD_cons_zero]) | (refine wpE_run rfl rfl (by simp) (fun w1 hx1 _ K hK => by go_step; exact hK _ (Ext.refl _)) ?_; simp only [put_lit, List.set_cons_succ, List.set_cons_zero]))
          (refine wpE_run rfl rfl (by simp) (fun w1 hx1 _ K hK => by have hc := hx1.cell q1; go_step; exact hK _ (Ext.refl _)) ?_); simp only [put_lit, List.set_cons_succ, List.set_cons_zero]
          (first | (refine wpE_move rfl rfl rfl ?_; simp only [put_lit, eval_lit, BigFrame.eval_const, List.set_cons_succ, List.set_cons_zero, List.getD_cons_succ, List.getD_cons_zero]) | (refine wpE_run rfl rfl (by simp) (fun w1 hx1 _ K hK => by go_step; exact hK _ (Ext.refl _)) ?_; simp only [put_lit, List.set_cons_succ, List.set_cons_zero]))
          (first | (refine wpE_move rfl rfl rfl ?_; simp only [put_lit, eval_lit, BigFrame.eval_const, List.set_cons_succ, List.set_cons_zero, List.getD_cons_succ, List.getD_cons_zero]) | (refine wpE_run rfl rfl (by simp) (fun w1 hx1 _ K hK => by go_step; exact hK _ (Ext.refl _)) ?_; simp only [put_lit, List.set_cons_succ, List.set_cons_zero]))
          (first | (refine wpE_move rfl rfl rfl ?_; simp only [put_lit, eval_lit, BigFrame.eval_const, List.set_cons_succ, List.set_cons_zero, List.getD_cons_succ, List.getD_cons_zero]) | (refine wpE_run rfl rfl (by simp) (fun w1 hx1 _ K hK => by go_step; exact hK _ (Ext.refl _)) ?_; simp only [put_lit, List.set_cons_succ, List.set_cons_zero]))
          (refine wpE_run rfl rfl (by simp) (fun w1 hx1 _ K hK => by have hc := hx1.cell q2; go_step; exact hK _ (Ext.refl _)) ?_); simp only [put_lit, List.set_cons_succ, List.set_cons_zero]
          (first | (refine wpE_move rfl rfl rfl ?_; simp only [put_lit, eval_lit, BigFrame.eval_const, List.set_cons_succ, List.set_cons_zero, List.getD_cons_succ, List.getD_cons_zero]) | (refine wpE_run rfl rfl (by simp) (fun w1 hx1 _ K hK => by go_step; exact hK _ (Ext.refl _)) ?_; simp only [put_lit, List.set_cons_succ, List.set_cons_zero]))
          (refine wpE_nil ?_; intro w2 hw2 hF; simp only [List.drop_succ_cons, List.drop_zero])
          have hxx := HX.out.trans hw2
          by_cases hfg : f k = g k
          · have hne : (((f k : Nat) : Int) != ((g k : Nat) : Int)) = false := by simp [hfg]
            clear hF
            go_wp2_with fail
            go_roundw
            case rel => exact ⟨k + 1, by omega, by go_num, fun i hi => by
              rcases Nat.lt_or_ge i k with h | h
              · exact HE.out i h
              · obtain rfl : i = k := by omega
                exact hfg, hxx⟩
            case measure => simp [intOf]; omega
          · have hne : (((f k : Nat) : Int) != ((g k : Nat) : Int)) = true := by simp; omega
            have hd : D = false := HD.out.trans (eqU_false (fun h => hfg (h.2 k hkn)))
            have HDD := Lib.hid hd
            clear hF hd
            go_wp2_with fail
            go_ret
            exact ⟨by first | trivial | rfl | (rw [HDD.out]; rfl), hxx⟩
      · obtain rfl : k = n := by omega
        have hd : D = true := HD.out.trans (eqU_true rfl HE.out)
        have HDD := Lib.hid hd
        have hkk : ¬ (k : Int) < (k : Int) := by omega
        clear hd
        go_wp2_with fail
        go_ret
        exact ⟨by first | trivial | rfl | (rw [HDD.out]; rfl), HX.out⟩
  · have hne : (((n : Nat) : Int) != ((m : Nat) : Int)) = true := by simp; omega
    have hd : D = false := HD.out.trans (eqU_false (fun h => hnm h.1))
    have HDD := Lib.hid hd
    clear hd
    go_enter Try.func66, Try.ntmps66
    go_wp2_with fail
    go_ret
    exact ⟨by first | trivial | rfl | (rw [HDD.out]; rfl), Ext.refl _⟩

/-- A box. -/
def sealP (K : Nat) (ks : Nat → Nat → Nat) (nonce : Nat → Nat) (n nh : Nat) (f fh : Nat → Nat) : Nat → Nat := fun j =>
  if j < n then hideP K ks nonce f j else byP (tagN K ks nonce n nh (hideP K ks nonce f) fh) (j - n)

theorem agg55 (w : World) : (isAgg 55).run Try.prog w = .ok true w := by kernel_rfl
theorem sz55 (w : World) : (sizeOf 55).run Try.prog w = .ok 12 w := by kernel_rfl

set_option maxRecDepth 100000 in
set_option maxHeartbeats 1000000 in
theorem seal39_any (vp vh : Value) (n nh b K : Nat) (f fh nonce : Nat → Nat) (ks : Nat → Nat → Nat) (w : World) (hn : n ≤ 65536) (hnh : nh ≤ 65536) (hvp : RdF w vp n f) (hvh : RdF w vh nh fh) (hNl : ∀ j, j < 12 → nonce j < 256)
    (hC : Cph w b K ks) (hK : 2 ≤ K) (hK2 : K ≤ 1000) :
    Calls Try.prog 39 #[.pointer (some ⟨b, 0, none⟩), .agg (row 12 nonce), vp, vh] w fun e w' => ∃ v', e = .returned (.tuple #[v', .int .i64 0]) ∧ OwnF w' w.heap.size v' (n + 16) (sealP K ks nonce n nh f fh) ∧ Ext w w' := by
  obtain ⟨po, pc, rfl, hpc⟩ := hvp.len
  obtain ⟨ho, hc, rfl, hhc⟩ := hvh.len
  have HP := Lib.hid hvp
  have HH := Lib.hid hvh
  have HC := Lib.hid hC
  clear hvp hvh hC
  go_enter Try.func39, Try.ntmps39
  go_upto_region 1 with (refine wl_boxA rfl 55 _ rfl _ rfl ?_)
  have hb0 : Blk (w.alloc (.cells (row 12 nonce) 55)) w.heap.size 55 (row 12 nonce) := Blk.new _ _ _
  have hx0 : Ext w (w.alloc (.cells (row 12 nonce) 55)) := Ext.alloc _ _
  try simp only [put_lit, put_nil7, List.set_cons_succ, List.set_cons_zero]
  generalize w.alloc (.cells (row 12 nonce) 55) = w0 at hb0 hx0 ⊢
  have HB0 := Lib.hid hb0
  have HX0 := Lib.hid hx0
  clear hb0 hx0
  go_wp2_with fail
  refine (asked_ok b po ho n pc nh hc 65536 _ hn hnh).mono ?_
  rintro e w1 ⟨rfl, rfl⟩
  go_wp2_with (refine wl_loadA rfl 55 _ rfl _ 0 12 rfl agg55 sz55 _ _ HB0.out (by simp [row_size]) (row 12 nonce) (row_whole _ _) ?_)
  refine (counted61_any b nonce _).mono ?_
  rintro e w2 ⟨rfl, hw2⟩
  have hgn : Blk w2 (w0.heap.size + 1) 55 (row 12 nonce) := by
    rw [hw2]
    have := Blk.new (w0.alloc (.cells #[.pointer (some ⟨b, 0, none⟩)] 25)) 55 (row 12 nonce)
    simpa only [World.size_alloc] using this
  have hgc : w2.cell? ⟨w0.heap.size, 0, none⟩ = some (.pointer (some ⟨b, 0, none⟩)) := by
    rw [hw2]
    exact (((Blk.new w0 25 #[.pointer (some ⟨b, 0, none⟩)]).alloc (.cells (row 12 nonce) 55)).cell 0).trans rfl
  have hx2 : Ext w w2 := by
    rw [hw2]
    exact (HX0.out.trans (Ext.alloc _ _)).trans (Ext.alloc _ _)
  generalize w0.heap.size = gc at hgn hgc ⊢
  have HGN := Lib.hid hgn
  have HGC := Lib.hid hgc
  have HX2 := Lib.hid hx2
  clear hgn hgc hx2 hw2 HB0 HX0
  go_wp2_with fail
  refine (hide62_any _ n (gc + 1) gc b K f nonce ks _ (by omega) (HP.out.ext HX2.out) HGN.out hNl HGC.out (HC.out.ext HX2.out) hK hK2).mono ?_
  rintro e w3 ⟨v3, rfl, ho3, hx3⟩
  have HO3 := Lib.hid (ho3.mono HX2.out.size)
  have HX3 := Lib.hid (HX2.out.trans hx3)
  have HY3 := Lib.hid hx3
  clear ho3 hx3
  go_wp2_with fail
  refine (tag63_any v3 _ n nh (gc + 1) gc b K (hideP K ks nonce f) fh nonce ks _ (by omega) (by omega) HO3.out.rd (HH.out.ext HX3.out) (HGN.out.ext HY3.out) hNl (HY3.out.cell HGC.out) (HC.out.ext HX3.out) hK hK2).mono ?_
  rintro e w4 ⟨g4, rfl, hg4, hb4, hx4⟩
  have hr4 : RdF w4 (.slice (some ⟨g4, 0, none⟩) 16 16) 16 (byP (tagN K ks nonce n nh (hideP K ks nonce f) fh)) := ⟨_, _, rfl, Nat.le_refl _, fun h => (by cases h), fun i hi => ⟨byP_lt _ _, _, rfl, by rw [Addr.add_lit, Nat.zero_add]; exact hb4.byte i hi⟩⟩
  have HR4 := Lib.hid hr4
  have HO4 := Lib.hid (HO3.out.ext hx4)
  have HX4 := Lib.hid (HX3.out.trans hx4)
  have hs4 := HX4.out.size
  clear hr4 hb4 hx4
  go_wp2_with (refine wl_appendF rfl (.tmp 26) (.tmp 31) rfl w.heap.size _ _ n 16 (hideP K ks nonce f) (byP (tagN K ks nonce n nh (hideP K ks nonce f) fh)) (sealP K ks nonce n nh f fh) rfl rfl HO4.out HR4.out hs4 (by omega) (fun i hi => by unfold sealP; rw [if_pos hi]) (fun j hj => by unfold sealP; rw [if_neg (by omega), Nat.add_sub_cancel_left]) ?_; intro v' w' hv' hb')
  have HV' := Lib.hid hv'
  have HB' := Lib.hid (Below.trans HX4.out hb')
  clear hv' hb'
  refine bodyPost_ret (v := .tuple #[v', .int .i64 0]) (by kernel_rfl) rfl ?_
  exact ⟨v', rfl, HV'.out, HB'.out⟩
end Go.Proofs.Ytnigpobbckampaa
namespace Go.Proofs.Ytnigpobbckampaa
open Go.RowKit
set_option linter.unusedSimpArgs false
set_option linter.unusedVariables false

/-- A tag's bytes, wherever they come to lie. -/
def TagAt (X : Nat → Nat) (v : Value) (w : World) : Prop := ∃ g, v = .slice (some ⟨g, 0, none⟩) 16 16 ∧ Blk w g 23 (row 16 X)
theorem TagAt.rd {X : Nat → Nat} {v : Value} {w : World} (hX : ∀ j, j < 16 → X j < 256) (h : TagAt X v w) : RdF w v 16 X := by
  obtain ⟨g, rfl, hb⟩ := h
  exact ⟨_, _, rfl, Nat.le_refl _, fun h => (by cases h), fun i hi => ⟨hX i hi, _, rfl, by rw [Addr.add_lit, Nat.zero_add]; exact hb.byte i hi⟩⟩

/-- A box that is whole. -/
def WholeP (K : Nat) (ks : Nat → Nat → Nat) (nonce : Nat → Nat) (nb nh : Nat) (fb fh : Nat → Nat) : Prop := 16 ≤ nb ∧ ∀ j, j < 16 → byP (tagN K ks nonce (nb - 16) nh fb fh) j = fb (nb - 16 + j)

set_option maxRecDepth 100000 in
set_option maxHeartbeats 1000000 in
theorem open42_any (vb vh : Value) (nb nh b K : Nat) (fb fh nonce : Nat → Nat) (ks : Nat → Nat → Nat) (w : World) (hn : nb ≤ 65552) (hnh : nh ≤ 65536) (hvb : RdF w vb nb fb) (hvh : RdF w vh nh fh) (hNl : ∀ j, j < 12 → nonce j < 256)
    (hC : Cph w b K ks) (hK : 2 ≤ K) (hK2 : K ≤ 1000) :
    Calls Try.prog 42 #[.pointer (some ⟨b, 0, none⟩), .agg (row 12 nonce), vb, vh] w fun e w' => Ext w w' ∧
      ((WholeP K ks nonce nb nh fb fh ∧ ∃ v', e = .returned (.tuple #[v', .int .i64 0]) ∧ OwnF w' w.heap.size v' (nb - 16) (hideP K ks nonce fb)) ∨
       (¬ WholeP K ks nonce nb nh fb fh ∧ e = .returned (.tuple #[.slice none 0 0, .int .i64 80]))) := by
  obtain ⟨bo, bc, rfl, hbc⟩ := hvb.len
  obtain ⟨ho, hc, rfl, hhc⟩ := hvh.len
  have HB := Lib.hid hvb
  have HH := Lib.hid hvh
  have HC := Lib.hid hC
  clear hvb hvh hC
  go_enter Try.func42, Try.ntmps42
  go_upto_region 1 with (refine wl_boxA rfl 55 _ rfl _ rfl ?_)
  have hb0 : Blk (w.alloc (.cells (row 12 nonce) 55)) w.heap.size 55 (row 12 nonce) := Blk.new _ _ _
  have hx0 : Ext w (w.alloc (.cells (row 12 nonce) 55)) := Ext.alloc _ _
  try simp only [put_lit, put_nil7, List.set_cons_succ, List.set_cons_zero]
  generalize w.alloc (.cells (row 12 nonce) 55) = w0 at hb0 hx0 ⊢
  have HB0 := Lib.hid hb0
  have HX0 := Lib.hid hx0
  clear hb0 hx0
  go_wp2_with fail
  refine (asked_ok b bo ho nb bc nh hc 65552 _ hn hnh).mono ?_
  rintro e w1 ⟨rfl, rfl⟩
  go_wp2_with (refine wl_loadA rfl 55 _ rfl _ 0 12 rfl agg55 sz55 _ _ HB0.out (by simp [row_size]) (row 12 nonce) (row_whole _ _) ?_)
  refine (counted61_any b nonce _).mono ?_
  rintro e w2 ⟨rfl, hw2⟩
  have hgn : Blk w2 (w0.heap.size + 1) 55 (row 12 nonce) := by
    rw [hw2]
    have := Blk.new (w0.alloc (.cells #[.pointer (some ⟨b, 0, none⟩)] 25)) 55 (row 12 nonce)
    simpa only [World.size_alloc] using this
  have hgc : w2.cell? ⟨w0.heap.size, 0, none⟩ = some (.pointer (some ⟨b, 0, none⟩)) := by
    rw [hw2]
    exact (((Blk.new w0 25 #[.pointer (some ⟨b, 0, none⟩)]).alloc (.cells (row 12 nonce) 55)).cell 0).trans rfl
  have hx2 : Ext w w2 := by
    rw [hw2]
    exact (HX0.out.trans (Ext.alloc _ _)).trans (Ext.alloc _ _)
  generalize w0.heap.size = gc at hgn hgc ⊢
  have HGN := Lib.hid hgn
  have HGC := Lib.hid hgc
  have HX2 := Lib.hid hx2
  clear hgn hgc hx2 hw2 HB0 HX0
  by_cases h16 : 16 ≤ nb
  · obtain ⟨m, rfl⟩ : ∃ m, nb = m + 16 := ⟨nb - 16, by omega⟩
    have hlt : ¬ (m : Int) < 0 := by omega
    obtain ⟨g, off, c9, e9, _, hf⟩ := HB.out.form (by omega)
    obtain ⟨rfl, rfl⟩ : bo = some ⟨g, off, none⟩ ∧ bc = c9 := by cases e9; exact ⟨rfl, rfl⟩
    clear e9 hf h16
    have HB1 := Lib.hid (show RdF w2 (.slice (some ⟨g, off, none⟩) m bc) m fb from by
      have h := (HB.out.ext HX2.out).part 0 m bc (by omega) (by omega)
      exact h.congr (fun i _ => by rw [Nat.zero_add]))
    have HB2 := Lib.hid (show RdF w2 (.slice (some ⟨g, off + m, none⟩) 16 (bc - m)) 16 (fun j => fb (m + j)) from (HB.out.ext HX2.out).part m 16 (bc - m) (by omega) (by omega))
    by_cases hW : ∀ i, i < 16 → byP (tagN K ks nonce m nh fb fh) i = fb (m + i)
    · skip
      have HDD := Lib.hid (show eqU 16 16 (byP (tagN K ks nonce m nh fb fh)) (fun j => fb (m + j)) = true from eqU_true rfl hW)
      go_upto_region 6 with fail
      apply wp_region_mid 16 [.det _, .det _, .det _, .det _, .det _, .det _, .det _, .det _, .det _, .any (TagAt (byP (tagN K ks nonce m nh fb fh))), .det _, .det _, .det _, .det _, .det _, .det _] (by kernel_rfl) rfl (by kernel_rfl)
      · skip
        (first | (refine wpE_move rfl rfl rfl ?_; simp only [put_lit, eval_lit, BigFrame.eval_const, List.set_cons_succ, List.set_cons_zero, List.getD_cons_succ, List.getD_cons_zero]) | (refine wpE_run rfl rfl (by simp) (fun w1 hx1 _ K hK => by go_step; exact hK _ (Ext.refl _)) ?_; simp only [put_lit, List.set_cons_succ, List.set_cons_zero]))
        (first | (refine wpE_move rfl rfl rfl ?_; simp only [put_lit, eval_lit, BigFrame.eval_const, List.set_cons_succ, List.set_cons_zero, List.getD_cons_succ, List.getD_cons_zero]) | (refine wpE_run rfl rfl (by simp) (fun w1 hx1 _ K hK => by go_step; exact hK _ (Ext.refl _)) ?_; simp only [put_lit, List.set_cons_succ, List.set_cons_zero]))
        (first | (refine wpE_move rfl rfl rfl ?_; simp only [put_lit, eval_lit, BigFrame.eval_const, List.set_cons_succ, List.set_cons_zero, List.getD_cons_succ, List.getD_cons_zero]) | (refine wpE_run rfl rfl (by simp) (fun w1 hx1 _ K hK => by go_step; exact hK _ (Ext.refl _)) ?_; simp only [put_lit, List.set_cons_succ, List.set_cons_zero]))
        (first | (refine wpE_move rfl rfl rfl ?_; simp only [put_lit, eval_lit, BigFrame.eval_const, List.set_cons_succ, List.set_cons_zero, List.getD_cons_succ, List.getD_cons_zero]) | (refine wpE_run rfl rfl (by simp) (fun w1 hx1 _ K hK => by go_step; exact hK _ (Ext.refl _)) ?_; simp only [put_lit, List.set_cons_succ, List.set_cons_zero]))
        (first | (refine wpE_move rfl rfl rfl ?_; simp only [put_lit, eval_lit, BigFrame.eval_const, List.set_cons_succ, List.set_cons_zero, List.getD_cons_succ, List.getD_cons_zero]) | (refine wpE_run rfl rfl (by simp) (fun w1 hx1 _ K hK => by go_step; exact hK _ (Ext.refl _)) ?_; simp only [put_lit, List.set_cons_succ, List.set_cons_zero]))
        (first | (refine wpE_move rfl rfl rfl ?_; simp only [put_lit, eval_lit, BigFrame.eval_const, List.set_cons_succ, List.set_cons_zero, List.getD_cons_succ, List.getD_cons_zero]) | (refine wpE_run rfl rfl (by simp) (fun w1 hx1 _ K hK => by go_step; exact hK _ (Ext.refl _)) ?_; simp only [put_lit, List.set_cons_succ, List.set_cons_zero]))
        (first | (refine wpE_move rfl rfl rfl ?_; simp only [put_lit, eval_lit, BigFrame.eval_const, List.set_cons_succ, List.set_cons_zero, List.getD_cons_succ, List.getD_cons_zero]) | (refine wpE_run rfl rfl (by simp) (fun w1 hx1 _ K hK => by go_step; exact hK _ (Ext.refl _)) ?_; simp only [put_lit, List.set_cons_succ, List.set_cons_zero]))
        (first | (refine wpE_move rfl rfl rfl ?_; simp only [put_lit, eval_lit, BigFrame.eval_const, List.set_cons_succ, List.set_cons_zero, List.getD_cons_succ, List.getD_cons_zero]) | (refine wpE_run rfl rfl (by simp) (fun w1 hx1 _ K hK => by go_step; exact hK _ (Ext.refl _)) ?_; simp only [put_lit, List.set_cons_succ, List.set_cons_zero]))
        (first | (refine wpE_move rfl rfl rfl ?_; simp only [put_lit, eval_lit, BigFrame.eval_const, List.set_cons_succ, List.set_cons_zero, List.getD_cons_succ, List.getD_cons_zero]) | (refine wpE_run rfl rfl (by simp) (fun w1 hx1 _ K hK => by go_step; exact hK _ (Ext.refl _)) ?_; simp only [put_lit, List.set_cons_succ, List.set_cons_zero]))
        refine wpE_any (V := TagAt (byP (tagN K ks nonce m nh fb fh))) rfl (fun _ _ _ hx h => by obtain ⟨g, e, h⟩ := h; exact ⟨g, e, h.ext hx⟩) rfl (by simp) (fun w1 hx1 _ K9 hK9 => by go_wp2_with (go_at_call 63; refine (tag63_any _ _ m nh (gc + 1) gc b K fb fh nonce ks _ (by omega) (by omega) (HB1.out.ext hx1) (HH.out.ext (HX2.out.trans hx1)) (HGN.out.ext hx1) hNl (hx1.cell HGC.out) (HC.out.ext (HX2.out.trans hx1)) hK hK2).mono ?_; rintro e w2 ⟨g2, rfl, _, hb2, hx2⟩; exact hK9 _ _ hx2 ⟨g2, rfl, hb2⟩)) ?_
        intro u35
        simp only [put_lit, List.set_cons_succ, List.set_cons_zero]
        (first | (refine wpE_move rfl rfl rfl ?_; simp only [put_lit, eval_lit, BigFrame.eval_const, List.set_cons_succ, List.set_cons_zero, List.getD_cons_succ, List.getD_cons_zero]) | (refine wpE_run rfl rfl (by simp) (fun w1 hx1 _ K hK => by go_step; exact hK _ (Ext.refl _)) ?_; simp only [put_lit, List.set_cons_succ, List.set_cons_zero]))
        (first | (refine wpE_move rfl rfl rfl ?_; simp only [put_lit, eval_lit, BigFrame.eval_const, List.set_cons_succ, List.set_cons_zero, List.getD_cons_succ, List.getD_cons_zero]) | (refine wpE_run rfl rfl (by simp) (fun w1 hx1 _ K hK => by go_step; exact hK _ (Ext.refl _)) ?_; simp only [put_lit, List.set_cons_succ, List.set_cons_zero]))
        (first | (refine wpE_move rfl rfl rfl ?_; simp only [put_lit, eval_lit, BigFrame.eval_const, List.set_cons_succ, List.set_cons_zero, List.getD_cons_succ, List.getD_cons_zero]) | (refine wpE_run rfl rfl (by simp) (fun w1 hx1 _ K hK => by go_step; exact hK _ (Ext.refl _)) ?_; simp only [put_lit, List.set_cons_succ, List.set_cons_zero]))
        refine wpE_run rfl rfl (by simp) (fun w1 hx1 hfc K9 hK9 => by have ht : TagAt (byP (tagN K ks nonce m nh fb fh)) u35 w1 := hfc _ (List.mem_cons_self ..) (by show (35 : Nat) ∈ _; decide); have hr := Lib.hid (ht.rd (fun j _ => byP_lt _ _)); clear hfc ht; go_wp2_with (go_at_call 66; refine (equal66_any _ _ 16 16 _ _ _ (by omega) (by omega) hr.out (HB2.out.ext hx1)).mono ?_; rintro e w2 ⟨rfl, hx2⟩; exact hK9 _ hx2)) ?_
        simp only [put_lit, List.set_cons_succ, List.set_cons_zero]
        rw [HDD.out]
        (first | (refine wpE_move rfl rfl rfl ?_; simp only [put_lit, eval_lit, BigFrame.eval_const, List.set_cons_succ, List.set_cons_zero, List.getD_cons_succ, List.getD_cons_zero]) | (refine wpE_run rfl rfl (by simp) (fun w1 hx1 _ K hK => by go_step; exact hK _ (Ext.refl _)) ?_; simp only [put_lit, List.set_cons_succ, List.set_cons_zero]))
        (first | (refine wpE_move rfl rfl rfl ?_; simp only [put_lit, eval_lit, BigFrame.eval_const, List.set_cons_succ, List.set_cons_zero, List.getD_cons_succ, List.getD_cons_zero]) | (refine wpE_run rfl rfl (by simp) (fun w1 hx1 _ K hK => by go_step; exact hK _ (Ext.refl _)) ?_; simp only [put_lit, List.set_cons_succ, List.set_cons_zero]))
        (refine wpE_nil ?_; intro w5 hw5 hF; simp only [List.drop_succ_cons, List.drop_zero])
        clear hF
        have HX5 := Lib.hid (HX2.out.trans hw5)
        have HW5 := Lib.hid hw5
        clear hw5
        go_wp2_with fail
        refine (hide62_any _ m (gc + 1) gc b K fb nonce ks _ (by omega) (HB1.out.ext HW5.out) (HGN.out.ext HW5.out) hNl (HW5.out.cell HGC.out) (HC.out.ext HX5.out) hK hK2).mono ?_
        rintro e w6 ⟨v6, rfl, ho6, hx6⟩
        have HO6 := Lib.hid (ho6.mono HX5.out.size)
        have HX6 := Lib.hid (HX5.out.trans hx6)
        clear ho6 hx6
        go_wp2_with fail
        refine bodyPost_ret (v := .tuple #[v6, .int .i64 0]) (by kernel_rfl) rfl ?_
        exact ⟨HX6.out, .inl ⟨⟨by omega, fun j hj => by rw [Nat.add_sub_cancel]; exact hW j hj⟩, v6, rfl, by rw [Nat.add_sub_cancel]; exact HO6.out⟩⟩
    · skip
      have HDD := Lib.hid (show eqU 16 16 (byP (tagN K ks nonce m nh fb fh)) (fun j => fb (m + j)) = false from eqU_false (fun h => hW h.2))
      go_upto_region 6 with fail
      apply wp_region_mid 16 [.det _, .det _, .det _, .det _, .det _, .det _, .det _, .det _, .det _, .any (TagAt (byP (tagN K ks nonce m nh fb fh))), .det _, .det _, .det _, .det _, .det _, .det _] (by kernel_rfl) rfl (by kernel_rfl)
      · skip
        (first | (refine wpE_move rfl rfl rfl ?_; simp only [put_lit, eval_lit, BigFrame.eval_const, List.set_cons_succ, List.set_cons_zero, List.getD_cons_succ, List.getD_cons_zero]) | (refine wpE_run rfl rfl (by simp) (fun w1 hx1 _ K hK => by go_step; exact hK _ (Ext.refl _)) ?_; simp only [put_lit, List.set_cons_succ, List.set_cons_zero]))
        (first | (refine wpE_move rfl rfl rfl ?_; simp only [put_lit, eval_lit, BigFrame.eval_const, List.set_cons_succ, List.set_cons_zero, List.getD_cons_succ, List.getD_cons_zero]) | (refine wpE_run rfl rfl (by simp) (fun w1 hx1 _ K hK => by go_step; exact hK _ (Ext.refl _)) ?_; simp only [put_lit, List.set_cons_succ, List.set_cons_zero]))
        (first | (refine wpE_move rfl rfl rfl ?_; simp only [put_lit, eval_lit, BigFrame.eval_const, List.set_cons_succ, List.set_cons_zero, List.getD_cons_succ, List.getD_cons_zero]) | (refine wpE_run rfl rfl (by simp) (fun w1 hx1 _ K hK => by go_step; exact hK _ (Ext.refl _)) ?_; simp only [put_lit, List.set_cons_succ, List.set_cons_zero]))
        (first | (refine wpE_move rfl rfl rfl ?_; simp only [put_lit, eval_lit, BigFrame.eval_const, List.set_cons_succ, List.set_cons_zero, List.getD_cons_succ, List.getD_cons_zero]) | (refine wpE_run rfl rfl (by simp) (fun w1 hx1 _ K hK => by go_step; exact hK _ (Ext.refl _)) ?_; simp only [put_lit, List.set_cons_succ, List.set_cons_zero]))
        (first | (refine wpE_move rfl rfl rfl ?_; simp only [put_lit, eval_lit, BigFrame.eval_const, List.set_cons_succ, List.set_cons_zero, List.getD_cons_succ, List.getD_cons_zero]) | (refine wpE_run rfl rfl (by simp) (fun w1 hx1 _ K hK => by go_step; exact hK _ (Ext.refl _)) ?_; simp only [put_lit, List.set_cons_succ, List.set_cons_zero]))
        (first | (refine wpE_move rfl rfl rfl ?_; simp only [put_lit, eval_lit, BigFrame.eval_const, List.set_cons_succ, List.set_cons_zero, List.getD_cons_succ, List.getD_cons_zero]) | (refine wpE_run rfl rfl (by simp) (fun w1 hx1 _ K hK => by go_step; exact hK _ (Ext.refl _)) ?_; simp only [put_lit, List.set_cons_succ, List.set_cons_zero]))
        (first | (refine wpE_move rfl rfl rfl ?_; simp only [put_lit, eval_lit, BigFrame.eval_const, List.set_cons_succ, List.set_cons_zero, List.getD_cons_succ, List.getD_cons_zero]) | (refine wpE_run rfl rfl (by simp) (fun w1 hx1 _ K hK => by go_step; exact hK _ (Ext.refl _)) ?_; simp only [put_lit, List.set_cons_succ, List.set_cons_zero]))
        (first | (refine wpE_move rfl rfl rfl ?_; simp only [put_lit, eval_lit, BigFrame.eval_const, List.set_cons_succ, List.set_cons_zero, List.getD_cons_succ, List.getD_cons_zero]) | (refine wpE_run rfl rfl (by simp) (fun w1 hx1 _ K hK => by go_step; exact hK _ (Ext.refl _)) ?_; simp only [put_lit, List.set_cons_succ, List.set_cons_zero]))
        (first | (refine wpE_move rfl rfl rfl ?_; simp only [put_lit, eval_lit, BigFrame.eval_const, List.set_cons_succ, List.set_cons_zero, List.getD_cons_succ, List.getD_cons_zero]) | (refine wpE_run rfl rfl (by simp) (fun w1 hx1 _ K hK => by go_step; exact hK _ (Ext.refl _)) ?_; simp only [put_lit, List.set_cons_succ, List.set_cons_zero]))
        refine wpE_any (V := TagAt (byP (tagN K ks nonce m nh fb fh))) rfl (fun _ _ _ hx h => by obtain ⟨g, e, h⟩ := h; exact ⟨g, e, h.ext hx⟩) rfl (by simp) (fun w1 hx1 _ K9 hK9 => by go_wp2_with (go_at_call 63; refine (tag63_any _ _ m nh (gc + 1) gc b K fb fh nonce ks _ (by omega) (by omega) (HB1.out.ext hx1) (HH.out.ext (HX2.out.trans hx1)) (HGN.out.ext hx1) hNl (hx1.cell HGC.out) (HC.out.ext (HX2.out.trans hx1)) hK hK2).mono ?_; rintro e w2 ⟨g2, rfl, _, hb2, hx2⟩; exact hK9 _ _ hx2 ⟨g2, rfl, hb2⟩)) ?_
        intro u35
        simp only [put_lit, List.set_cons_succ, List.set_cons_zero]
        (first | (refine wpE_move rfl rfl rfl ?_; simp only [put_lit, eval_lit, BigFrame.eval_const, List.set_cons_succ, List.set_cons_zero, List.getD_cons_succ, List.getD_cons_zero]) | (refine wpE_run rfl rfl (by simp) (fun w1 hx1 _ K hK => by go_step; exact hK _ (Ext.refl _)) ?_; simp only [put_lit, List.set_cons_succ, List.set_cons_zero]))
        (first | (refine wpE_move rfl rfl rfl ?_; simp only [put_lit, eval_lit, BigFrame.eval_const, List.set_cons_succ, List.set_cons_zero, List.getD_cons_succ, List.getD_cons_zero]) | (refine wpE_run rfl rfl (by simp) (fun w1 hx1 _ K hK => by go_step; exact hK _ (Ext.refl _)) ?_; simp only [put_lit, List.set_cons_succ, List.set_cons_zero]))
        (first | (refine wpE_move rfl rfl rfl ?_; simp only [put_lit, eval_lit, BigFrame.eval_const, List.set_cons_succ, List.set_cons_zero, List.getD_cons_succ, List.getD_cons_zero]) | (refine wpE_run rfl rfl (by simp) (fun w1 hx1 _ K hK => by go_step; exact hK _ (Ext.refl _)) ?_; simp only [put_lit, List.set_cons_succ, List.set_cons_zero]))
        refine wpE_run rfl rfl (by simp) (fun w1 hx1 hfc K9 hK9 => by have ht : TagAt (byP (tagN K ks nonce m nh fb fh)) u35 w1 := hfc _ (List.mem_cons_self ..) (by show (35 : Nat) ∈ _; decide); have hr := Lib.hid (ht.rd (fun j _ => byP_lt _ _)); clear hfc ht; go_wp2_with (go_at_call 66; refine (equal66_any _ _ 16 16 _ _ _ (by omega) (by omega) hr.out (HB2.out.ext hx1)).mono ?_; rintro e w2 ⟨rfl, hx2⟩; exact hK9 _ hx2)) ?_
        simp only [put_lit, List.set_cons_succ, List.set_cons_zero]
        rw [HDD.out]
        (first | (refine wpE_move rfl rfl rfl ?_; simp only [put_lit, eval_lit, BigFrame.eval_const, List.set_cons_succ, List.set_cons_zero, List.getD_cons_succ, List.getD_cons_zero]) | (refine wpE_run rfl rfl (by simp) (fun w1 hx1 _ K hK => by go_step; exact hK _ (Ext.refl _)) ?_; simp only [put_lit, List.set_cons_succ, List.set_cons_zero]))
        (first | (refine wpE_move rfl rfl rfl ?_; simp only [put_lit, eval_lit, BigFrame.eval_const, List.set_cons_succ, List.set_cons_zero, List.getD_cons_succ, List.getD_cons_zero]) | (refine wpE_run rfl rfl (by simp) (fun w1 hx1 _ K hK => by go_step; exact hK _ (Ext.refl _)) ?_; simp only [put_lit, List.set_cons_succ, List.set_cons_zero]))
        (refine wpE_nil ?_; intro w5 hw5 hF; simp only [List.drop_succ_cons, List.drop_zero])
        clear hF
        have HX5 := Lib.hid (HX2.out.trans hw5)
        have HW5 := Lib.hid hw5
        clear hw5
        go_wp2_with fail
        refine bodyPost_ret (v := .tuple #[.slice none 0 0, .int .i64 80]) (by kernel_rfl) rfl ?_
        exact ⟨HX5.out, .inr ⟨fun h => hW (fun j hj => by have := h.2 j hj; rw [Nat.add_sub_cancel] at this; exact this), rfl⟩⟩
  · have hlt : (nb : Int) - 16 < 0 := by omega
    have hnw : ¬ WholeP K ks nonce nb nh fb fh := fun h => h16 h.1
    have HNW := Lib.hid hnw
    clear hnw
    go_upto_region 6 with fail
    apply wp_region_mid 16 [.det _, .det _, .det _, .det _, .det _, .det _, .det _, .det _, .det _, .det _, .det _, .det _, .det _, .det _, .det _, .det _] (by kernel_rfl) rfl (by kernel_rfl)
    · skip
      (first | (refine wpE_move rfl rfl rfl ?_; simp only [put_lit, eval_lit, BigFrame.eval_const, List.set_cons_succ, List.set_cons_zero, List.getD_cons_succ, List.getD_cons_zero]) | (refine wpE_run rfl rfl (by simp) (fun w1 hx1 _ K hK => by go_step; exact hK _ (Ext.refl _)) ?_; simp only [put_lit, List.set_cons_succ, List.set_cons_zero]))
      (first | (refine wpE_move rfl rfl rfl ?_; simp only [put_lit, eval_lit, BigFrame.eval_const, List.set_cons_succ, List.set_cons_zero, List.getD_cons_succ, List.getD_cons_zero]) | (refine wpE_run rfl rfl (by simp) (fun w1 hx1 _ K hK => by go_step; exact hK _ (Ext.refl _)) ?_; simp only [put_lit, List.set_cons_succ, List.set_cons_zero]))
      (first | (refine wpE_move rfl rfl rfl ?_; simp only [put_lit, eval_lit, BigFrame.eval_const, List.set_cons_succ, List.set_cons_zero, List.getD_cons_succ, List.getD_cons_zero]) | (refine wpE_run rfl rfl (by simp) (fun w1 hx1 _ K hK => by go_step; exact hK _ (Ext.refl _)) ?_; simp only [put_lit, List.set_cons_succ, List.set_cons_zero]))
      refine wpE_skip rfl ?_
      simp only [put_lit, List.set_cons_succ, List.set_cons_zero]
      refine wpE_skip rfl ?_
      simp only [put_lit, List.set_cons_succ, List.set_cons_zero]
      refine wpE_skip rfl ?_
      simp only [put_lit, List.set_cons_succ, List.set_cons_zero]
      refine wpE_skip rfl ?_
      simp only [put_lit, List.set_cons_succ, List.set_cons_zero]
      refine wpE_skip rfl ?_
      simp only [put_lit, List.set_cons_succ, List.set_cons_zero]
      refine wpE_skip rfl ?_
      simp only [put_lit, List.set_cons_succ, List.set_cons_zero]
      refine wpE_skip rfl ?_
      simp only [put_lit, List.set_cons_succ, List.set_cons_zero]
      refine wpE_skip rfl ?_
      simp only [put_lit, List.set_cons_succ, List.set_cons_zero]
      refine wpE_skip rfl ?_
      simp only [put_lit, List.set_cons_succ, List.set_cons_zero]
      refine wpE_skip rfl ?_
      simp only [put_lit, List.set_cons_succ, List.set_cons_zero]
      refine wpE_skip rfl ?_
      simp only [put_lit, List.set_cons_succ, List.set_cons_zero]
      refine wpE_skip rfl ?_
      simp only [put_lit, List.set_cons_succ, List.set_cons_zero]
      (first | (refine wpE_move rfl rfl rfl ?_; simp only [put_lit, eval_lit, BigFrame.eval_const, List.set_cons_succ, List.set_cons_zero, List.getD_cons_succ, List.getD_cons_zero]) | (refine wpE_run rfl rfl (by simp) (fun w1 hx1 _ K hK => by go_step; exact hK _ (Ext.refl _)) ?_; simp only [put_lit, List.set_cons_succ, List.set_cons_zero]))
      (refine wpE_nil ?_; intro w5 hw5 hF; simp only [List.drop_succ_cons, List.drop_zero])
      have HX5 := Lib.hid (HX2.out.trans hw5)
      clear hF hw5
      go_wp2_with fail
      refine bodyPost_ret (v := .tuple #[.slice none 0 0, .int .i64 80]) (by kernel_rfl) rfl ?_
      exact ⟨HX5.out, .inr ⟨HNW.out, rfl⟩⟩
end Go.Proofs.Ytnigpobbckampaa
namespace Go.Proofs.Ytnigpobbckampaa
open Go.RowKit
set_option linter.unusedSimpArgs false
set_option linter.unusedVariables false

theorem hideP_congr (K : Nat) (ks : Nat → Nat → Nat) (nonce f g : Nat → Nat) (j : Nat) (h : f j = g j) : hideP K ks nonce f j = hideP K ks nonce g j := by
  unfold hideP
  rw [h]
theorem hideP_back (K : Nat) (ks : Nat → Nat → Nat) (nonce f : Nat → Nat) (j : Nat) : hideP K ks nonce (hideP K ks nonce f) j = f j := by
  unfold hideP
  rw [Nat.xor_assoc, Nat.xor_self, Nat.xor_zero]
theorem fullP_congr {n : Nat} {f g : Nat → Nat} (h : ∀ i, i < n → f i = g i) (k : Nat) : fullP n f k = fullP n g k := by
  funext j
  unfold fullP
  by_cases hj : 16 * k + j < n
  · rw [if_pos hj, if_pos hj, h _ hj]
  · rw [if_neg hj, if_neg hj]
theorem sm_congr (H : Nat) {e e' : Nat → Nat → Nat} : ∀ k, (∀ i, i < k → ∀ j, j < 16 → e i j = e' i j) → sm H e k = sm H e' k
  | 0, _ => rfl
  | k + 1, h => by
    simp only [sm]
    rw [sm_congr H k (fun i hi => h i (by omega)), be_congr 16 (fun j hj => h k (by omega) j hj)]
theorem blks_congr {nh ns : Nat} {fh fh' fs fs' : Nat → Nat} (h1 : ∀ i, i < nh → fh i = fh' i) (h2 : ∀ i, i < ns → fs i = fs' i) (k : Nat) : blks nh ns fh fs k = blks nh ns fh' fs' k := by
  unfold blks
  rw [fullP_congr h1, fullP_congr h2]
theorem tagN_congr (K : Nat) (ks : Nat → Nat → Nat) (nonce : Nat → Nat) {ns nh : Nat} {fs fs' fh fh' : Nat → Nat} (h1 : ∀ i, i < nh → fh i = fh' i) (h2 : ∀ i, i < ns → fs i = fs' i) : tagN K ks nonce ns nh fs fh = tagN K ks nonce ns nh fs' fh' := by
  unfold tagN
  rw [sm_congr _ _ (fun i _ j _ => by rw [blks_congr h1 h2])]

theorem sealP_lt {K : Nat} {ks : Nat → Nat → Nat} {nonce : Nat → Nat} {n nh : Nat} {f fh : Nat → Nat} (j : Nat) (h : j < n) : sealP K ks nonce n nh f fh j = hideP K ks nonce f j := if_pos h
theorem sealP_ge {K : Nat} {ks : Nat → Nat → Nat} {nonce : Nat → Nat} {n nh : Nat} {f fh : Nat → Nat} (j : Nat) : sealP K ks nonce n nh f fh (n + j) = byP (tagN K ks nonce n nh (hideP K ks nonce f) fh) j := by
  unfold sealP
  rw [if_neg (by omega), Nat.add_sub_cancel_left]
/-- What was sealed is whole. -/
theorem whole_seal (K : Nat) (ks : Nat → Nat → Nat) (nonce : Nat → Nat) (n nh : Nat) (f fh : Nat → Nat) : WholeP K ks nonce (n + 16) nh (sealP K ks nonce n nh f fh) fh := by
  refine ⟨by omega, fun j hj => ?_⟩
  rw [Nat.add_sub_cancel, sealP_ge, tagN_congr K ks nonce (fun _ _ => rfl) (fun i hi => sealP_lt i hi)]
theorem hide_seal (K : Nat) (ks : Nat → Nat → Nat) (nonce : Nat → Nat) (n nh : Nat) (f fh : Nat → Nat) (j : Nat) (h : j < n) : hideP K ks nonce (sealP K ks nonce n nh f fh) j = f j := by
  rw [hideP_congr K ks nonce _ _ j (sealP_lt (nh := nh) (fh := fh) (f := f) j h), hideP_back]

def RdV (n : Nat) (f : Nat → Nat) : Value → World → Prop := fun v w => RdF w v n f
def TupV (n : Nat) (f : Nat → Nat) : Value → World → Prop := fun v w => ∃ v', v = .tuple #[v', .int .i64 0] ∧ RdF w v' n f
theorem RdV.mono {n : Nat} {f : Nat → Nat} {v : Value} {w w' : World} (hx : Ext w w') (h : RdV n f v w) : RdV n f v w' := RdF.ext h hx
theorem TupV.mono {n : Nat} {f : Nat → Nat} {v : Value} {w w' : World} (hx : Ext w w') (h : TupV n f v w) : TupV n f v w' := by
  obtain ⟨v', e, h⟩ := h
  exact ⟨v', e, h.ext hx⟩
/-- Seal and Open, with the parts of what they answer held together; Open of what Seal gave. -/
theorem opened42_any (vb vh : Value) (n nh b K : Nat) (f fh nonce : Nat → Nat) (ks : Nat → Nat → Nat) (w : World) (hn : n ≤ 65536) (hnh : nh ≤ 65536) (hvb : RdF w vb (n + 16) (sealP K ks nonce n nh f fh)) (hvh : RdF w vh nh fh) (hNl : ∀ j, j < 12 → nonce j < 256)
    (hC : Cph w b K ks) (hK : 2 ≤ K) (hK2 : K ≤ 1000) :
    Calls Try.prog 42 #[.pointer (some ⟨b, 0, none⟩), .agg (row 12 nonce), vb, vh] w fun e w' => ∃ v', e = .returned (.tuple #[v', .int .i64 0]) ∧ OwnF w' w.heap.size v' n f ∧ Ext w w' := by
  refine (open42_any vb vh (n + 16) nh b K _ fh nonce ks w (by omega) hnh hvb hvh hNl hC hK hK2).mono ?_
  rintro e w' ⟨hx, ⟨_, v', rfl, ho⟩ | ⟨hw, _⟩⟩
  · rw [Nat.add_sub_cancel] at ho
    exact ⟨v', rfl, ho.congr fun i hi => (hide_seal K ks nonce n nh f fh i hi).symm, hx⟩
  · exact absurd (whole_seal K ks nonce n nh f fh) hw
end Go.Proofs.Ytnigpobbckampaa
