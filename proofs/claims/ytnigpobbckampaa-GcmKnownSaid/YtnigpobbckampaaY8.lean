/- tag, walked. -/
import Derived.Test.YtnigpobbckampaaY7
import Derived.Test.YtnigpobbckampaaY0
namespace Go.Proofs.Ytnigpobbckampaa
open Go.RowKit Go.Shelf
set_option linter.unusedSimpArgs false
set_option linter.unusedVariables false

attribute [local go_sem] Oper.semAt_some

theorem run_build23z8 (w : World) : (Instr.build 23 #[]).run Try.prog w = .ok (.agg (row 16 fun _ => 0)) w := by kernel_rfl
theorem wl_build23z8 {ops : Array Oper} {rest : List Oper} {o : Oper} {a : Act} {w : World} {Q : Exit → Act → World → Prop} (hgd : o.guard = none) (ho : o.op = .build 23 #[]) (h : wpList Try.prog ops Q rest (a.put o.dst (.agg (row 16 fun _ => 0))) w) : wpList Try.prog ops Q (o :: rest) a w :=
  wpList_plain hgd fun _ hK => by
    unfold Oper.wp execOp
    simp only [ho, List.map_toArray, List.map_nil, Sem.run_bind, run_build23z8, Result.andThen_ok]
    exact hK _ _ h

/-- The sum over k blocks. -/
def sm (H : Nat) (e : Nat → Nat → Nat) : Nat → Nat
  | 0 => 0
  | k + 1 => tms (sm H e k ^^^ be (e k) 16) H
theorem sm_lt (H : Nat) (hH : H < 2 ^ 128) (e : Nat → Nat → Nat) (he : ∀ k j, e k j < 256) : ∀ k, sm H e k < 2 ^ 128
  | 0 => by simp [sm]
  | k + 1 => tms_lt _ (Nat.xor_lt_two_pow (sm_lt H hH e he k) (be_lt 16 (fun j _ => he k j)))
/-- The blocks of a head and a text. -/
def blks (nh ns : Nat) (fh fs : Nat → Nat) (k : Nat) : Nat → Nat := if k < (nh + 15) / 16 then fullP nh fh k else fullP ns fs (k - (nh + 15) / 16)
theorem blks_lt {nh ns : Nat} {fh fs : Nat → Nat} (h1 : ∀ i, i < nh → fh i < 256) (h2 : ∀ i, i < ns → fs i < 256) (k j : Nat) : blks nh ns fh fs k j < 256 := by
  unfold blks
  split
  · exact fullP_lt h1 _ _
  · exact fullP_lt h2 _ _
/-- A tag, as a number. -/
def tagN (K : Nat) (ks : Nat → Nat → Nat) (nonce : Nat → Nat) (ns nh : Nat) (fs fh : Nat → Nat) : Nat :=
  tms (sm (be (blockP K ks fun _ => 0) 16) (blks nh ns fh fs) ((nh + 15) / 16 + (ns + 15) / 16) ^^^ (8 * nh * 18446744073709551616 + 8 * ns)) (be (blockP K ks fun _ => 0) 16) ^^^ be (blockP K ks (ctrB nonce 1)) 16

set_option maxRecDepth 100000 in
set_option maxHeartbeats 1000000 in
theorem tag63_any (vs vh : Value) (ns nh gn gc b K : Nat) (fs fh nonce : Nat → Nat) (ks : Nat → Nat → Nat) (w : World) (hns : ns ≤ 100000) (hnh : nh ≤ 100000) (hvs : RdF w vs ns fs) (hvh : RdF w vh nh fh) (hN : Blk w gn 55 (row 12 nonce)) (hNl : ∀ j, j < 12 → nonce j < 256)
    (hgc : w.cell? ⟨gc, 0, none⟩ = some (.pointer (some ⟨b, 0, none⟩))) (hC : Cph w b K ks) (hK : 2 ≤ K) (hK2 : K ≤ 1000) :
    Calls Try.prog 63 #[.pointer (some ⟨b, 0, none⟩), .func (.func 73) #[] #[.pointer (some ⟨gn, 0, none⟩), .pointer (some ⟨gc, 0, none⟩)], vs, vh] w fun e w' => ∃ g, e = .returned (.slice (some ⟨g, 0, none⟩) 16 16) ∧ w.heap.size ≤ g ∧ Blk w' g 23 (row 16 (byP (tagN K ks nonce ns nh fs fh))) ∧ Ext w w' := by
  obtain ⟨so, sc, rfl, hsc⟩ := hvs.len
  obtain ⟨ho, hc, rfl, hhc⟩ := hvh.len
  have HVS := Lib.hid hvs
  have HVH := Lib.hid hvh
  have HN := Lib.hid hN
  have HGC := Lib.hid hgc
  have HC := Lib.hid hC
  have hkl : ∀ i, i < K → ∀ j, j < 16 → ks i j < 256 := by
    obtain ⟨_, _, _, _, _, _, hks⟩ := hC
    exact fun i hi j hj => (hks i hi j hj).2
  have hsl := hvs.lt
  have hhl := hvh.lt
  clear hvs hvh hN hgc hC
  refine callsIn_wide.1 (callsIn_of_wp_marks (n := 0) Try.func63 rfl trivial (wpIn_wide.2 ?_) rfl)
  simp only [Try.ntmps63, List.size_toArray, List.length_cons, List.length_nil, Nat.reduceAdd, Nat.reduceSub, Array.replicate_succ, Array.replicate_zero, List.push_toArray, List.append_toArray, List.nil_append, List.cons_append]
  go_wp2_with (refine wl_build23z8 rfl rfl ?_)
  refine (block_any b K ks hK hK2 (fun _ => 0) (fun _ _ => by omega) _ HC.out).mono ?_
  rintro e w1 ⟨rfl, hx1⟩
  have hzl : ∀ j, j < 16 → blockP K ks (fun _ => 0) j < 256 := fun j hj => blockP_lt K ks _ (fun _ _ => by omega) (by omega) hkl j hj
  go_wp2_with fail
  refine (of57_any _ hzl _).mono ?_
  rintro e w2 ⟨rfl, hx2⟩
  have hHl : be (blockP K ks fun _ => 0) 16 < 2 ^ 128 := be_lt 16 hzl
  obtain ⟨H, hH⟩ : ∃ H, H = be (blockP K ks fun _ => 0) 16 := ⟨_, rfl⟩
  rw [← hH] at hHl ⊢
  have HH := Lib.hid hH
  have HX2 := Lib.hid (hx1.trans hx2)
  clear hH hx1 hx2 hzl
  go_upto_region 2 with (first | (refine wl_allocA rfl 85 rfl _ zero85 ?_) | (refine wl_storeA rfl 85 _ _ rfl _ 0 2 rfl (pcells H) rfl sz85 (pcells_size _) _ _ (Blk.new _ _ _) (by simp [pcells_size]) (pcells_one _) (pcells H) (lay_all _ _ rfl) ?_))
  have hb0 : Blk ((w2.alloc (.cells (pcells 0) 85)).setRow w2.heap.size (pcells H)) w2.heap.size 85 (pcells H) := (Blk.new _ _ _).setRow _
  have hx3 : Ext w2 ((w2.alloc (.cells (pcells 0) 85)).setRow w2.heap.size (pcells H)) := below_setRow (g := w2.heap.size) (Ext.alloc _ _) (Nat.le_refl _) _
  have hs3 : ((w2.alloc (.cells (pcells 0) 85)).setRow w2.heap.size (pcells H)).heap.size = w2.heap.size + 1 := by simp
  have hSw := HX2.out.size
  simp only [put_lit, put_nil7, List.set_cons_succ, List.set_cons_zero]
  generalize w2.heap.size = S at hb0 hx3 hs3 hSw ⊢
  generalize (w2.alloc (.cells (pcells 0) 85)).setRow S (pcells H) = w3 at hb0 hx3 hs3 ⊢
  have HB0 := Lib.hid hb0
  have HX3 := Lib.hid (HX2.out.trans hx3)
  clear hb0 hx3 HX2
  go_wp2_with (refine wl_allocA rfl 85 rfl _ zero85 ?_)
  have q1 : Blk ((w3.alloc (.cells (pcells 0) 85)).alloc (.cells #[.slice ho nh hc, .slice so ns sc] 22)) w3.heap.size 85 (pcells 0) := (Blk.new _ _ _).alloc _
  have q2 : Blk ((w3.alloc (.cells (pcells 0) 85)).alloc (.cells #[.slice ho nh hc, .slice so ns sc] 22)) (w3.heap.size + 1) 22 #[.slice ho nh hc, .slice so ns sc] := by
    have := Blk.new (w3.alloc (.cells (pcells 0) 85)) 22 #[.slice ho nh hc, .slice so ns sc]
    simpa only [World.size_alloc] using this
  have hx5 : Ext w3 ((w3.alloc (.cells (pcells 0) 85)).alloc (.cells #[.slice ho nh hc, .slice so ns sc] 22)) := (Ext.alloc _ _).trans (Ext.alloc _ _)
  have hs5 : ((w3.alloc (.cells (pcells 0) 85)).alloc (.cells #[.slice ho nh hc, .slice so ns sc] 22)).heap.size = S + 3 := by simp only [World.size_alloc]; omega
  generalize (w3.alloc (.cells (pcells 0) 85)).alloc (.cells #[.slice ho nh hc, .slice so ns sc] 22) = w5 at q1 q2 hx5 hs5 ⊢
  rw [hs3] at q1 q2
  refine (blocks74_any _ 2 2 _).mono ?_
  rintro e w7 ⟨rfl, hw7⟩
  have hx7 : Ext w5 w7 := by rw [hw7]; exact Ext.alloc _ _
  have q3 : Blk w7 w5.heap.size 62 #[.slice (some ⟨S + 1 + 1, 0, none⟩) 2 2] := by rw [hw7]; exact Blk.new _ _ _
  have hs7 : w7.heap.size = S + 4 := by rw [hw7]; simp only [World.size_alloc]; omega
  rw [hs5] at q3 ⊢
  have h0 := Lib.hid ((HB0.out.ext hx5).ext hx7)
  have h1 := Lib.hid (q1.ext hx7)
  have h2 := Lib.hid (q2.ext hx7)
  have h3 := Lib.hid q3
  have hX := Lib.hid (HX3.out.trans (hx5.trans hx7))
  clear q1 q2 q3 hx5 hx7 hs3 hs5 hw7 HB0 HX3
  simp only [Nat.add_assoc, Nat.reduceAdd] at h2 h3 ⊢
  go_wp2_with fail
  have hel := fun k j => blks_lt (nh := nh) (ns := ns) hhl hsl k j
  have hKp : ∀ A B, KpB (S + 4) (fun j => j ≠ S + 1) A B → Texts A (S + 3) (S + 2) 2 (fun i => if i = 0 then .slice ho nh hc else .slice so ns sc) (fun i => if i = 0 then nh else ns) (fun i => if i = 0 then fh else fs) → Texts B (S + 3) (S + 2) 2 (fun i => if i = 0 then .slice ho nh hc else .slice so ns sc) (fun i => if i = 0 then nh else ns) (fun i => if i = 0 then fh else fs) := by
    intro A B hK hT
    refine ⟨hK.cell (.inr (by show S + 3 ≠ S + 1; omega)) hT.1, fun i hi => ⟨hK.cell (.inr (by show S + 2 ≠ S + 1; omega)) (hT.2 i hi).1, ?_⟩⟩
    have h := (hT.2 i hi).2
    rcases (by omega : i = 0 ∨ i = 1) with rfl | rfl
    · exact RdF.kpB HVH.out (fun g hg => by show g ≠ S + 1; omega) hK h
    · exact RdF.kpB HVS.out (fun g hg => by show g ≠ S + 1; omega) hK h
  have hT : Texts w7 (S + 3) (S + 2) 2 (fun i => if i = 0 then .slice ho nh hc else .slice so ns sc) (fun i => if i = 0 then nh else ns) (fun i => if i = 0 then fh else fs) := by
    refine ⟨(h3.out.cell 0).trans rfl, fun i hi => ?_⟩
    rcases (by omega : i = 0 ∨ i = 1) with rfl | rfl
    · exact ⟨(h2.out.cell 0).trans rfl, HVH.out.ext hX.out⟩
    · exact ⟨(h2.out.cell 1).trans rfl, HVS.out.ext hX.out⟩
  have hit := blocks_iter (S + 3) (S + 2) 2 (fun i => if i = 0 then .slice ho nh hc else .slice so ns sc) (fun i => if i = 0 then nh else ns) (fun i => if i = 0 then fh else fs) (fun i => if i = 0 then 0 else if i = 1 then (nh + 15) / 16 else (nh + 15) / 16 + (ns + 15) / 16) (fun k => #[.agg (row 16 (blks nh ns fh fs k))]) (S + 4) (fun j => j ≠ S + 1) (by omega)
    (fun i _ => by show (if i = 0 then nh else ns) ≤ _; split <;> omega) rfl
    (fun i hi => by rcases (by omega : i = 0 ∨ i = 1) with rfl | rfl <;> simp)
    (fun i hi k hk => by
      rcases (by omega : i = 0 ∨ i = 1) with rfl | rfl
      · have hk' : k < (nh + 15) / 16 := hk
        show #[Value.agg (row 16 (blks nh ns fh fs (0 + k)))] = _
        rw [Nat.zero_add]
        unfold blks
        rw [if_pos hk']
        rfl
      · show #[Value.agg (row 16 (blks nh ns fh fs ((nh + 15) / 16 + k)))] = _
        unfold blks
        rw [if_neg (by omega), Nat.add_sub_cancel_left]
        rfl) hKp w7 (by omega) hT
  have hit2 : IterX Try.prog 79 #[.pointer (some ⟨S + 3, 0, none⟩)] (fun k => #[.agg (row 16 (blks nh ns fh fs k))]) (KpB (S + 4) (fun j => j ≠ S + 1)) ((nh + 15) / 16 + (ns + 15) / 16) w7 := hit
  clear hKp hT hit
  refine (wpIn_wide (n := 0)).1 (range_lawX (gf := 79) (lb := #[.pointer (some ⟨S + 3, 0, none⟩)]) rfl (enters_of Try.func79 (by kernel_rfl) rfl) hit2 (Below.refl _ _) (fun _ => rfl) (fun h k => h.trans k) (fun A b o o' _ hb ho => KpB.putObj hb ho)
    (fun k W => Blk W (S + 1) 85 (pcells (sm H (blks nh ns fh fs) k)) ∧ (∀ j, j < S + 4 → j ≠ S + 1 → W.heap[j]? = w7.heap[j]?) ∧ Below S w7 W ∧ S + 4 ≤ W.heap.size)
    ?own ?mono ⟨h1.out, fun _ _ _ => rfl, Below.refl _ _, by omega⟩ ?round ?done)
  case own =>
    rintro k A A' row ⟨a1, a4, a5, a6⟩ hg hr
    have hlt : ∀ j, j < S + 4 → some j ≠ row := fun j hj e => by have := (hr j e.symm).1; omega
    exact ⟨(hg.block _ a1.lt (hlt _ (by omega))).trans a1, fun j b1 b2 => (hg.block j (by omega) (hlt j b1)).trans (a4 j b1 b2), a5.grown hg (by omega) (fun r e => by have := (hr r e).1; omega), by have := hg.size; omega⟩
  case mono =>
    rintro k A B ⟨a1, a4, a5, a6⟩ hx
    exact ⟨a1.ext hx, fun j b1 b2 => (hx.block (by omega)).trans (a4 j b1 b2), a5.trans (Below.mono hx (by omega)), by have := hx.size; omega⟩
  case round =>
    rintro m l k W hk ⟨a1, a4, a5, a6⟩
    have A1 := Lib.hid a1
    have A4 := Lib.hid a4
    have A5 := Lib.hid a5
    clear a1 a4 a5
    simp only [List.size_toArray, List.zip_toArray, List.foldl_toArray', List.zip_cons_cons, List.zip_nil_right, List.foldl_cons, List.foldl_nil, List.setIfInBounds_toArray, List.set_cons_succ, List.set_cons_zero]
    refine wpIn_gen (fun K0 hK0 => ?_)
    have HK0 := Lib.hid hK0
    clear hK0
    obtain ⟨E, hE⟩ : ∃ E, E = blks nh ns fh fs k := ⟨_, rfl⟩
    rw [← hE]
    refine region_round l then_lets (by kernel_rfl) ?_
    refine wl_allocA rfl 23 rfl _ zero23 ?_
    simp only [put_lit, List.set_cons_succ, List.set_cons_zero]
    refine wl_storeA rfl 23 (.tmp 11) (.tmp 21) rfl _ 0 16 rfl (row 16 E) rfl sz23 (row_size _ _) _ _ (Blk.new _ _ _) (by simp [row_size]) (row_one _ _) (row 16 E) (lay_all _ _ (by simp [row_size])) ?_
    simp only [put_nil7]
    refine HK0.out _ _ ?_
    clear HK0 K0
    have hx : Ext W ((W.alloc (.cells (row 16 fun _ => 0) 23)).setRow W.heap.size (row 16 E)) := below_setRow (g := W.heap.size) (Ext.alloc _ _) (Nat.le_refl _) _
    have hbz : Blk ((W.alloc (.cells (row 16 fun _ => 0) 23)).setRow W.heap.size (row 16 E)) W.heap.size 23 (row 16 E) := (Blk.new _ _ _).setRow _
    obtain ⟨gz, hgz⟩ : ∃ gz, gz = W.heap.size := ⟨_, rfl⟩
    have hgzS : S + 4 ≤ gz := by omega
    rw [← hgz] at hbz hx ⊢
    have hsx := hx.size
    refine ⟨keeps_of_ext hx, KpB.ext hx, ⟨A1.out.ext hx, fun j b1 b2 => (hx.block (by omega)).trans (A4.out j b1 b2), A5.out.trans (Below.mono hx (by omega)), by omega⟩, fun Wz => Blk Wz gz 23 (row 16 E), ?ownz, hbz, ?body⟩
    case ownz =>
      intro _ A A' row h hg hr
      have hne : some gz ≠ row := fun e => by
        obtain ⟨_, ho⟩ := hr gz e.symm
        obtain ⟨o, ho, hc⟩ := ho
        have e2 := ho.symm.trans h
        have e3 := Option.some.inj e2
        rw [e3] at hc
        exact absurd hc (by simp [Obj.isCells])
      exact (hg.block gz h.lt hne).trans h
    case body =>
      clear A1 A4 A5 hx hbz hgz hsx a6 W
      rintro W ⟨a1, a4, a5, a6⟩ hz
      have hsl2 := sm_lt H hHl (blks nh ns fh fs) hel k
      have hEl : ∀ j, j < 16 → E j < 256 := fun j _ => by rw [hE]; exact hel k j
      have hEb : be E 16 < 2 ^ 128 := be_lt 16 hEl
      have hxl : sm H (blks nh ns fh fs) k ^^^ be E 16 < 2 ^ 128 := Nat.xor_lt_two_pow hsl2 hEb
      have hb9 : Blk W S 85 (pcells H) := (a4 S (by omega) (by omega)).trans h0.out
      have HS2 := Lib.hid (show tms (sm H (blks nh ns fh fs) k ^^^ be E 16) H = sm H (blks nh ns fh fs) (k + 1) from by rw [hE]; rfl)
      have A1 := Lib.hid a1
      have A4 := Lib.hid a4
      have A5 := Lib.hid a5
      have HZ := Lib.hid hz
      have HB9 := Lib.hid hb9
      clear a1 a4 a5 hz hb9 hE
      refine wpIn_block ?_
      apply wpIn_region_mid l 6 [.det _, .det _, .det _, .det _, .det _, .det _] (by kernel_rfl) rfl (by kernel_rfl) (by kernel_rfl) (fun ⟨_, _, h⟩ => h)
      · skip
        refine wpE_run rfl rfl (by simp) (fun w' hx' _ K hK => wp_loadA 85 _ rfl _ 0 2 rfl agg85 sz85 _ _ (A1.out.ext hx') (by simp [pcells_size]) (pcells (sm H (blks nh ns fh fs) k)) rfl (hK _ (Ext.refl _))) ?_
        simp only [put_lit, List.set_cons_succ, List.set_cons_zero]
        refine wpE_run rfl rfl (by simp) (fun w' hx' _ K hK => wp_loadA 23 _ rfl _ 0 16 rfl agg23 sz23 _ _ (HZ.out.ext hx') (by simp [row_size]) (row 16 E) (row_whole _ _) (hK _ (Ext.refl _))) ?_
        simp only [put_lit, List.set_cons_succ, List.set_cons_zero]
        (refine wpE_run rfl rfl (by simp) (fun w1 hx1 _ K9 hK9 => by go_wp2_with (go_at_call 57; refine (of57_any E hEl _).mono ?_; rintro e w2 ⟨rfl, hx2⟩; exact hK9 _ hx2)) ?_); simp only [put_lit, List.set_cons_succ, List.set_cons_zero]
        (refine wpE_run rfl rfl (by simp) (fun w1 hx1 _ K9 hK9 => by go_wp2_with (go_at_call 71; refine (add71_any _ _ hsl2 hEb _).mono ?_; rintro e w2 ⟨rfl, hx2⟩; exact hK9 _ hx2)) ?_); simp only [put_lit, List.set_cons_succ, List.set_cons_zero]
        refine wpE_run rfl rfl (by simp) (fun w' hx' _ K hK => wp_loadA 85 _ rfl _ 0 2 rfl agg85 sz85 _ _ (HB9.out.ext hx') (by simp [pcells_size]) (pcells H) rfl (hK _ (Ext.refl _))) ?_
        simp only [put_lit, List.set_cons_succ, List.set_cons_zero]
        (refine wpE_run rfl rfl (by simp) (fun w1 hx1 _ K9 hK9 => by go_wp2_with (go_at_call 58; refine (times58_any _ _ hxl hHl _).mono ?_; rintro e w2 ⟨rfl, hx2⟩; exact hK9 _ hx2)) ?_); simp only [put_lit, List.set_cons_succ, List.set_cons_zero]
        (refine wpE_nil ?_; intro w2 hw2 hF; simp only [List.drop_succ_cons, List.drop_zero])
        rw [HS2.out]
        have hs2 := hw2.size
        refine wl_storeA rfl 85 (.tmp 10) (.tmp 27) rfl (S + 1) 0 2 rfl (pcells (sm H (blks nh ns fh fs) (k + 1))) rfl sz85 (pcells_size _) _ _ (A1.out.ext hw2) (by simp [pcells_size]) (pcells_one _) (pcells (sm H (blks nh ns fh fs) (k + 1))) (lay_all _ _ rfl) ?_
        exact ⟨(keeps_of_ext hw2).trans (keeps_setRow (A1.out.ext hw2) _), (KpB.ext hw2).trans (KpB.setRow _ (by omega) (fun h => h rfl)), (A1.out.ext hw2).setRow _, fun j b1 b2 => (_root_.Go.setRow_other w2 (S + 1) j _ b2).trans ((hw2.block (by omega)).trans (A4.out j b1 b2)), below_setRow (g := S + 1) (A5.out.trans (Below.mono hw2 (by omega))) (by omega) _, by simp; omega⟩
  case done =>
    rintro D W hD ⟨a1, a4, a5, a6⟩ hdef
    have hxw : Ext w W := Below.trans hX.out (Below.mono a5 (by omega))
    have hb9 : Blk W S 85 (pcells H) := (a4 S (by omega) (by omega)).trans h0.out
    have A1 := Lib.hid a1
    have A5 := Lib.hid a5
    have HB9 := Lib.hid hb9
    have HXW := Lib.hid hxw
    have HDf := Lib.hid hdef
    clear a1 a4 a5 hb9 hxw hdef hit2 h0 h1 h2 h3
    go_upto_region 6 with fail
    have hsl2 := sm_lt H hHl (blks nh ns fh fs) hel ((nh + 15) / 16 + (ns + 15) / 16)
    generalize hSG : sm H (blks nh ns fh fs) ((nh + 15) / 16 + (ns + 15) / 16) = SG at A1 hsl2
    have HSG := Lib.hid hSG
    clear hSG
    have hLl : 8 * nh * 18446744073709551616 + 8 * ns < 2 ^ 128 := by omega
    have HL := Lib.hid (show Value.agg #[.int .u64 ((nh : Int) * 8), .int .u64 ((ns : Int) * 8)] = pv (8 * nh * 18446744073709551616 + 8 * ns) from by
      unfold pv pcells
      rw [show (8 * nh * 18446744073709551616 + 8 * ns) / 18446744073709551616 = 8 * nh by omega, show (8 * nh * 18446744073709551616 + 8 * ns) % 18446744073709551616 = 8 * ns by omega, show ((8 * nh : Nat) : Int) = (nh : Int) * 8 by omega, show ((8 * ns : Nat) : Int) = (ns : Int) * 8 by omega])
    apply wp_region_mid 13 [.det _, .det _, .det _, .det _, .det _, .det _, .det _, .det _, .det _, .det _, .det _, .det _, .det _] (by kernel_rfl) rfl (by kernel_rfl)
    · skip
      refine wpE_run rfl rfl (by simp) (fun w' hx' _ K hK => wp_loadA 85 _ rfl _ 0 2 rfl agg85 sz85 _ _ (A1.out.ext hx') (by simp [pcells_size]) (pcells SG) rfl (hK _ (Ext.refl _))) ?_
      simp only [put_lit, List.set_cons_succ, List.set_cons_zero]
      (first | (refine wpE_move rfl rfl rfl ?_; simp only [put_lit, eval_lit, BigFrame.eval_const, List.set_cons_succ, List.set_cons_zero, List.getD_cons_succ, List.getD_cons_zero]) | (refine wpE_run rfl rfl (by simp) (fun w1 hx1 _ K hK => by go_step; exact hK _ (Ext.refl _)) ?_; simp only [put_lit, List.set_cons_succ, List.set_cons_zero]))
      (first | (refine wpE_move rfl rfl rfl ?_; simp only [put_lit, eval_lit, BigFrame.eval_const, List.set_cons_succ, List.set_cons_zero, List.getD_cons_succ, List.getD_cons_zero]) | (refine wpE_run rfl rfl (by simp) (fun w1 hx1 _ K hK => by go_step; exact hK _ (Ext.refl _)) ?_; simp only [put_lit, List.set_cons_succ, List.set_cons_zero]))
      (first | (refine wpE_move rfl rfl rfl ?_; simp only [put_lit, eval_lit, BigFrame.eval_const, List.set_cons_succ, List.set_cons_zero, List.getD_cons_succ, List.getD_cons_zero]) | (refine wpE_run rfl rfl (by simp) (fun w1 hx1 _ K hK => by go_step; exact hK _ (Ext.refl _)) ?_; simp only [put_lit, List.set_cons_succ, List.set_cons_zero]))
      (first | (refine wpE_move rfl rfl rfl ?_; simp only [put_lit, eval_lit, BigFrame.eval_const, List.set_cons_succ, List.set_cons_zero, List.getD_cons_succ, List.getD_cons_zero]) | (refine wpE_run rfl rfl (by simp) (fun w1 hx1 _ K hK => by go_step; exact hK _ (Ext.refl _)) ?_; simp only [put_lit, List.set_cons_succ, List.set_cons_zero]))
      (first | (refine wpE_move rfl rfl rfl ?_; simp only [put_lit, eval_lit, BigFrame.eval_const, List.set_cons_succ, List.set_cons_zero, List.getD_cons_succ, List.getD_cons_zero]) | (refine wpE_run rfl rfl (by simp) (fun w1 hx1 _ K hK => by go_step; exact hK _ (Ext.refl _)) ?_; simp only [put_lit, List.set_cons_succ, List.set_cons_zero]))
      (first | (refine wpE_move rfl rfl rfl ?_; simp only [put_lit, eval_lit, BigFrame.eval_const, List.set_cons_succ, List.set_cons_zero, List.getD_cons_succ, List.getD_cons_zero]) | (refine wpE_run rfl rfl (by simp) (fun w1 hx1 _ K hK => by go_step; exact hK _ (Ext.refl _)) ?_; simp only [put_lit, List.set_cons_succ, List.set_cons_zero]))
      (first | (refine wpE_move rfl rfl rfl ?_; simp only [put_lit, eval_lit, BigFrame.eval_const, List.set_cons_succ, List.set_cons_zero, List.getD_cons_succ, List.getD_cons_zero]) | (refine wpE_run rfl rfl (by simp) (fun w1 hx1 _ K hK => by go_step; exact hK _ (Ext.refl _)) ?_; simp only [put_lit, List.set_cons_succ, List.set_cons_zero]))
      (first | (refine wpE_move rfl rfl rfl ?_; simp only [put_lit, eval_lit, BigFrame.eval_const, List.set_cons_succ, List.set_cons_zero, List.getD_cons_succ, List.getD_cons_zero]) | (refine wpE_run rfl rfl (by simp) (fun w1 hx1 _ K hK => by go_step; exact hK _ (Ext.refl _)) ?_; simp only [put_lit, List.set_cons_succ, List.set_cons_zero]))
      (first | (refine wpE_move rfl rfl rfl ?_; simp only [put_lit, eval_lit, BigFrame.eval_const, List.set_cons_succ, List.set_cons_zero, List.getD_cons_succ, List.getD_cons_zero]) | (refine wpE_run rfl rfl (by simp) (fun w1 hx1 _ K hK => by go_step; exact hK _ (Ext.refl _)) ?_; simp only [put_lit, List.set_cons_succ, List.set_cons_zero]))
      rw [HL.out]
      (refine wpE_run rfl rfl (by simp) (fun w1 hx1 _ K9 hK9 => by go_wp2_with (go_at_call 71; refine (add71_any _ _ hsl2 hLl _).mono ?_; rintro e w2 ⟨rfl, hx2⟩; exact hK9 _ hx2)) ?_); simp only [put_lit, List.set_cons_succ, List.set_cons_zero]
      refine wpE_run rfl rfl (by simp) (fun w' hx' _ K hK => wp_loadA 85 _ rfl _ 0 2 rfl agg85 sz85 _ _ (HB9.out.ext hx') (by simp [pcells_size]) (pcells H) rfl (hK _ (Ext.refl _))) ?_
      simp only [put_lit, List.set_cons_succ, List.set_cons_zero]
      (refine wpE_run rfl rfl (by simp) (fun w1 hx1 _ K9 hK9 => by go_wp2_with (go_at_call 58; refine (times58_any _ _ (Nat.xor_lt_two_pow hsl2 hLl) hHl _).mono ?_; rintro e w2 ⟨rfl, hx2⟩; exact hK9 _ hx2)) ?_); simp only [put_lit, List.set_cons_succ, List.set_cons_zero]
      (refine wpE_nil ?_; intro w2 hw2 hF; simp only [List.drop_succ_cons, List.drop_zero])
      have hs2 := hw2.size
      refine wl_storeA rfl 85 (.tmp 10) (.tmp 40) rfl (S + 1) 0 2 rfl (pcells (tms (SG ^^^ (8 * nh * 18446744073709551616 + 8 * ns)) H)) rfl sz85 (pcells_size _) _ _ (A1.out.ext hw2) (by simp [pcells_size]) (pcells_one _) (pcells (tms (SG ^^^ (8 * nh * 18446744073709551616 + 8 * ns)) H)) (lay_all _ _ rfl) ?_
      obtain ⟨TT, hTT⟩ : ∃ TT, TT = tms (SG ^^^ (8 * nh * 18446744073709551616 + 8 * ns)) H := ⟨_, rfl⟩
      have hTl : TT < 2 ^ 128 := by rw [hTT]; exact tms_lt _ (Nat.xor_lt_two_pow hsl2 hLl)
      rw [← hTT]
      have e1 := (A1.out.ext hw2).setRow (pcells TT)
      have e5 := below_setRow (g := S + 1) (A5.out.trans (Below.mono hw2 (by omega))) (by omega) (pcells TT)
      have eD : (w2.setRow (S + 1) (pcells TT)).heap[D]? = some (.deferred (some [])) := (_root_.Go.setRow_other w2 (S + 1) D _ (by omega)).trans (hw2.heap HDf.out)
      have ex : Ext w (w2.setRow (S + 1) (pcells TT)) := below_setRow (g := S + 1) (HXW.out.trans hw2) (by omega) (pcells TT)
      have hsz : S + 4 ≤ (w2.setRow (S + 1) (pcells TT)).heap.size := by simp; omega
      generalize w2.setRow (S + 1) (pcells TT) = w4 at e1 e5 eD ex hsz ⊢
      have E1 := Lib.hid e1
      have E5 := Lib.hid e5
      have ED := Lib.hid eD
      have EX := Lib.hid ex
      have ET := Lib.hid hTT
      clear e1 e5 eD ex hTT hF hw2 A1 A5 HB9 HXW HDf
      simp only [put_nil7]
      go_upto_region 7 with fail
      have hyl : ∀ j, j < 16 → blockP K ks (ctrB nonce 1) j < 256 := fun j hj => blockP_lt K ks _ (fun i _ => ctrB_lt hNl _ i) (by omega) hkl j hj
      have hyb : be (blockP K ks (ctrB nonce 1)) 16 < 2 ^ 128 := be_lt 16 hyl
      have HT := Lib.hid (show TT ^^^ be (blockP K ks (ctrB nonce 1)) 16 = tagN K ks nonce ns nh fs fh from by
        unfold tagN
        rw [ET.out, ← HSG.out, HH.out])
      have htl : tagN K ks nonce ns nh fs fh < 2 ^ 128 := by rw [← HT.out]; exact Nat.xor_lt_two_pow hTl hyb
      apply wp_region_mid 7 [.det _, .det _, .det _, .det _, .det _, .det _, .any (Fresh w4 23 (row 16 fun _ => 0))] (by kernel_rfl) rfl (by kernel_rfl)
      · skip
        refine wpE_run rfl rfl (by simp) (fun w' hx' _ K hK => wp_loadA 85 _ rfl _ 0 2 rfl agg85 sz85 _ _ (E1.out.ext hx') (by simp [pcells_size]) (pcells TT) rfl (hK _ (Ext.refl _))) ?_
        simp only [put_lit, List.set_cons_succ, List.set_cons_zero]
        (first | (refine wpE_move rfl rfl rfl ?_; simp only [put_lit, eval_lit, BigFrame.eval_const, List.set_cons_succ, List.set_cons_zero, List.getD_cons_succ, List.getD_cons_zero]) | (refine wpE_run rfl rfl (by simp) (fun w1 hx1 _ K hK => by go_step; exact hK _ (Ext.refl _)) ?_; simp only [put_lit, List.set_cons_succ, List.set_cons_zero]))
        (refine wpE_run rfl rfl (by simp) (fun w1 hx1 _ K9 hK9 => by go_wp2_with (go_at_call 73; refine (counted73_any 1 gn gc b K nonce ks _ (by omega) (HN.out.ext (EX.out.trans hx1)) hNl ((EX.out.trans hx1).cell HGC.out) (HC.out.ext (EX.out.trans hx1)) hK hK2).mono ?_; rintro e w2 ⟨rfl, hx2⟩; exact hK9 _ hx2)) ?_); simp only [put_lit, List.set_cons_succ, List.set_cons_zero]
        (refine wpE_run rfl rfl (by simp) (fun w1 hx1 _ K9 hK9 => by go_wp2_with (go_at_call 57; refine (of57_any _ hyl _).mono ?_; rintro e w2 ⟨rfl, hx2⟩; exact hK9 _ hx2)) ?_); simp only [put_lit, List.set_cons_succ, List.set_cons_zero]
        (refine wpE_run rfl rfl (by simp) (fun w1 hx1 _ K9 hK9 => by go_wp2_with (go_at_call 71; refine (add71_any _ _ hTl hyb _).mono ?_; rintro e w2 ⟨rfl, hx2⟩; exact hK9 _ hx2)) ?_); simp only [put_lit, List.set_cons_succ, List.set_cons_zero]
        rw [HT.out]
        (refine wpE_run rfl rfl (by simp) (fun w1 hx1 _ K9 hK9 => by go_wp2_with (go_at_call 59; refine (block59_any _ htl _).mono ?_; rintro e w2 ⟨rfl, hx2⟩; exact hK9 _ hx2)) ?_); simp only [put_lit, List.set_cons_succ, List.set_cons_zero]
        refine wpE_alloc rfl zero23 rfl (by simp) rfl (fun u12 => ?_)
        simp only [put_lit, List.set_cons_succ, List.set_cons_zero]
        refine wpE_nil ?_
        intro w5 hw5 hF
        simp only [List.drop_succ_cons, List.drop_zero]
        obtain ⟨g12, rfl, hg12, hb12⟩ := hF _ (List.mem_cons_self ..)
        have hs5 := hw5.size
        refine wl_storeA rfl 23 (.tmp 12) (.tmp 46) rfl g12 0 16 rfl (row 16 (byP (tagN K ks nonce ns nh fs fh))) rfl sz23 (row_size _ _) _ _ hb12 (by simp [row_size]) (row_one _ _) (row 16 (byP (tagN K ks nonce ns nh fs fh))) (lay_all _ _ (by simp [row_size])) ?_
        have b1 := hb12.setRow (row 16 (byP (tagN K ks nonce ns nh fs fh)))
        have bD : (w5.setRow g12 (row 16 (byP (tagN K ks nonce ns nh fs fh)))).heap[D]? = some (.deferred (some [])) := by
          have h := hw5.heap ED.out
          have hDg : D ≠ g12 := fun e => by
            have h2 : w5.heap[g12]? = some (.cells (row 16 fun _ => 0) 23 (0, 0)) := hb12
            rw [← e, h] at h2
            cases h2
          exact (_root_.Go.setRow_other w5 g12 D _ hDg).trans h
        have b5 := below_setRow (g := g12) (E5.out.trans (Below.mono hw5 (by omega))) (by omega) (row 16 (byP (tagN K ks nonce ns nh fs fh)))
        generalize w5.setRow g12 (row 16 (byP (tagN K ks nonce ns nh fs fh))) = w6 at b1 bD b5 ⊢
        have c1 : Below S w7 (w6.putObj D (.deferred none)) := b5.trans (belowK_b (w := w7) (by omega) w6 D _ _ hD bD rfl rfl)
        have c2 : Ext w (w6.putObj D (.deferred none)) := Below.trans hX.out (Below.mono c1 (by omega))
        have hDg : g12 ≠ D := fun e => by
          have h2 : w6.heap[g12]? = some (.cells (row 16 (byP (tagN K ks nonce ns nh fs fh))) 23 (0, 0)) := b1
          rw [e, bD] at h2
          cases h2
        have c3 : Blk (w6.putObj D (.deferred none)) g12 23 (row 16 (byP (tagN K ks nonce ns nh fs fh))) := (World.putObj_heap_other hDg).trans b1
        have C2 := Lib.hid c2
        have C3 := Lib.hid c3
        have BD := Lib.hid bD
        have hgw : w.heap.size ≤ g12 := by omega
        clear c1 c2 c3 bD b1 b5 hF hw5 hb12 hDg
        simp only [put_nil7]
        go_wp2_with fail
        exact marks_retD BD.out (by kernel_rfl) ⟨g12, rfl, hgw, C3.out, C2.out⟩
end Go.Proofs.Ytnigpobbckampaa
