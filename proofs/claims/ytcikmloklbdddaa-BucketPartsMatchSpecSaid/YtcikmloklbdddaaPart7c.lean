/- What the reference's Merge returns of any list of buckets. Conditions: those of the theorem's head. -/
import Derived.Test.YtcikmloklbdddaaWWords
import Derived.Test.YtcikmloklbdddaaPart7b
import Derived.Deep.DeepCutAuto
import Derived.Tactics2
import Derived.StillTailTactics
set_option linter.unusedVariables false
set_option linter.unusedSimpArgs false
namespace Go.Proofs.Ytcikmloklbdddaa
open Go.RowKit
open Go.Proofs.YtcikmloklbdddaaW.PrintWords (ReadsInt rd own_nil blk_frozen own_weaken own_setCell own_base own_lt blk_set add_block blk_alloc blk_below blk_far blk_grown pw_own_below add_field own_slice)
theorem invM_last {l : List BK} {y : BK} (h : InvM l l.length y) (h1 : 1 ≤ l.length) : y.d = (bAt l 0).d ∧ y.a = (bAt l 0).a := by
  obtain ⟨k, hk⟩ : ∃ k, l.length = k + 1 := ⟨l.length - 1, by omega⟩
  have ha := h.acc
  have ho := h.ok
  rw [hk, take_bAt (by omega)] at ha
  rw [List.take_of_length_le (Nat.le_refl _)] at ho
  rw [accB_snoc] at ha
  have hb := (ho _ (bAt_mem (l := l) (j := k) (by omega))).2
  rw [← ha]
  exact hb
/-- What lies in memory in the round of the reference's Merge: the result, the sum, the bucket at hand. -/
structure St7 (w W : World) (p : Addr) (b f y : BK) : Prop where
  below : Below w.heap.size w W
  r : W.heap[w.heap.size]? = some (.cells #[.int .i64 0, .int .i64 0, .int .i64 0, .int .i64 0, .int .i64 0, .int .i64 0] 33 (0, 0))
  o : W.heap[w.heap.size + 1]? = some (bo y.c y.n f.d y.l f.a)
  c0 : W.cell? p = some (.int .i64 b.c)
  c1 : W.cell? ⟨p.block, p.off + 1, none⟩ = some (.int .i64 b.n)
  c3 : W.cell? ⟨p.block, p.off + 3, none⟩ = some (.int .i64 b.l)
  lt : p.block < w.heap.size
theorem St7.cells {w W : World} {p : Addr} {b f y : BK} (h : St7 w W p b f y) : W.cell? ⟨w.heap.size + 1, 0, none⟩ = some (.int .i64 y.c) ∧ W.cell? ⟨w.heap.size + 1, 1, none⟩ = some (.int .i64 y.n) ∧ W.cell? ⟨w.heap.size + 1, 3, none⟩ = some (.int .i64 y.l) ∧ (∀ i, W.frozen? ⟨w.heap.size + 1, i, none⟩ = false) ∧ w.heap.size + 1 < W.heap.size :=
  ⟨(cell_of_row W (w.heap.size + 1) 0 _ _ _ h.o).trans rfl, (cell_of_row W (w.heap.size + 1) 1 _ _ _ h.o).trans rfl, (cell_of_row W (w.heap.size + 1) 3 _ _ _ h.o).trans rfl, fun i => blk_frozen h.o i, (Array.getElem?_eq_some_iff.1 h.o).1⟩
theorem St7.other {w W : World} {q : Addr} {v u : Value} {i : Nat} (hq : q.block < w.heap.size) (hc : W.cell? q = some v) : (W.setCell ⟨w.heap.size + 1, i, none⟩ u).cell? q = some v :=
  (World.cell?_setCell_other _ _ _ _ (by intro e; have h9 : w.heap.size + 1 = q.block := congrArg Addr.block e; omega)).trans hc
theorem St7.drew {w W : World} {p : Addr} {b f y : BK} (h : St7 w W p b f y) : St7 w W.drew p b f y := ⟨h.below.drew, h.r, h.o, h.c0, h.c1, h.c3, h.lt⟩
theorem St7.set0 {w W : World} {p : Addr} {b f y : BK} (h : St7 w W p b f y) (v : Int) : St7 w (W.setCell ⟨w.heap.size + 1, 0, none⟩ (.int .i64 v)) p b f { y with c := v } :=
  ⟨(h.below.setCell (p := ⟨w.heap.size + 1, 0, none⟩) (by show w.heap.size ≤ w.heap.size + 1; omega) _), blk_far (p := ⟨w.heap.size + 1, 0, none⟩) h.r (by show w.heap.size ≠ w.heap.size + 1; omega) (.int .i64 v), blk_set h.o 0 (.int .i64 v), St7.other (q := p) (i := 0) (u := .int .i64 v) h.lt h.c0, St7.other (q := ⟨p.block, p.off + 1, none⟩) (i := 0) (u := .int .i64 v) h.lt h.c1, St7.other (q := ⟨p.block, p.off + 3, none⟩) (i := 0) (u := .int .i64 v) h.lt h.c3, h.lt⟩
theorem St7.set1 {w W : World} {p : Addr} {b f y : BK} (h : St7 w W p b f y) (v : Int) : St7 w (W.setCell ⟨w.heap.size + 1, 1, none⟩ (.int .i64 v)) p b f { y with n := v } :=
  ⟨(h.below.setCell (p := ⟨w.heap.size + 1, 1, none⟩) (by show w.heap.size ≤ w.heap.size + 1; omega) _), blk_far (p := ⟨w.heap.size + 1, 1, none⟩) h.r (by show w.heap.size ≠ w.heap.size + 1; omega) (.int .i64 v), blk_set h.o 1 (.int .i64 v), St7.other (q := p) (i := 1) (u := .int .i64 v) h.lt h.c0, St7.other (q := ⟨p.block, p.off + 1, none⟩) (i := 1) (u := .int .i64 v) h.lt h.c1, St7.other (q := ⟨p.block, p.off + 3, none⟩) (i := 1) (u := .int .i64 v) h.lt h.c3, h.lt⟩
theorem St7.set3 {w W : World} {p : Addr} {b f y : BK} (h : St7 w W p b f y) (v : Int) : St7 w (W.setCell ⟨w.heap.size + 1, 3, none⟩ (.int .i64 v)) p b f { y with l := v } :=
  ⟨(h.below.setCell (p := ⟨w.heap.size + 1, 3, none⟩) (by show w.heap.size ≤ w.heap.size + 1; omega) _), blk_far (p := ⟨w.heap.size + 1, 3, none⟩) h.r (by show w.heap.size ≠ w.heap.size + 1; omega) (.int .i64 v), blk_set h.o 3 (.int .i64 v), St7.other (q := p) (i := 3) (u := .int .i64 v) h.lt h.c0, St7.other (q := ⟨p.block, p.off + 1, none⟩) (i := 3) (u := .int .i64 v) h.lt h.c1, St7.other (q := ⟨p.block, p.off + 3, none⟩) (i := 3) (u := .int .i64 v) h.lt h.c3, h.lt⟩
set_option maxHeartbeats 2000000 in
set_option maxRecDepth 100000 in
theorem merge27_any (A : Option Addr) (cp : Nat) (l : List BK) (w : World) (ha : RdB w A l) (x : BK) (e : Int) (hres : mergeS l = (x, e)) :
    Calls Try.prog 27 #[.slice A l.length cp] w fun r w' => r = .returned (.agg #[.int .i64 x.c, .int .i64 x.n, .int .i64 x.d, .int .i64 x.l, .int .i64 x.a, .int .i64 e]) ∧ Below w.heap.size w w' := by
  have hlen := ha.1
  have HA : Hid (RdB w A l) := ha
  have HE : Hid (mergeS l = (x, e)) := hres
  clear ha hres
  by_cases hl : 1 ≤ l.length ∧ l.length ≤ 64
  · obtain ⟨hl1, hl2⟩ := hl
    obtain ⟨ad, hbd, _, _, z2, _, z4⟩ := HA.out.2 0 (by omega)
    subst hbd
    have hadd0 : ad.add (0 * 5) = ad := by simp [Addr.add]
    rw [hadd0] at z2 z4
    have had : ad.block < w.heap.size := World.block_lt_of_cell? w ⟨ad.block, ad.off + 2, none⟩ z2
    have had1 : ¬ ad.block = w.heap.size := by omega
    have hl0 : 0 < l.length := by omega
    generalize hbf : bAt l 0 = f at z2 z4
    have HBF : Hid (bAt l 0 = f) := hbf
    clear hbf hadd0
    go_enter Try.func27, Try.ntmps27
    have hn1 : decide ((l.length : Int) < 1) = false := decide_eq_false (by omega)
    have hn2 : decide ((64 : Int) < (l.length : Int)) = false := decide_eq_false (by omega)
    go_wp2
    go_region_held3 (fun w' => w'.cell? ⟨ad.block, ad.off + 2, none⟩ = some (.int .i64 f.d) ∧ w'.cell? ⟨ad.block, ad.off + 4, none⟩ = some (.int .i64 f.a)) (go_keep) (fail)
    go_wp2
    go_loopw [4] (fun i wr => ∃ (k : Nat) (y : BK), k ≤ l.length ∧ i = .int .i64 k ∧ Hid (InvM l k y) ∧ Hid (Below w.heap.size w wr) ∧ Hid (wr.heap[w.heap.size]? = some (.cells #[.int .i64 0, .int .i64 0, .int .i64 0, .int .i64 0, .int .i64 0, .int .i64 0] 33 (0, 0))) ∧ Hid (wr.heap[w.heap.size + 1]? = some (bo y.c y.n f.d y.l f.a))) (fun i _ => l.length - (intOf i).toNat)
    case atStart => exact ⟨0, zB, Nat.zero_le _, rfl, invM_start l, (((Below.refl _ _).alloc (Nat.le_refl _) _).alloc (by simp) _).drew, blk_alloc (heap_alloc_new _ _) _, heap2 _ _ _⟩
    case round =>
      obtain ⟨k, y, hk, rfl, HI, HB, HR, HO⟩ := hrel
      have hwlt : w.heap.size + 1 < wr.heap.size := (Array.getElem?_eq_some_iff.1 HO.out).1
      have hwlt0 : w.heap.size < wr.heap.size := by omega
      have go0 : wr.cell? ⟨w.heap.size + 1, 0, none⟩ = some (.int .i64 y.c) := (cell_of_row wr (w.heap.size + 1) 0 _ _ _ HO.out).trans rfl
      have go1 : wr.cell? ⟨w.heap.size + 1, 1, none⟩ = some (.int .i64 y.n) := (cell_of_row wr (w.heap.size + 1) 1 _ _ _ HO.out).trans rfl
      have go2 : wr.cell? ⟨w.heap.size + 1, 2, none⟩ = some (.int .i64 f.d) := (cell_of_row wr (w.heap.size + 1) 2 _ _ _ HO.out).trans rfl
      have go3 : wr.cell? ⟨w.heap.size + 1, 3, none⟩ = some (.int .i64 y.l) := (cell_of_row wr (w.heap.size + 1) 3 _ _ _ HO.out).trans rfl
      have go4 : wr.cell? ⟨w.heap.size + 1, 4, none⟩ = some (.int .i64 f.a) := (cell_of_row wr (w.heap.size + 1) 4 _ _ _ HO.out).trans rfl
      by_cases hlt : k < l.length
      · obtain ⟨ad1, e1, a0, a1, a2, a3, a4⟩ := (HA.out.to HB.out).2 k hlt
        injection e1 with e1
        subst e1
        have hak : (ad.add (k * 5)).block < wr.heap.size := World.block_lt_of_cell? wr _ a0
        have hak1 : ¬ (ad.add (k * 5)).block = w.heap.size + 1 := by rw [add_block]; omega
        have hak2 : ¬ (ad.add (k * 5)).block = w.heap.size := by rw [add_block]; omega
        generalize hbk : bAt l k = b at a0 a1 a2 a3 a4
        have HBK : Hid (bAt l k = b) := hbk
        have hk0 : (0 : Int) ≤ (k : Int) := by omega
        have hk1 : (k : Int) < (l.length : Int) := by omega
        clear hbk
        by_cases hv : V b.c b.n b.d b.l b.a
        · by_cases hd : b.d = f.d ∧ b.a = f.a
          · have HV : Hid (V b.c b.n b.d b.l b.a) := hv
            have HD : Hid (b.d = f.d ∧ b.a = f.a) := hd
            obtain ⟨hd1, hd2⟩ := hd
            have hb2 : wr.cell? ⟨(ad.add (k * 5)).block, (ad.add (k * 5)).off + 2, none⟩ = some (.int .i64 f.d) := by rw [← hd1]; exact a2
            have hb4 : wr.cell? ⟨(ad.add (k * 5)).block, (ad.add (k * 5)).off + 4, none⟩ = some (.int .i64 f.a) := by rw [← hd2]; exact a4
            clear a2 a4 hd1 hd2
            go_wp2
            go_region_held3 (fun w' => w'.cell? (ad.add (k * 5)) = some (.int .i64 b.c) ∧ w'.cell? ⟨(ad.add (k * 5)).block, (ad.add (k * 5)).off + 1, none⟩ = some (.int .i64 b.n) ∧ w'.cell? ⟨(ad.add (k * 5)).block, (ad.add (k * 5)).off + 2, none⟩ = some (.int .i64 f.d) ∧ w'.cell? ⟨(ad.add (k * 5)).block, (ad.add (k * 5)).off + 3, none⟩ = some (.int .i64 b.l) ∧ w'.cell? ⟨(ad.add (k * 5)).block, (ad.add (k * 5)).off + 4, none⟩ = some (.int .i64 f.a) ∧ w'.cell? ⟨w.heap.size + 1, 2, none⟩ = some (.int .i64 f.d) ∧ w'.cell? ⟨w.heap.size + 1, 4, none⟩ = some (.int .i64 f.a)) (go_keep) ((go_at_call 21; (refine (valid21_any _ _ _ _ _ _ true ?hv).mono ?_); (case hv => exact (decide_eq_true (show V b.c b.n f.d b.l f.a by rw [← HD.out.1, ← HD.out.2]; exact HV.out)).symm); rintro e1 w1 ⟨rfl, rfl⟩))
            generalize hWe : World.drew _ = W
            have HS : Hid (St7 w W (ad.add (k * 5)) b f y) := by
              rw [← hWe]
              exact ⟨(HB.out.alloc (by omega) _).drew, blk_alloc HR.out _, blk_alloc HO.out _, (World.cell?_alloc_lt wr _ (ad.add (k * 5)) hak).trans a0, (World.cell?_alloc_lt wr _ ⟨(ad.add (k * 5)).block, (ad.add (k * 5)).off + 1, none⟩ hak).trans a1, (World.cell?_alloc_lt wr _ ⟨(ad.add (k * 5)).block, (ad.add (k * 5)).off + 3, none⟩ hak).trans a3, by rw [add_block]; exact had⟩
            clear hWe
            rename_i hHd
            clear hHd go0 go1 go2 go3 go4 a0 a1 a3 hb2 hb4
            have HV2 := HV.out
            obtain ⟨v1, v2, v3, v4, v5, v6, v7, v8, v9, v10⟩ := HV2
            have hcd := (cd_bd v1 v2 (by omega : 0 ≤ b.d) v6).2
            have i1 := HI.out.c0
            have i2 := HI.out.c1
            have i3 := HI.out.n0
            have i4 := HI.out.n1
            have i5 := HI.out.l0
            have i6 := HI.out.l1
            have s1 : IntKind.i64.wrap (y.c + b.c) = y.c + b.c := IntWalk.i64_in _ (by omega)
            have s2 : IntKind.i64.wrap (y.n + b.n) = y.n + b.n := IntWalk.i64_in _ (by omega)
            have s3 : IntKind.i64.wrap (y.l + b.l) = y.l + b.l := IntWalk.i64_in _ (by omega)
            clear v1 v2 v3 v4 v5 v6 v7 v8 v9 v10 hcd i1 i2 i3 i4 i5 i6
            obtain ⟨go0, go1, go3, gof, hz2⟩ := HS.out.cells
            have gc0 := HS.out.c0
            have gc1 := HS.out.c1
            have gc3 := HS.out.c3
            go_wp2
            go_still_tail 9, (by kernel_rfl)
            change wpList _ _ _ _ _ (World.drew _)
            have HT0 := HS.out.drew
            clear go0 go1 go3 gof hz2 gc0 gc1 gc3
            generalize World.drew _ = W10 at HT0 ⊢
            have HU0 : Hid (St7 w W10 (ad.add (k * 5)) b f y) := HT0
            clear HT0
            obtain ⟨go0, go1, go3, gof, hz2⟩ := HU0.out.cells
            go_wp2
            clear go0 go1 go3 gof hz2
            obtain ⟨W20, hW0⟩ : ∃ X, W10.setCell ⟨w.heap.size + 1, 0, none⟩ (.int .i64 (y.c + b.c)) = X := ⟨_, rfl⟩
            rw [hW0]
            have HS0 : Hid (St7 w W20 (ad.add (k * 5)) b f { y with c := y.c + b.c }) := by rw [← hW0]; exact HU0.out.set0 _
            clear hW0
            obtain ⟨go0, go1, go3, gof, hz2⟩ := HS0.out.cells
            have gc0 := HS0.out.c0
            have gc1 := HS0.out.c1
            have gc3 := HS0.out.c3
            go_still_tail 9, (by kernel_rfl)
            change wpList _ _ _ _ _ (World.drew _)
            have HT1 := HS0.out.drew
            clear go0 go1 go3 gof hz2 gc0 gc1 gc3
            generalize World.drew _ = W11 at HT1 ⊢
            have HU1 : Hid (St7 w W11 (ad.add (k * 5)) b f { y with c := y.c + b.c }) := HT1
            clear HT1
            obtain ⟨go0, go1, go3, gof, hz2⟩ := HU1.out.cells
            go_wp2
            clear go0 go1 go3 gof hz2
            obtain ⟨W21, hW1⟩ : ∃ X, W11.setCell ⟨w.heap.size + 1, 1, none⟩ (.int .i64 (y.n + b.n)) = X := ⟨_, rfl⟩
            rw [hW1]
            have HS1 : Hid (St7 w W21 (ad.add (k * 5)) b f { y with c := y.c + b.c, n := y.n + b.n }) := by rw [← hW1]; exact HU1.out.set1 _
            clear hW1
            obtain ⟨go0, go1, go3, gof, hz2⟩ := HS1.out.cells
            have gc0 := HS1.out.c0
            have gc1 := HS1.out.c1
            have gc3 := HS1.out.c3
            go_still_tail 9, (by kernel_rfl)
            change wpList _ _ _ _ _ (World.drew _)
            have HT2 := HS1.out.drew
            clear go0 go1 go3 gof hz2 gc0 gc1 gc3
            generalize World.drew _ = W12 at HT2 ⊢
            have HU2 : Hid (St7 w W12 (ad.add (k * 5)) b f { y with c := y.c + b.c, n := y.n + b.n }) := HT2
            clear HT2
            obtain ⟨go0, go1, go3, gof, hz2⟩ := HU2.out.cells
            go_wp2
            clear go0 go1 go3 gof hz2
            obtain ⟨W22, hW2⟩ : ∃ X, W12.setCell ⟨w.heap.size + 1, 3, none⟩ (.int .i64 (y.l + b.l)) = X := ⟨_, rfl⟩
            rw [hW2]
            have HS2 : Hid (St7 w W22 (ad.add (k * 5)) b f { y with c := y.c + b.c, n := y.n + b.n, l := y.l + b.l }) := by rw [← hW2]; exact HU2.out.set3 _
            clear hW2
            go_roundw
            case rel =>
              have h0 := invM_step HI.out hlt (by rw [HBK.out, HBF.out]; exact ⟨HV.out, HD.out⟩)
              rw [HBK.out] at h0
              exact ⟨k + 1, addB y b, by omega, by go_num, h0, HS2.out.below, HS2.out.r, HS2.out.o⟩
            case measure => simp [intOf]; omega
          · have HV : Hid (V b.c b.n b.d b.l b.a) := hv
            have HD : Hid (¬ (b.d = f.d ∧ b.a = f.a)) := hd
            have HEN : Hid (mergeS l = (zB, 1)) := merge_bad hlt (by rw [HBK.out, HBF.out]; exact fun h => HD.out h.2)
            clear hv
            by_cases hdd : b.d = f.d
            · have hne : ¬ b.a = f.a := fun h => HD.out ⟨hdd, h⟩
              have hne' : ¬ f.a = b.a := fun h => hne h.symm
              have hb2 : wr.cell? ⟨(ad.add (k * 5)).block, (ad.add (k * 5)).off + 2, none⟩ = some (.int .i64 f.d) := by rw [← hdd]; exact a2
              have HDD : Hid (b.d = f.d) := hdd
              clear a2 hd hdd
              go_wp2
              go_region_held3 (fun w' => w'.cell? (ad.add (k * 5)) = some (.int .i64 b.c) ∧ w'.cell? ⟨(ad.add (k * 5)).block, (ad.add (k * 5)).off + 1, none⟩ = some (.int .i64 b.n) ∧ w'.cell? ⟨(ad.add (k * 5)).block, (ad.add (k * 5)).off + 2, none⟩ = some (.int .i64 f.d) ∧ w'.cell? ⟨(ad.add (k * 5)).block, (ad.add (k * 5)).off + 3, none⟩ = some (.int .i64 b.l) ∧ w'.cell? ⟨(ad.add (k * 5)).block, (ad.add (k * 5)).off + 4, none⟩ = some (.int .i64 b.a) ∧ w'.cell? ⟨w.heap.size + 1, 2, none⟩ = some (.int .i64 f.d) ∧ w'.cell? ⟨w.heap.size + 1, 4, none⟩ = some (.int .i64 f.a)) (go_keep) ((go_at_call 21; (refine (valid21_any _ _ _ _ _ _ true ?hv).mono ?_); (case hv => exact (decide_eq_true (show V b.c b.n f.d b.l b.a by rw [← HDD.out]; exact HV.out)).symm); rintro e1 w1 ⟨rfl, rfl⟩))
              generalize hWe : World.drew _ = W
              have hHW : W.heap = (wr.alloc (bo b.c b.n f.d b.l b.a)).heap := by rw [← hWe]; rfl
              have HBW : Hid (Below w.heap.size w W) := by rw [← hWe]; exact (HB.out.alloc (by omega) _).drew
              have HRW : Hid (W.heap[w.heap.size]? = some (.cells #[.int .i64 0, .int .i64 0, .int .i64 0, .int .i64 0, .int .i64 0, .int .i64 0] 33 (0, 0))) := by rw [hHW]; exact blk_alloc HR.out _
              have hz4 : w.heap.size < W.heap.size := (Array.getElem?_eq_some_iff.1 HRW.out).1
              have gr0 : W.cell? ⟨w.heap.size, 0, none⟩ = some (.int .i64 0) := (cell_of_row W w.heap.size 0 _ _ _ HRW.out).trans rfl
              have gr1 : W.cell? ⟨w.heap.size, 1, none⟩ = some (.int .i64 0) := (cell_of_row W w.heap.size 1 _ _ _ HRW.out).trans rfl
              have gr2 : W.cell? ⟨w.heap.size, 2, none⟩ = some (.int .i64 0) := (cell_of_row W w.heap.size 2 _ _ _ HRW.out).trans rfl
              have gr3 : W.cell? ⟨w.heap.size, 3, none⟩ = some (.int .i64 0) := (cell_of_row W w.heap.size 3 _ _ _ HRW.out).trans rfl
              have gr4 : W.cell? ⟨w.heap.size, 4, none⟩ = some (.int .i64 0) := (cell_of_row W w.heap.size 4 _ _ _ HRW.out).trans rfl
              have gr5 : W.cell? ⟨w.heap.size, 5, none⟩ = some (.int .i64 0) := (cell_of_row W w.heap.size 5 _ _ _ HRW.out).trans rfl
              have grf : ∀ i, W.frozen? ⟨w.heap.size, i, none⟩ = false := fun i => blk_frozen HRW.out i
              clear hWe hHW
              go_wp2
              refine bodyPost_ret (v := .agg #[.int .i64 0, .int .i64 0, .int .i64 0, .int .i64 0, .int .i64 0, .int .i64 1]) (by simp [results, Try.results27, go_sem, gr0, gr1, gr2, gr3, gr4, gr5, hz4]) rfl ?_
              refine ⟨?_, ?_⟩
              · have h0 := HEN.out.symm.trans HE.out
                injection h0 with h1 h2
                subst h1 h2
                rfl
              · have h9 : ∀ i, w.heap.size ≤ (⟨w.heap.size, i, none⟩ : Addr).block := fun i => Nat.le_refl _
                repeat (first | (with_reducible exact HBW.out) | (with_reducible refine Below.setCell ?_ (h9 _) _))
            · have hdd' : ¬ f.d = b.d := fun h => hdd h.symm
              clear hd
              have hq1 : decide (b.d = f.d) = false := decide_eq_false hdd
              have hq2 : (b.d == f.d) = false := beq_eq_false_iff_ne.2 hdd
              have hq3 : (b.d != f.d) = true := bne_iff_ne.2 hdd
              go_wp2
              refine wp_region_noPanic ?_
              refine wp_region_held_drew (S := (fun w' => w'.cell? (ad.add (k * 5)) = some (.int .i64 b.c) ∧ w'.cell? ⟨(ad.add (k * 5)).block, (ad.add (k * 5)).off + 1, none⟩ = some (.int .i64 b.n) ∧ w'.cell? ⟨(ad.add (k * 5)).block, (ad.add (k * 5)).off + 2, none⟩ = some (.int .i64 b.d) ∧ w'.cell? ⟨(ad.add (k * 5)).block, (ad.add (k * 5)).off + 3, none⟩ = some (.int .i64 b.l) ∧ w'.cell? ⟨(ad.add (k * 5)).block, (ad.add (k * 5)).off + 4, none⟩ = some (.int .i64 b.a) ∧ w'.cell? ⟨w.heap.size + 1, 2, none⟩ = some (.int .i64 f.d) ∧ w'.cell? ⟨w.heap.size + 1, 4, none⟩ = some (.int .i64 f.a))) (by kernel_rfl) (by (try dsimp only); go_keep) (fun hHeld => ?_)
              refine wpAnyH_take (i := 0) (v := ?v0_10) rfl (by kernel_rfl) (by kernel_rfl) (by kernel_rfl) (fun _ _ _ h => h) (Or.inl ⟨by rfl, ?hy0_10⟩) hHeld ?rest0_10
              case hy0_10 => (intro w9 hSw; (try dsimp only at hSw); go_simp; (try with_reducible rfl))
              try simp only [List.getElem_toArray, List.getElem_cons_succ, List.getElem_cons_zero, Act.put, List.setIfInBounds_toArray, List.set_cons_zero, List.set_cons_succ]
              refine wpAnyH_take (i := 1) (v := ?v1_11) rfl (by kernel_rfl) (by kernel_rfl) (by kernel_rfl) (fun _ _ _ h => h) (Or.inl ⟨by rfl, ?hy1_11⟩) hHeld ?rest1_11
              case hy1_11 => (intro w9 hSw; (try dsimp only at hSw); go_simp; (try with_reducible rfl))
              try simp only [List.getElem_toArray, List.getElem_cons_succ, List.getElem_cons_zero, Act.put, List.setIfInBounds_toArray, List.set_cons_zero, List.set_cons_succ]
              refine wpAnyH_take (i := 2) (v := ?v2_12) rfl (by kernel_rfl) (by kernel_rfl) (by kernel_rfl) (fun _ _ _ h => h) (Or.inl ⟨by rfl, ?hy2_12⟩) hHeld ?rest2_12
              case hy2_12 => (intro w9 hSw; (try dsimp only at hSw); go_simp; (try with_reducible rfl))
              try simp only [List.getElem_toArray, List.getElem_cons_succ, List.getElem_cons_zero, Act.put, List.setIfInBounds_toArray, List.set_cons_zero, List.set_cons_succ]
              refine wpAnyH_take (i := 3) (v := ?v3_13) rfl (by kernel_rfl) (by kernel_rfl) (by kernel_rfl) (fun _ _ _ h => h) (Or.inl ⟨by rfl, ?hy3_13⟩) hHeld ?rest3_13
              case hy3_13 => (intro w9 hSw; (try dsimp only at hSw); go_simp; (try with_reducible rfl))
              try simp only [List.getElem_toArray, List.getElem_cons_succ, List.getElem_cons_zero, Act.put, List.setIfInBounds_toArray, List.set_cons_zero, List.set_cons_succ]
              refine wpAnyH_ready (rs := [4]) (by kernel_rfl) (by simp) ?_
              refine AllReadyH.cons rfl (fun K hK => ?_) AllReadyH.nil
              go_simp
              (go_at_call 21; refine (valid21_any _ _ _ _ _ _ true (decide_eq_true HV.out).symm).mono ?_; rintro e1 w1 ⟨rfl, rfl⟩)
              (try go_simp)
              refine hK.out _ _ (by (try dsimp only); go_keep) (fun hHeld => ?_)
              clear hK K
              try simp only [List.getElem_toArray, List.getElem_cons_succ, List.getElem_cons_zero, Act.put, List.setIfInBounds_toArray, List.set_cons_zero, List.set_cons_succ]
              refine wpAnyH_take (i := 5) (v := ?v5_14) rfl (by kernel_rfl) (by kernel_rfl) (by kernel_rfl) (fun _ _ _ h => h) (Or.inl ⟨by rfl, ?hy5_14⟩) hHeld ?rest5_14
              case hy5_14 => (intro w9 hSw; (try dsimp only at hSw); go_simp; (try with_reducible rfl))
              try simp only [List.getElem_toArray, List.getElem_cons_succ, List.getElem_cons_zero, Act.put, List.setIfInBounds_toArray, List.set_cons_zero, List.set_cons_succ]
              refine wpAnyH_take (i := 6) (v := ?v6_15) rfl (by kernel_rfl) (by kernel_rfl) (by kernel_rfl) (fun _ _ _ h => h) (Or.inl ⟨by rfl, ?hy6_15⟩) hHeld ?rest6_15
              case hy6_15 => (intro w9 hSw; (try dsimp only at hSw); go_simp; (try with_reducible rfl))
              try simp only [List.getElem_toArray, List.getElem_cons_succ, List.getElem_cons_zero, Act.put, List.setIfInBounds_toArray, List.set_cons_zero, List.set_cons_succ]
              refine wpAnyH_take (i := 7) (v := ?v7_16) rfl (by kernel_rfl) (by kernel_rfl) (by kernel_rfl) (fun _ _ _ h => h) (Or.inl ⟨by rfl, ?hy7_16⟩) hHeld ?rest7_16
              case hy7_16 => (intro w9 hSw; (try dsimp only at hSw); go_simp; (try with_reducible rfl))
              try simp only [List.getElem_toArray, List.getElem_cons_succ, List.getElem_cons_zero, Act.put, List.setIfInBounds_toArray, List.set_cons_zero, List.set_cons_succ]
              refine wpAnyH_take (i := 8) (v := ?v8_17) rfl (by kernel_rfl) (by kernel_rfl) (by kernel_rfl) (fun _ _ _ h => h) (Or.inl ⟨by rfl, ?hy8_17⟩) hHeld ?rest8_17
              case hy8_17 => (intro w9 hSw; (try dsimp only at hSw); go_simp; (try with_reducible rfl))
              try simp only [List.getElem_toArray, List.getElem_cons_succ, List.getElem_cons_zero, Act.put, List.setIfInBounds_toArray, List.set_cons_zero, List.set_cons_succ]
              refine wpAnyH_take (i := 9) (v := ?v9_18) rfl (by kernel_rfl) (by kernel_rfl) (by kernel_rfl) (fun _ _ _ h => h) (Or.inl ⟨by rfl, ?hy9_18⟩) hHeld ?rest9_18
              case hy9_18 => (intro w9 hSw; (try dsimp only at hSw); go_simp; (try with_reducible rfl))
              try simp only [List.getElem_toArray, List.getElem_cons_succ, List.getElem_cons_zero, Act.put, List.setIfInBounds_toArray, List.set_cons_zero, List.set_cons_succ]
              refine wpAnyH_take (i := 10) (v := ?v10_19) rfl (by kernel_rfl) (by kernel_rfl) (by kernel_rfl) (fun _ _ _ h => h) (Or.inl ⟨by rfl, ?hy10_19⟩) hHeld ?rest10_19
              case hy10_19 => (intro w9 hSw; (try dsimp only at hSw); go_simp; (try with_reducible rfl))
              try simp only [List.getElem_toArray, List.getElem_cons_succ, List.getElem_cons_zero, Act.put, List.setIfInBounds_toArray, List.set_cons_zero, List.set_cons_succ]
              refine wpAnyH_take (i := 11) (v := ?v11_20) rfl (by kernel_rfl) (by kernel_rfl) (by kernel_rfl) (fun _ _ _ h => h) (Or.inl ⟨by rfl, ?hy11_20⟩) hHeld ?rest11_20
              case hy11_20 => (intro w9 hSw; (try dsimp only at hSw); go_simp; (try with_reducible rfl))
              try simp only [List.getElem_toArray, List.getElem_cons_succ, List.getElem_cons_zero, Act.put, List.setIfInBounds_toArray, List.set_cons_zero, List.set_cons_succ]
              refine wpAnyH_take (i := 12) (v := ?v12_21) rfl (by kernel_rfl) (by kernel_rfl) (by kernel_rfl) (fun _ _ _ h => h) (Or.inl ⟨by rfl, ?hy12_21⟩) hHeld ?rest12_21
              case hy12_21 => (intro w9 hSw; (try dsimp only at hSw); go_simp; (try with_reducible rfl))
              try simp only [List.getElem_toArray, List.getElem_cons_succ, List.getElem_cons_zero, Act.put, List.setIfInBounds_toArray, List.set_cons_zero, List.set_cons_succ]
              refine wpAnyH_take (i := 13) (v := ?v13_22) rfl (by kernel_rfl) (by kernel_rfl) (by kernel_rfl) (fun _ _ _ h => h) (Or.inl ⟨by rfl, ?hy13_22⟩) hHeld ?rest13_22
              case hy13_22 => (intro w9 hSw; (try dsimp only at hSw); go_simp; (try with_reducible rfl))
              try simp only [List.getElem_toArray, List.getElem_cons_succ, List.getElem_cons_zero, Act.put, List.setIfInBounds_toArray, List.set_cons_zero, List.set_cons_succ]
              refine wpAnyH_take (i := 14) (v := ?v14_23) rfl (by kernel_rfl) (by kernel_rfl) (by kernel_rfl) (fun _ _ _ h => h) (Or.inl ⟨by rfl, ?hy14_23⟩) hHeld ?rest14_23
              case hy14_23 => (intro w9 hSw; (try dsimp only at hSw); go_simp; (try with_reducible rfl))
              try simp only [List.getElem_toArray, List.getElem_cons_succ, List.getElem_cons_zero, Act.put, List.setIfInBounds_toArray, List.set_cons_zero, List.set_cons_succ]
              refine wpAnyH_take (i := 15) (v := ?v15_24) rfl (by kernel_rfl) (by kernel_rfl) (by kernel_rfl) (fun _ _ _ h => h) (Or.inl ⟨by rfl, ?hy15_24⟩) hHeld ?rest15_24
              case hy15_24 => (intro w9 hSw; (try dsimp only at hSw); go_simp; (try with_reducible rfl))
              try simp only [List.getElem_toArray, List.getElem_cons_succ, List.getElem_cons_zero, Act.put, List.setIfInBounds_toArray, List.set_cons_zero, List.set_cons_succ]
              refine wpAnyH_take (i := 16) (v := ?v16_25) rfl (by kernel_rfl) (by kernel_rfl) (by kernel_rfl) (fun _ _ _ h => h) (Or.inl ⟨by rfl, ?hy16_25⟩) hHeld ?rest16_25
              case hy16_25 => (intro w9 hSw; (try dsimp only at hSw); go_simp; (try with_reducible rfl))
              try simp only [List.getElem_toArray, List.getElem_cons_succ, List.getElem_cons_zero, Act.put, List.setIfInBounds_toArray, List.set_cons_zero, List.set_cons_succ]
              refine wpAnyH_take (i := 17) (v := undef) rfl (by kernel_rfl) (by kernel_rfl) (by kernel_rfl) (fun _ _ _ h => h) (Or.inr ⟨by kernel_rfl, rfl⟩) hHeld ?_
              try simp only [List.getElem_toArray, List.getElem_cons_succ, List.getElem_cons_zero, Act.put, List.setIfInBounds_toArray, List.set_cons_zero, List.set_cons_succ]
              refine wpAnyH_take (i := 18) (v := undef) rfl (by kernel_rfl) (by kernel_rfl) (by kernel_rfl) (fun _ _ _ h => h) (Or.inr ⟨by kernel_rfl, rfl⟩) hHeld ?_
              try simp only [List.getElem_toArray, List.getElem_cons_succ, List.getElem_cons_zero, Act.put, List.setIfInBounds_toArray, List.set_cons_zero, List.set_cons_succ]
              refine wpAnyH_take (i := 19) (v := undef) rfl (by kernel_rfl) (by kernel_rfl) (by kernel_rfl) (fun _ _ _ h => h) (Or.inr ⟨by kernel_rfl, rfl⟩) hHeld ?_
              try simp only [List.getElem_toArray, List.getElem_cons_succ, List.getElem_cons_zero, Act.put, List.setIfInBounds_toArray, List.set_cons_zero, List.set_cons_succ]
              refine wpAnyH_take (i := 20) (v := undef) rfl (by kernel_rfl) (by kernel_rfl) (by kernel_rfl) (fun _ _ _ h => h) (Or.inr ⟨by kernel_rfl, rfl⟩) hHeld ?_
              try simp only [List.getElem_toArray, List.getElem_cons_succ, List.getElem_cons_zero, Act.put, List.setIfInBounds_toArray, List.set_cons_zero, List.set_cons_succ]
              refine wpAnyH_take (i := 21) (v := undef) rfl (by kernel_rfl) (by kernel_rfl) (by kernel_rfl) (fun _ _ _ h => h) (Or.inr ⟨by kernel_rfl, rfl⟩) hHeld ?_
              try simp only [List.getElem_toArray, List.getElem_cons_succ, List.getElem_cons_zero, Act.put, List.setIfInBounds_toArray, List.set_cons_zero, List.set_cons_succ]
              refine wpAnyH_take (i := 22) (v := undef) rfl (by kernel_rfl) (by kernel_rfl) (by kernel_rfl) (fun _ _ _ h => h) (Or.inr ⟨by kernel_rfl, rfl⟩) hHeld ?_
              try simp only [List.getElem_toArray, List.getElem_cons_succ, List.getElem_cons_zero, Act.put, List.setIfInBounds_toArray, List.set_cons_zero, List.set_cons_succ]
              refine wpAnyH_take (i := 23) (v := undef) rfl (by kernel_rfl) (by kernel_rfl) (by kernel_rfl) (fun _ _ _ h => h) (Or.inr ⟨by kernel_rfl, rfl⟩) hHeld ?_
              try simp only [List.getElem_toArray, List.getElem_cons_succ, List.getElem_cons_zero, Act.put, List.setIfInBounds_toArray, List.set_cons_zero, List.set_cons_succ]
              refine wpAnyH_take (i := 24) (v := undef) rfl (by kernel_rfl) (by kernel_rfl) (by kernel_rfl) (fun _ _ _ h => h) (Or.inr ⟨by kernel_rfl, rfl⟩) hHeld ?_
              try simp only [List.getElem_toArray, List.getElem_cons_succ, List.getElem_cons_zero, Act.put, List.setIfInBounds_toArray, List.set_cons_zero, List.set_cons_succ]
              refine wpAnyH_take (i := 25) (v := ?v25_26) rfl (by kernel_rfl) (by kernel_rfl) (by kernel_rfl) (fun _ _ _ h => h) (Or.inl ⟨by rfl, ?hy25_26⟩) hHeld ?rest25_26
              case hy25_26 => (intro w9 hSw; (try dsimp only at hSw); go_simp; (try with_reducible rfl))
              try simp only [List.getElem_toArray, List.getElem_cons_succ, List.getElem_cons_zero, Act.put, List.setIfInBounds_toArray, List.set_cons_zero, List.set_cons_succ]
              refine wpAnyH_done (by kernel_rfl) ?_ _
              refine NoPanic.normal ?_
              generalize hWe : World.drew _ = W
              have hHW : W.heap = (wr.alloc (bo b.c b.n b.d b.l b.a)).heap := by rw [← hWe]; rfl
              have HBW : Hid (Below w.heap.size w W) := by rw [← hWe]; exact (HB.out.alloc (by omega) _).drew
              have HRW : Hid (W.heap[w.heap.size]? = some (.cells #[.int .i64 0, .int .i64 0, .int .i64 0, .int .i64 0, .int .i64 0, .int .i64 0] 33 (0, 0))) := by rw [hHW]; exact blk_alloc HR.out _
              have hz4 : w.heap.size < W.heap.size := (Array.getElem?_eq_some_iff.1 HRW.out).1
              have gr0 : W.cell? ⟨w.heap.size, 0, none⟩ = some (.int .i64 0) := (cell_of_row W w.heap.size 0 _ _ _ HRW.out).trans rfl
              have gr1 : W.cell? ⟨w.heap.size, 1, none⟩ = some (.int .i64 0) := (cell_of_row W w.heap.size 1 _ _ _ HRW.out).trans rfl
              have gr2 : W.cell? ⟨w.heap.size, 2, none⟩ = some (.int .i64 0) := (cell_of_row W w.heap.size 2 _ _ _ HRW.out).trans rfl
              have gr3 : W.cell? ⟨w.heap.size, 3, none⟩ = some (.int .i64 0) := (cell_of_row W w.heap.size 3 _ _ _ HRW.out).trans rfl
              have gr4 : W.cell? ⟨w.heap.size, 4, none⟩ = some (.int .i64 0) := (cell_of_row W w.heap.size 4 _ _ _ HRW.out).trans rfl
              have gr5 : W.cell? ⟨w.heap.size, 5, none⟩ = some (.int .i64 0) := (cell_of_row W w.heap.size 5 _ _ _ HRW.out).trans rfl
              have grf : ∀ i, W.frozen? ⟨w.heap.size, i, none⟩ = false := fun i => blk_frozen HRW.out i
              clear hWe hHW
              go_wp2
              refine bodyPost_ret (v := .agg #[.int .i64 0, .int .i64 0, .int .i64 0, .int .i64 0, .int .i64 0, .int .i64 1]) (by simp [results, Try.results27, go_sem, gr0, gr1, gr2, gr3, gr4, gr5, hz4]) rfl ?_
              refine ⟨?_, ?_⟩
              · have h0 := HEN.out.symm.trans HE.out
                injection h0 with h1 h2
                subst h1 h2
                rfl
              · have h9 : ∀ i, w.heap.size ≤ (⟨w.heap.size, i, none⟩ : Addr).block := fun i => Nat.le_refl _
                repeat (first | (with_reducible exact HBW.out) | (with_reducible refine Below.setCell ?_ (h9 _) _))
        · have HV : Hid (¬ V b.c b.n b.d b.l b.a) := hv
          have HEN : Hid (mergeS l = (zB, 1)) := merge_bad hlt (by rw [HBK.out, HBF.out]; exact fun h => HV.out h.1)
          clear hv
          go_wp2
          refine wp_region_noPanic ?_
          refine wp_region_held_drew (S := (fun w' => w'.cell? (ad.add (k * 5)) = some (.int .i64 b.c) ∧ w'.cell? ⟨(ad.add (k * 5)).block, (ad.add (k * 5)).off + 1, none⟩ = some (.int .i64 b.n) ∧ w'.cell? ⟨(ad.add (k * 5)).block, (ad.add (k * 5)).off + 2, none⟩ = some (.int .i64 b.d) ∧ w'.cell? ⟨(ad.add (k * 5)).block, (ad.add (k * 5)).off + 3, none⟩ = some (.int .i64 b.l) ∧ w'.cell? ⟨(ad.add (k * 5)).block, (ad.add (k * 5)).off + 4, none⟩ = some (.int .i64 b.a) ∧ w'.cell? ⟨w.heap.size + 1, 2, none⟩ = some (.int .i64 f.d) ∧ w'.cell? ⟨w.heap.size + 1, 4, none⟩ = some (.int .i64 f.a))) (by kernel_rfl) (by (try dsimp only); go_keep) (fun hHeld => ?_)
          refine wpAnyH_take (i := 0) (v := ?v0_27) rfl (by kernel_rfl) (by kernel_rfl) (by kernel_rfl) (fun _ _ _ h => h) (Or.inl ⟨by rfl, ?hy0_27⟩) hHeld ?rest0_27
          case hy0_27 => (intro w9 hSw; (try dsimp only at hSw); go_simp; (try with_reducible rfl))
          try simp only [List.getElem_toArray, List.getElem_cons_succ, List.getElem_cons_zero, Act.put, List.setIfInBounds_toArray, List.set_cons_zero, List.set_cons_succ]
          refine wpAnyH_take (i := 1) (v := ?v1_28) rfl (by kernel_rfl) (by kernel_rfl) (by kernel_rfl) (fun _ _ _ h => h) (Or.inl ⟨by rfl, ?hy1_28⟩) hHeld ?rest1_28
          case hy1_28 => (intro w9 hSw; (try dsimp only at hSw); go_simp; (try with_reducible rfl))
          try simp only [List.getElem_toArray, List.getElem_cons_succ, List.getElem_cons_zero, Act.put, List.setIfInBounds_toArray, List.set_cons_zero, List.set_cons_succ]
          refine wpAnyH_take (i := 2) (v := ?v2_29) rfl (by kernel_rfl) (by kernel_rfl) (by kernel_rfl) (fun _ _ _ h => h) (Or.inl ⟨by rfl, ?hy2_29⟩) hHeld ?rest2_29
          case hy2_29 => (intro w9 hSw; (try dsimp only at hSw); go_simp; (try with_reducible rfl))
          try simp only [List.getElem_toArray, List.getElem_cons_succ, List.getElem_cons_zero, Act.put, List.setIfInBounds_toArray, List.set_cons_zero, List.set_cons_succ]
          refine wpAnyH_take (i := 3) (v := ?v3_30) rfl (by kernel_rfl) (by kernel_rfl) (by kernel_rfl) (fun _ _ _ h => h) (Or.inl ⟨by rfl, ?hy3_30⟩) hHeld ?rest3_30
          case hy3_30 => (intro w9 hSw; (try dsimp only at hSw); go_simp; (try with_reducible rfl))
          try simp only [List.getElem_toArray, List.getElem_cons_succ, List.getElem_cons_zero, Act.put, List.setIfInBounds_toArray, List.set_cons_zero, List.set_cons_succ]
          refine wpAnyH_ready (rs := [4]) (by kernel_rfl) (by simp) ?_
          refine AllReadyH.cons rfl (fun K hK => ?_) AllReadyH.nil
          go_simp
          (go_at_call 21; refine (valid21_any _ _ _ _ _ _ false (decide_eq_false HV.out).symm).mono ?_; rintro e1 w1 ⟨rfl, rfl⟩)
          (try go_simp)
          refine hK.out _ _ (by (try dsimp only); go_keep) (fun hHeld => ?_)
          clear hK K
          try simp only [List.getElem_toArray, List.getElem_cons_succ, List.getElem_cons_zero, Act.put, List.setIfInBounds_toArray, List.set_cons_zero, List.set_cons_succ]
          refine wpAnyH_take (i := 5) (v := ?v5_31) rfl (by kernel_rfl) (by kernel_rfl) (by kernel_rfl) (fun _ _ _ h => h) (Or.inl ⟨by rfl, ?hy5_31⟩) hHeld ?rest5_31
          case hy5_31 => (intro w9 hSw; (try dsimp only at hSw); go_simp; (try with_reducible rfl))
          try simp only [List.getElem_toArray, List.getElem_cons_succ, List.getElem_cons_zero, Act.put, List.setIfInBounds_toArray, List.set_cons_zero, List.set_cons_succ]
          refine wpAnyH_take (i := 6) (v := ?v6_32) rfl (by kernel_rfl) (by kernel_rfl) (by kernel_rfl) (fun _ _ _ h => h) (Or.inl ⟨by rfl, ?hy6_32⟩) hHeld ?rest6_32
          case hy6_32 => (intro w9 hSw; (try dsimp only at hSw); go_simp; (try with_reducible rfl))
          try simp only [List.getElem_toArray, List.getElem_cons_succ, List.getElem_cons_zero, Act.put, List.setIfInBounds_toArray, List.set_cons_zero, List.set_cons_succ]
          refine wpAnyH_take (i := 7) (v := undef) rfl (by kernel_rfl) (by kernel_rfl) (by kernel_rfl) (fun _ _ _ h => h) (Or.inr ⟨by kernel_rfl, rfl⟩) hHeld ?_
          try simp only [List.getElem_toArray, List.getElem_cons_succ, List.getElem_cons_zero, Act.put, List.setIfInBounds_toArray, List.set_cons_zero, List.set_cons_succ]
          refine wpAnyH_take (i := 8) (v := undef) rfl (by kernel_rfl) (by kernel_rfl) (by kernel_rfl) (fun _ _ _ h => h) (Or.inr ⟨by kernel_rfl, rfl⟩) hHeld ?_
          try simp only [List.getElem_toArray, List.getElem_cons_succ, List.getElem_cons_zero, Act.put, List.setIfInBounds_toArray, List.set_cons_zero, List.set_cons_succ]
          refine wpAnyH_take (i := 9) (v := undef) rfl (by kernel_rfl) (by kernel_rfl) (by kernel_rfl) (fun _ _ _ h => h) (Or.inr ⟨by kernel_rfl, rfl⟩) hHeld ?_
          try simp only [List.getElem_toArray, List.getElem_cons_succ, List.getElem_cons_zero, Act.put, List.setIfInBounds_toArray, List.set_cons_zero, List.set_cons_succ]
          refine wpAnyH_take (i := 10) (v := undef) rfl (by kernel_rfl) (by kernel_rfl) (by kernel_rfl) (fun _ _ _ h => h) (Or.inr ⟨by kernel_rfl, rfl⟩) hHeld ?_
          try simp only [List.getElem_toArray, List.getElem_cons_succ, List.getElem_cons_zero, Act.put, List.setIfInBounds_toArray, List.set_cons_zero, List.set_cons_succ]
          refine wpAnyH_take (i := 11) (v := undef) rfl (by kernel_rfl) (by kernel_rfl) (by kernel_rfl) (fun _ _ _ h => h) (Or.inr ⟨by kernel_rfl, rfl⟩) hHeld ?_
          try simp only [List.getElem_toArray, List.getElem_cons_succ, List.getElem_cons_zero, Act.put, List.setIfInBounds_toArray, List.set_cons_zero, List.set_cons_succ]
          refine wpAnyH_take (i := 12) (v := undef) rfl (by kernel_rfl) (by kernel_rfl) (by kernel_rfl) (fun _ _ _ h => h) (Or.inr ⟨by kernel_rfl, rfl⟩) hHeld ?_
          try simp only [List.getElem_toArray, List.getElem_cons_succ, List.getElem_cons_zero, Act.put, List.setIfInBounds_toArray, List.set_cons_zero, List.set_cons_succ]
          refine wpAnyH_take (i := 13) (v := undef) rfl (by kernel_rfl) (by kernel_rfl) (by kernel_rfl) (fun _ _ _ h => h) (Or.inr ⟨by kernel_rfl, rfl⟩) hHeld ?_
          try simp only [List.getElem_toArray, List.getElem_cons_succ, List.getElem_cons_zero, Act.put, List.setIfInBounds_toArray, List.set_cons_zero, List.set_cons_succ]
          refine wpAnyH_take (i := 14) (v := undef) rfl (by kernel_rfl) (by kernel_rfl) (by kernel_rfl) (fun _ _ _ h => h) (Or.inr ⟨by kernel_rfl, rfl⟩) hHeld ?_
          try simp only [List.getElem_toArray, List.getElem_cons_succ, List.getElem_cons_zero, Act.put, List.setIfInBounds_toArray, List.set_cons_zero, List.set_cons_succ]
          refine wpAnyH_take (i := 15) (v := ?v15_33) rfl (by kernel_rfl) (by kernel_rfl) (by kernel_rfl) (fun _ _ _ h => h) (Or.inl ⟨by rfl, ?hy15_33⟩) hHeld ?rest15_33
          case hy15_33 => (intro w9 hSw; (try dsimp only at hSw); go_simp; (try with_reducible rfl))
          try simp only [List.getElem_toArray, List.getElem_cons_succ, List.getElem_cons_zero, Act.put, List.setIfInBounds_toArray, List.set_cons_zero, List.set_cons_succ]
          refine wpAnyH_take (i := 16) (v := ?v16_34) rfl (by kernel_rfl) (by kernel_rfl) (by kernel_rfl) (fun _ _ _ h => h) (Or.inl ⟨by rfl, ?hy16_34⟩) hHeld ?rest16_34
          case hy16_34 => (intro w9 hSw; (try dsimp only at hSw); go_simp; (try with_reducible rfl))
          try simp only [List.getElem_toArray, List.getElem_cons_succ, List.getElem_cons_zero, Act.put, List.setIfInBounds_toArray, List.set_cons_zero, List.set_cons_succ]
          refine wpAnyH_take (i := 17) (v := undef) rfl (by kernel_rfl) (by kernel_rfl) (by kernel_rfl) (fun _ _ _ h => h) (Or.inr ⟨by kernel_rfl, rfl⟩) hHeld ?_
          try simp only [List.getElem_toArray, List.getElem_cons_succ, List.getElem_cons_zero, Act.put, List.setIfInBounds_toArray, List.set_cons_zero, List.set_cons_succ]
          refine wpAnyH_take (i := 18) (v := undef) rfl (by kernel_rfl) (by kernel_rfl) (by kernel_rfl) (fun _ _ _ h => h) (Or.inr ⟨by kernel_rfl, rfl⟩) hHeld ?_
          try simp only [List.getElem_toArray, List.getElem_cons_succ, List.getElem_cons_zero, Act.put, List.setIfInBounds_toArray, List.set_cons_zero, List.set_cons_succ]
          refine wpAnyH_take (i := 19) (v := undef) rfl (by kernel_rfl) (by kernel_rfl) (by kernel_rfl) (fun _ _ _ h => h) (Or.inr ⟨by kernel_rfl, rfl⟩) hHeld ?_
          try simp only [List.getElem_toArray, List.getElem_cons_succ, List.getElem_cons_zero, Act.put, List.setIfInBounds_toArray, List.set_cons_zero, List.set_cons_succ]
          refine wpAnyH_take (i := 20) (v := undef) rfl (by kernel_rfl) (by kernel_rfl) (by kernel_rfl) (fun _ _ _ h => h) (Or.inr ⟨by kernel_rfl, rfl⟩) hHeld ?_
          try simp only [List.getElem_toArray, List.getElem_cons_succ, List.getElem_cons_zero, Act.put, List.setIfInBounds_toArray, List.set_cons_zero, List.set_cons_succ]
          refine wpAnyH_take (i := 21) (v := undef) rfl (by kernel_rfl) (by kernel_rfl) (by kernel_rfl) (fun _ _ _ h => h) (Or.inr ⟨by kernel_rfl, rfl⟩) hHeld ?_
          try simp only [List.getElem_toArray, List.getElem_cons_succ, List.getElem_cons_zero, Act.put, List.setIfInBounds_toArray, List.set_cons_zero, List.set_cons_succ]
          refine wpAnyH_take (i := 22) (v := undef) rfl (by kernel_rfl) (by kernel_rfl) (by kernel_rfl) (fun _ _ _ h => h) (Or.inr ⟨by kernel_rfl, rfl⟩) hHeld ?_
          try simp only [List.getElem_toArray, List.getElem_cons_succ, List.getElem_cons_zero, Act.put, List.setIfInBounds_toArray, List.set_cons_zero, List.set_cons_succ]
          refine wpAnyH_take (i := 23) (v := undef) rfl (by kernel_rfl) (by kernel_rfl) (by kernel_rfl) (fun _ _ _ h => h) (Or.inr ⟨by kernel_rfl, rfl⟩) hHeld ?_
          try simp only [List.getElem_toArray, List.getElem_cons_succ, List.getElem_cons_zero, Act.put, List.setIfInBounds_toArray, List.set_cons_zero, List.set_cons_succ]
          refine wpAnyH_take (i := 24) (v := undef) rfl (by kernel_rfl) (by kernel_rfl) (by kernel_rfl) (fun _ _ _ h => h) (Or.inr ⟨by kernel_rfl, rfl⟩) hHeld ?_
          try simp only [List.getElem_toArray, List.getElem_cons_succ, List.getElem_cons_zero, Act.put, List.setIfInBounds_toArray, List.set_cons_zero, List.set_cons_succ]
          refine wpAnyH_take (i := 25) (v := ?v25_35) rfl (by kernel_rfl) (by kernel_rfl) (by kernel_rfl) (fun _ _ _ h => h) (Or.inl ⟨by rfl, ?hy25_35⟩) hHeld ?rest25_35
          case hy25_35 => (intro w9 hSw; (try dsimp only at hSw); go_simp; (try with_reducible rfl))
          try simp only [List.getElem_toArray, List.getElem_cons_succ, List.getElem_cons_zero, Act.put, List.setIfInBounds_toArray, List.set_cons_zero, List.set_cons_succ]
          refine wpAnyH_done (by kernel_rfl) ?_ _
          refine NoPanic.normal ?_
          generalize hWe : World.drew _ = W
          have hHW : W.heap = (wr.alloc (bo b.c b.n b.d b.l b.a)).heap := by rw [← hWe]; rfl
          have HBW : Hid (Below w.heap.size w W) := by rw [← hWe]; exact (HB.out.alloc (by omega) _).drew
          have HRW : Hid (W.heap[w.heap.size]? = some (.cells #[.int .i64 0, .int .i64 0, .int .i64 0, .int .i64 0, .int .i64 0, .int .i64 0] 33 (0, 0))) := by rw [hHW]; exact blk_alloc HR.out _
          have hz4 : w.heap.size < W.heap.size := (Array.getElem?_eq_some_iff.1 HRW.out).1
          have gr0 : W.cell? ⟨w.heap.size, 0, none⟩ = some (.int .i64 0) := (cell_of_row W w.heap.size 0 _ _ _ HRW.out).trans rfl
          have gr1 : W.cell? ⟨w.heap.size, 1, none⟩ = some (.int .i64 0) := (cell_of_row W w.heap.size 1 _ _ _ HRW.out).trans rfl
          have gr2 : W.cell? ⟨w.heap.size, 2, none⟩ = some (.int .i64 0) := (cell_of_row W w.heap.size 2 _ _ _ HRW.out).trans rfl
          have gr3 : W.cell? ⟨w.heap.size, 3, none⟩ = some (.int .i64 0) := (cell_of_row W w.heap.size 3 _ _ _ HRW.out).trans rfl
          have gr4 : W.cell? ⟨w.heap.size, 4, none⟩ = some (.int .i64 0) := (cell_of_row W w.heap.size 4 _ _ _ HRW.out).trans rfl
          have gr5 : W.cell? ⟨w.heap.size, 5, none⟩ = some (.int .i64 0) := (cell_of_row W w.heap.size 5 _ _ _ HRW.out).trans rfl
          have grf : ∀ i, W.frozen? ⟨w.heap.size, i, none⟩ = false := fun i => blk_frozen HRW.out i
          clear hWe hHW
          go_wp2
          refine bodyPost_ret (v := .agg #[.int .i64 0, .int .i64 0, .int .i64 0, .int .i64 0, .int .i64 0, .int .i64 1]) (by simp [results, Try.results27, go_sem, gr0, gr1, gr2, gr3, gr4, gr5, hz4]) rfl ?_
          refine ⟨?_, ?_⟩
          · have h0 := HEN.out.symm.trans HE.out
            injection h0 with h1 h2
            subst h1 h2
            rfl
          · have h9 : ∀ i, w.heap.size ≤ (⟨w.heap.size, i, none⟩ : Addr).block := fun i => Nat.le_refl _
            repeat (first | (with_reducible exact HBW.out) | (with_reducible refine Below.setCell ?_ (h9 _) _))
      · have hkl : k = l.length := by omega
        have hlast := invM_last (hkl ▸ HI.out) hl1
        have HLA : Hid (y.d = f.d ∧ y.a = f.a) := by rw [← HBF.out]; exact hlast
        have HEN0 : Hid (mergeS l = if V y.c y.n y.d y.l y.a then (y, 0) else (zB, 1)) := merge_end (hkl ▸ HI.out) hl1 hl2
        clear hkl hlast
        have gr0 : wr.cell? ⟨w.heap.size, 0, none⟩ = some (.int .i64 0) := (cell_of_row wr w.heap.size 0 _ _ _ HR.out).trans rfl
        have gr1 : wr.cell? ⟨w.heap.size, 1, none⟩ = some (.int .i64 0) := (cell_of_row wr w.heap.size 1 _ _ _ HR.out).trans rfl
        have gr2 : wr.cell? ⟨w.heap.size, 2, none⟩ = some (.int .i64 0) := (cell_of_row wr w.heap.size 2 _ _ _ HR.out).trans rfl
        have gr3 : wr.cell? ⟨w.heap.size, 3, none⟩ = some (.int .i64 0) := (cell_of_row wr w.heap.size 3 _ _ _ HR.out).trans rfl
        have gr4 : wr.cell? ⟨w.heap.size, 4, none⟩ = some (.int .i64 0) := (cell_of_row wr w.heap.size 4 _ _ _ HR.out).trans rfl
        have gr5 : wr.cell? ⟨w.heap.size, 5, none⟩ = some (.int .i64 0) := (cell_of_row wr w.heap.size 5 _ _ _ HR.out).trans rfl
        have grf : ∀ i, wr.frozen? ⟨w.heap.size, i, none⟩ = false := fun i => blk_frozen HR.out i
        by_cases hv : V y.c y.n f.d y.l f.a
        · have HV : Hid (V y.c y.n f.d y.l f.a) := hv
          have HEN : Hid (mergeS l = (y, 0)) := HEN0.out.trans (if_pos (by rw [HLA.out.1, HLA.out.2]; exact hv))
          clear hv
          go_wp2_with (go_at_call 21; refine (valid21_any _ _ _ _ _ _ true (decide_eq_true HV.out).symm).mono ?_; rintro e1 w1 ⟨rfl, rfl⟩)
          refine bodyPost_ret (v := .agg #[.int .i64 y.c, .int .i64 y.n, .int .i64 f.d, .int .i64 y.l, .int .i64 f.a, .int .i64 0]) (by simp [results, Try.results27, go_sem, gr0, gr1, gr2, gr3, gr4, gr5, hwlt0]) rfl ?_
          refine ⟨?_, ?_⟩
          · have h0 := HEN.out.symm.trans HE.out
            injection h0 with h1 h2
            subst h1 h2
            rw [HLA.out.1, HLA.out.2]
          · have h9 : ∀ i, w.heap.size ≤ (⟨w.heap.size, i, none⟩ : Addr).block := fun i => Nat.le_refl _
            repeat (first | (with_reducible exact HB.out) | (with_reducible refine Below.alloc ?_ ?hs _; (case hs => first | omega | (simp; omega))) | (with_reducible refine Below.setCell ?_ (h9 _) _))
        · have HV : Hid (¬ V y.c y.n f.d y.l f.a) := hv
          have HEN : Hid (mergeS l = (zB, 1)) := HEN0.out.trans (if_neg (by rw [HLA.out.1, HLA.out.2]; exact hv))
          clear hv
          go_wp2_with (go_at_call 21; refine (valid21_any _ _ _ _ _ _ false (decide_eq_false HV.out).symm).mono ?_; rintro e1 w1 ⟨rfl, rfl⟩)
          refine bodyPost_ret (v := .agg #[.int .i64 0, .int .i64 0, .int .i64 0, .int .i64 0, .int .i64 0, .int .i64 1]) (by simp [results, Try.results27, go_sem, gr0, gr1, gr2, gr3, gr4, gr5, hwlt0]) rfl ?_
          refine ⟨?_, ?_⟩
          · have h0 := HEN.out.symm.trans HE.out
            injection h0 with h1 h2
            subst h1 h2
            rfl
          · have h9 : ∀ i, w.heap.size ≤ (⟨w.heap.size, i, none⟩ : Addr).block := fun i => Nat.le_refl _
            repeat (first | (with_reducible exact HB.out) | (with_reducible refine Below.alloc ?_ ?hs _; (case hs => first | omega | (simp; omega))) | (with_reducible refine Below.setCell ?_ (h9 _) _))
  · have HEN : Hid (mergeS l = (zB, 1)) := by
      unfold mergeS
      exact if_neg (fun h => hl ⟨h.1, h.2.1⟩)
    go_enter Try.func27, Try.ntmps27
    by_cases h1 : l.length < 1
    · have hn1 : decide ((l.length : Int) < 1) = true := decide_eq_true (by omega)
      clear hl h1
      go_wp2
      refine bodyPost_ret (v := .agg #[.int .i64 0, .int .i64 0, .int .i64 0, .int .i64 0, .int .i64 0, .int .i64 1]) (by simp [results, Try.results27, go_sem]) rfl ?_
      refine ⟨?_, ?_⟩
      · have h0 := HEN.out.symm.trans HE.out
        injection h0 with h1 h2
        subst h1 h2
        rfl
      · repeat (first | (with_reducible exact Below.refl _ _) | (with_reducible refine Below.alloc ?_ ?hs _; (case hs => first | omega | (simp; done) | (simp; omega))) | (with_reducible refine Below.setCell ?_ ?hs _; (case hs => first | omega | (simp; done) | (simp; omega))) | (with_reducible refine below_drewN ?_ _) | (with_reducible refine Below.drew ?_) | (with_reducible refine below_then ?_ ?hs hb1; (case hs => first | omega | (simp; done) | (simp; omega))))
    · have hn1 : decide ((l.length : Int) < 1) = false := decide_eq_false (by omega)
      have hn2 : decide ((64 : Int) < (l.length : Int)) = true := decide_eq_true (by omega)
      clear hl h1
      go_wp2
      refine bodyPost_ret (v := .agg #[.int .i64 0, .int .i64 0, .int .i64 0, .int .i64 0, .int .i64 0, .int .i64 1]) (by simp [results, Try.results27, go_sem]) rfl ?_
      refine ⟨?_, ?_⟩
      · have h0 := HEN.out.symm.trans HE.out
        injection h0 with h1 h2
        subst h1 h2
        rfl
      · repeat (first | (with_reducible exact Below.refl _ _) | (with_reducible refine Below.alloc ?_ ?hs _; (case hs => first | omega | (simp; done) | (simp; omega))) | (with_reducible refine Below.setCell ?_ ?hs _; (case hs => first | omega | (simp; done) | (simp; omega))) | (with_reducible refine below_drewN ?_ _) | (with_reducible refine Below.drew ?_) | (with_reducible refine below_then ?_ ?hs hb1; (case hs => first | omega | (simp; done) | (simp; omega))))

end Go.Proofs.Ytcikmloklbdddaa
