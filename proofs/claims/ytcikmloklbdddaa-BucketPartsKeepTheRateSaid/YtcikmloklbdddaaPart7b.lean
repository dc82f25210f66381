/- What both Merges return of any list of buckets. Conditions: those of the theorems' heads. -/
import Derived.Test.YtcikmloklbdddaaWWords
import Derived.Test.YtcikmloklbdddaaPart7a
import Derived.Deep.DeepCutAuto
import Derived.Tactics2
import Derived.StillTailTactics
set_option linter.unusedVariables false
set_option linter.unusedSimpArgs false
namespace Go.Proofs.Ytcikmloklbdddaa
open Go.RowKit
open Go.Proofs.YtcikmloklbdddaaW.PrintWords (ReadsInt rd own_nil blk_frozen own_weaken own_setCell own_base own_lt blk_set add_block blk_alloc blk_below blk_far blk_grown pw_own_below add_field own_slice)
/-! ### lists of buckets that are read -/
abbrev BKv (b : BK) : Value := bk b.c b.n b.d b.l b.a
def zB : BK := ⟨0, 0, 0, 0, 0⟩
def bAt (l : List BK) (j : Nat) : BK := l.getD j zB
def RdB (w : World) (A : Option Addr) (l : List BK) : Prop :=
  l.length ≤ 9223372036854775807 ∧ ∀ j, j < l.length → ∃ ad, A = some ad ∧ w.cell? (ad.add (j * 5)) = some (.int .i64 (bAt l j).c) ∧ w.cell? ⟨(ad.add (j * 5)).block, (ad.add (j * 5)).off + 1, none⟩ = some (.int .i64 (bAt l j).n) ∧
    w.cell? ⟨(ad.add (j * 5)).block, (ad.add (j * 5)).off + 2, none⟩ = some (.int .i64 (bAt l j).d) ∧ w.cell? ⟨(ad.add (j * 5)).block, (ad.add (j * 5)).off + 3, none⟩ = some (.int .i64 (bAt l j).l) ∧ w.cell? ⟨(ad.add (j * 5)).block, (ad.add (j * 5)).off + 4, none⟩ = some (.int .i64 (bAt l j).a)
theorem RdB.to {w W : World} {A : Option Addr} {l : List BK} (h : RdB w A l) (hb : Below w.heap.size w W) : RdB W A l :=
  ⟨h.1, fun j hj => by
    obtain ⟨ad, e, h0, h1, h2, h3, h4⟩ := h.2 j hj
    exact ⟨ad, e, cell_below' hb h0, cell_below' hb h1, cell_below' hb h2, cell_below' hb h3, cell_below' hb h4⟩⟩
theorem RdB.drewN {w : World} {A : Option Addr} {l : List BK} (h : RdB w A l) (m : Nat) : RdB (w.drewN m) A l := h
theorem cellsB_get (l : List BK) (j i : Nat) (hj : j < l.length) (hi : i < 5) : (cellsB l)[j * 5 + i]? = (bAt l j).cells[i]? := by
  induction l generalizing j with
  | nil => simp at hj
  | cons b l ih =>
    have hlen : b.cells.length = 5 := rfl
    simp only [cellsB, List.flatMap_cons]
    cases j with
    | zero =>
      rw [List.getElem?_append_left (by rw [hlen]; omega)]
      simp [bAt]
    | succ j =>
      rw [List.getElem?_append_right (by rw [hlen]; omega), hlen, show (j + 1) * 5 + i - 5 = j * 5 + i by omega]
      exact ih j (by simpa using hj)
theorem own_rdb {w : World} {base n : Nat} {v : Value} {l : List BK} (h : w.ownsRow base 23 5 v n (cellsB l)) (hn : n = l.length) : ∃ A cap, v = .slice A l.length cap ∧ RdB w A l := by
  subst hn
  obtain ⟨A, cap, rfl⟩ := own_slice h
  refine ⟨A, cap, rfl, ?_, fun j hj => ?_⟩
  · rcases h.2 with ⟨_, h1⟩ | ⟨g', cap', cur, he, _, _, h1, h2, _⟩
    · omega
    · simp only [maxLen] at h2
      omega
  · obtain ⟨g, cap', hv, _, _⟩ := h.form (by omega)
    injection hv with hA _ _
    subst hA
    have hc : ∀ i u, i < 5 → (bAt l j).cells[i]? = some u → w.cell? ((⟨g, 0, none⟩ : Addr).add (j * 5 + i)) = some u := fun i u hi hu => h.cells (g := g) rfl (j * 5 + i) u (by rw [cellsB_get l j i hj hi]; exact hu)
    refine ⟨_, rfl, hc 0 _ (by decide) rfl, ?_, ?_, ?_, ?_⟩
    · rw [← add_field _ _ 1 (by omega)]; exact hc 1 _ (by decide) rfl
    · rw [← add_field _ _ 2 (by omega)]; exact hc 2 _ (by decide) rfl
    · rw [← add_field _ _ 3 (by omega)]; exact hc 3 _ (by decide) rfl
    · rw [← add_field _ _ 4 (by omega)]; exact hc 4 _ (by decide) rfl
set_option maxHeartbeats 400000 in
theorem same_any (A B : Option Addr) (c1 c2 : Nat) (l : List BK) (w : World) (ha : RdB w A l) (hb : RdB w B l) :
    Calls Try.prog 28 #[.slice A l.length c1, .slice B l.length c2] w fun e w' => e = .returned (.bool true) ∧ Below w.heap.size w w' := by
  have hlen := ha.1
  have HA : Hid (RdB w A l) := ha
  have HB : Hid (RdB w B l) := hb
  clear ha hb
  go_enter Try.func28, Try.ntmps28
  go_wp2
  go_loopw [5] (fun i wr => ∃ k m : Nat, k ≤ l.length ∧ i = .int .i64 k ∧ wr = w.drewN m) (fun i _ => l.length - (intOf i).toNat)
  case atStart => exact ⟨0, 0, Nat.zero_le _, rfl, rfl⟩
  case round =>
    obtain ⟨k, m, hk, rfl, rfl⟩ := hrel
    by_cases hlt : k < l.length
    · obtain ⟨ad, rfl, a0, a1, a2, a3, a4⟩ := HA.out.2 k hlt
      obtain ⟨bd, rfl, b0, b1, b2, b3, b4⟩ := HB.out.2 k hlt
      generalize bAt l k = x at a0 a1 a2 a3 a4 b0 b1 b2 b3 b4
      have hk0 : (0 : Int) ≤ (k : Int) := by omega
      have hk1 : (k : Int) < (l.length : Int) := by omega
      go_wp2
      go_quiet (fail)
      go_wp2
      go_roundw
      case rel => exact ⟨k + 1, _, by omega, by go_num, rfl⟩
      case measure => simp [intOf]; omega
    · go_wp2
      go_ret
      exact ⟨rfl, below_drewN (Below.refl _ _) _⟩
/-! ### Merge -/
def okB (f b : BK) : Prop := V b.c b.n b.d b.l b.a ∧ b.d = f.d ∧ b.a = f.a
instance (f b : BK) : Decidable (okB f b) := by unfold okB; infer_instance
def addB (x b : BK) : BK := ⟨x.c + b.c, x.n + b.n, b.d, x.l + b.l, b.a⟩
def accB (l : List BK) : BK := l.foldl addB zB
theorem accB_snoc (l : List BK) (b : BK) : accB (l ++ [b]) = addB (accB l) b := by simp [accB]
def mergeS (l : List BK) : BK × Int :=
  if 1 ≤ l.length ∧ l.length ≤ 64 ∧ (∀ b ∈ l, okB (bAt l 0) b) then (if V (accB l).c (accB l).n (accB l).d (accB l).l (accB l).a then (accB l, 0) else (zB, 1)) else (zB, 1)
theorem bAt_mem {l : List BK} {j : Nat} (h : j < l.length) : bAt l j ∈ l := by
  unfold bAt; rw [List.getD_eq_getElem?_getD, List.getElem?_eq_getElem h]; exact List.getElem_mem h
theorem take_bAt {l : List BK} {k : Nat} (h : k < l.length) : l.take (k + 1) = l.take k ++ [bAt l k] := by
  rw [List.take_succ_eq_append_getElem h]; unfold bAt; rw [List.getD_eq_getElem?_getD, List.getElem?_eq_getElem h]; rfl
/-- The sums behind k buckets, and their bounds. -/
structure InvM (l : List BK) (k : Nat) (x : BK) : Prop where
  acc : accB (l.take k) = x
  ok : ∀ b ∈ l.take k, okB (bAt l 0) b
  c0 : 0 ≤ x.c
  c1 : x.c ≤ 1073741824 * k
  n0 : 0 ≤ x.n
  n1 : x.n ≤ 1048576 * k
  l0 : 0 ≤ x.l
  l1 : x.l ≤ 1125899906842624 * k
theorem invM_start (l : List BK) : InvM l 0 zB := ⟨rfl, by simp, by decide, by decide, by decide, by decide, by decide, by decide⟩
theorem invM_step {l : List BK} {k : Nat} {x : BK} (h : InvM l k x) (hk : k < l.length) (hb : okB (bAt l 0) (bAt l k)) : InvM l (k + 1) (addB x (bAt l k)) := by
  obtain ⟨v1, v2, v3, v4, v5, v6, v7, v8, v9, v10⟩ := hb.1
  have hcd := cd_bd v1 v2 (by omega : 0 ≤ (bAt l k).d) v6
  have h1 := h.c0
  have h2 := h.c1
  have h3 := h.n0
  have h4 := h.n1
  have h5 := h.l0
  have h6 := h.l1
  refine ⟨by rw [take_bAt hk, accB_snoc, h.acc], ?_, ?_, ?_, ?_, ?_, ?_, ?_⟩
  · intro b hbm
    rw [take_bAt hk] at hbm
    rcases List.mem_append.1 hbm with hbm | hbm
    · exact h.ok b hbm
    · simp at hbm; subst hbm; exact hb
  all_goals simp only [addB]; omega
theorem merge_bad {l : List BK} {k : Nat} (hk : k < l.length) (hb : ¬ okB (bAt l 0) (bAt l k)) : mergeS l = (zB, 1) := by
  unfold mergeS
  rw [if_neg (fun h => hb (h.2.2 _ (bAt_mem hk)))]
theorem merge_end {l : List BK} {x : BK} (h : InvM l l.length x) (h1 : 1 ≤ l.length) (h2 : l.length ≤ 64) : mergeS l = if V x.c x.n x.d x.l x.a then (x, 0) else (zB, 1) := by
  have ha := h.acc
  rw [List.take_of_length_le (Nat.le_refl _)] at ha
  have ho := h.ok
  rw [List.take_of_length_le (Nat.le_refl _)] at ho
  unfold mergeS
  rw [if_pos ⟨h1, h2, ho⟩, ha]
theorem World_le {B : Nat} {w W : World} (h : Below B w W) : w.heap.size ≤ W.heap.size := h.size
set_option maxHeartbeats 2000000 in
set_option maxRecDepth 100000 in
theorem merge25_any (A : Option Addr) (cp : Nat) (l : List BK) (w : World) (ha : RdB w A l) (x : BK) (e : Int) (hres : mergeS l = (x, e)) :
    Calls Try.prog 25 #[.slice A l.length cp] w fun r w' => r = .returned (.tuple #[BKv x, .int .i64 e]) ∧ Below w.heap.size w w' := by
  have hlen := ha.1
  have HA : Hid (RdB w A l) := ha
  have HE : Hid (mergeS l = (x, e)) := hres
  clear ha hres
  by_cases hl : wi l.length 1 64 = true
  · have hll := of_decide_eq_true (p := (1 : Int) ≤ l.length ∧ (l.length : Int) ≤ 64) hl
    have hl1 : 1 ≤ l.length := by omega
    have hl2 : l.length ≤ 64 := by omega
    have HL : Hid (wi l.length 1 64 = true) := hl
    clear hl hll
    go_enter Try.func25, Try.ntmps25
    go_wp2_with (go_at_call 29; refine (within_b _ _ _ _ true HL.out).mono ?_; rintro e w' ⟨rfl, rfl⟩)
    go_loopw [15] (fun i wr => ∃ (k : Nat) (y : BK), k ≤ l.length ∧ i = .int .i64 k ∧ Hid (InvM l k y) ∧ Hid (Below w.heap.size w wr) ∧ Hid (wr.heap[w.heap.size]? = some (bo 0 0 0 0 0)) ∧ Hid (wr.heap[w.heap.size + 1]? = some (bo y.c y.n y.d y.l y.a))) (fun i _ => l.length - (intOf i).toNat)
    case atStart => exact ⟨0, zB, Nat.zero_le _, rfl, invM_start l, ((Below.refl _ _).alloc (Nat.le_refl _) _).alloc (by simp) _, blk_alloc (heap_alloc_new _ _) _, heap2 _ _ _⟩
    case round =>
      obtain ⟨k, y, hk, rfl, HI, HB, HR, HO⟩ := hrel
      by_cases hlt : k < l.length
      · obtain ⟨ad, rfl, a0, a1, a2, a3, a4⟩ := (HA.out.to HB.out).2 k hlt
        obtain ⟨bd, hbd, _, _, z2, _, z4⟩ := (HA.out.to HB.out).2 0 (by omega)
        injection hbd with hbd
        subst hbd
        have hadd0 : ad.add (0 * 5) = ad := by simp [Addr.add]
        rw [hadd0] at z2 z4
        have had : ad.block < wr.heap.size := World.block_lt_of_cell? wr ⟨ad.block, ad.off + 2, none⟩ z2
        have hadk : (ad.add (k * 5)).block = ad.block := add_block _ _
        generalize hbk : bAt l k = b at a0 a1 a2 a3 a4
        generalize hbf : bAt l 0 = f at z2 z4
        have HBK : Hid (bAt l k = b) := hbk
        have HBF : Hid (bAt l 0 = f) := hbf
        have had1 : ¬ ad.block = wr.heap.size := by omega
        have had2 : ¬ ad.block = wr.heap.size + 1 := by omega
        have hl0 : 0 < l.length := by omega
        clear hbk hbf hadd0 hadk
        go_wp2
        go_region_held3 (fun w' => w'.cell? ⟨ad.block, ad.off + 2, none⟩ = some (.int .i64 f.d) ∧ w'.cell? ⟨ad.block, ad.off + 4, none⟩ = some (.int .i64 f.a)) (go_keep) (fail)
        all_goals
          generalize hWe : World.drew _ = W
          have hwW : W.heap = ((wr.alloc (bo b.c b.n b.d b.l b.a)).alloc (bo b.c b.n f.d b.l f.a)).heap := by rw [← hWe]; rfl
          have hsW : W.heap.size = wr.heap.size + 2 := by rw [hwW]; simp
          have HBW : Hid (Below w.heap.size w W) := by
            rw [← hWe]; exact ((HB.out.alloc (World_le HB.out) _).alloc (by have := World_le HB.out; simp; omega) _).drew
          have HSW : Hid (W.heap.size = wr.heap.size + 2) := hsW
          have hwlt : w.heap.size + 1 < wr.heap.size := (Array.getElem?_eq_some_iff.1 HO.out).1
          have HRW : Hid (W.heap[w.heap.size]? = some (bo 0 0 0 0 0)) := by rw [hwW]; exact blk_alloc (blk_alloc HR.out _) _
          have HOW : Hid (W.heap[w.heap.size + 1]? = some (bo y.c y.n y.d y.l y.a)) := by rw [hwW]; exact blk_alloc (blk_alloc HO.out _) _
          have HBX : Hid (W.heap[wr.heap.size]? = some (bo b.c b.n b.d b.l b.a)) := by rw [hwW]; exact blk_alloc (heap_alloc_new _ _) _
          have HAX : Hid (W.heap[wr.heap.size + 1]? = some (bo b.c b.n f.d b.l f.a)) := by rw [hwW]; exact heap2 _ _ _
          have hz1 : wr.heap.size < W.heap.size := by omega
          have hz2 : wr.heap.size + 1 < W.heap.size := by omega
          have hz3 : w.heap.size + 1 < W.heap.size := by omega
          have hz4 : w.heap.size < W.heap.size := by omega
          clear hWe hwW hsW
          have gb0 : W.cell? ⟨wr.heap.size, 0, none⟩ = some (.int .i64 b.c) := (cell_of_row W wr.heap.size 0 _ _ _ HBX.out).trans rfl
          have gb1 : W.cell? ⟨wr.heap.size, 1, none⟩ = some (.int .i64 b.n) := (cell_of_row W wr.heap.size 1 _ _ _ HBX.out).trans rfl
          have gb2 : W.cell? ⟨wr.heap.size, 2, none⟩ = some (.int .i64 b.d) := (cell_of_row W wr.heap.size 2 _ _ _ HBX.out).trans rfl
          have gb3 : W.cell? ⟨wr.heap.size, 3, none⟩ = some (.int .i64 b.l) := (cell_of_row W wr.heap.size 3 _ _ _ HBX.out).trans rfl
          have gb4 : W.cell? ⟨wr.heap.size, 4, none⟩ = some (.int .i64 b.a) := (cell_of_row W wr.heap.size 4 _ _ _ HBX.out).trans rfl
          have gr0 : W.cell? ⟨w.heap.size, 0, none⟩ = some (.int .i64 0) := (cell_of_row W w.heap.size 0 _ _ _ HRW.out).trans rfl
          have gr1 : W.cell? ⟨w.heap.size, 1, none⟩ = some (.int .i64 0) := (cell_of_row W w.heap.size 1 _ _ _ HRW.out).trans rfl
          have gr2 : W.cell? ⟨w.heap.size, 2, none⟩ = some (.int .i64 0) := (cell_of_row W w.heap.size 2 _ _ _ HRW.out).trans rfl
          have gr3 : W.cell? ⟨w.heap.size, 3, none⟩ = some (.int .i64 0) := (cell_of_row W w.heap.size 3 _ _ _ HRW.out).trans rfl
          have gr4 : W.cell? ⟨w.heap.size, 4, none⟩ = some (.int .i64 0) := (cell_of_row W w.heap.size 4 _ _ _ HRW.out).trans rfl
          have grf : ∀ i, W.frozen? ⟨w.heap.size, i, none⟩ = false := fun i => blk_frozen HRW.out i
          by_cases hv : V b.c b.n b.d b.l b.a
          · by_cases hd : b.d = f.d ∧ b.a = f.a
            · have HV : Hid (V b.c b.n b.d b.l b.a) := hv
              have ga0 : W.cell? ⟨wr.heap.size + 1, 0, none⟩ = some (.int .i64 b.c) := (cell_of_row W (wr.heap.size + 1) 0 _ _ _ HAX.out).trans rfl
              have ga1 : W.cell? ⟨wr.heap.size + 1, 1, none⟩ = some (.int .i64 b.n) := (cell_of_row W (wr.heap.size + 1) 1 _ _ _ HAX.out).trans rfl
              have ga2 : W.cell? ⟨wr.heap.size + 1, 2, none⟩ = some (.int .i64 b.d) := by rw [hd.1]; exact (cell_of_row W (wr.heap.size + 1) 2 _ _ _ HAX.out).trans rfl
              have ga3 : W.cell? ⟨wr.heap.size + 1, 3, none⟩ = some (.int .i64 b.l) := (cell_of_row W (wr.heap.size + 1) 3 _ _ _ HAX.out).trans rfl
              have ga4 : W.cell? ⟨wr.heap.size + 1, 4, none⟩ = some (.int .i64 b.a) := by rw [hd.2]; exact (cell_of_row W (wr.heap.size + 1) 4 _ _ _ HAX.out).trans rfl
              have go0 : W.cell? ⟨w.heap.size + 1, 0, none⟩ = some (.int .i64 y.c) := (cell_of_row W (w.heap.size + 1) 0 _ _ _ HOW.out).trans rfl
              have go1 : W.cell? ⟨w.heap.size + 1, 1, none⟩ = some (.int .i64 y.n) := (cell_of_row W (w.heap.size + 1) 1 _ _ _ HOW.out).trans rfl
              have go2 : W.cell? ⟨w.heap.size + 1, 2, none⟩ = some (.int .i64 y.d) := (cell_of_row W (w.heap.size + 1) 2 _ _ _ HOW.out).trans rfl
              have go4 : W.cell? ⟨w.heap.size + 1, 4, none⟩ = some (.int .i64 y.a) := (cell_of_row W (w.heap.size + 1) 4 _ _ _ HOW.out).trans rfl
              have go3 : W.cell? ⟨w.heap.size + 1, 3, none⟩ = some (.int .i64 y.l) := (cell_of_row W (w.heap.size + 1) 3 _ _ _ HOW.out).trans rfl
              have gof : ∀ i, W.frozen? ⟨w.heap.size + 1, i, none⟩ = false := fun i => blk_frozen HOW.out i
              have HD : Hid (b.d = f.d ∧ b.a = f.a) := hd
              obtain ⟨v1, v2, v3, v4, v5, v6, v7, v8, v9, v10⟩ := hv
              have hcd := (cd_bd v1 v2 (by omega : 0 ≤ b.d) v6).2
              have i1 := HI.out.c0
              have i2 := HI.out.c1
              have i3 := HI.out.n0
              have i4 := HI.out.n1
              have i5 := HI.out.l0
              have i6 := HI.out.l1
              clear hd v5 v6 v9 v10
              go_wp2_with (go_at_call 20; refine (valid20_any _ _ _ _ _ _ true (decide_eq_true HV.out).symm).mono ?_; rintro e w' ⟨rfl, rfl⟩)
              go_roundw
              case rel =>
                have hne : w.heap.size ≠ w.heap.size + 1 := by omega
                refine ⟨k + 1, addB y b, by omega, by go_num, ?_, ?_, ?_, ?_⟩
                · have h0 := invM_step HI.out hlt (by rw [HBK.out, HBF.out]; exact ⟨HV.out, HD.out⟩)
                  rw [HBK.out] at h0
                  exact h0
                · have h9 : ∀ i, w.heap.size ≤ (⟨w.heap.size + 1, i, none⟩ : Addr).block := fun i => by show w.heap.size ≤ w.heap.size + 1; omega
                  exact (((((HBW.out.setCell (h9 0) _).setCell (h9 1) _).setCell (h9 2) _).setCell (h9 3) _).setCell (h9 4) _).alloc (by simp; omega) _
                · exact blk_alloc (blk_far (blk_far (blk_far (blk_far (blk_far HRW.out hne _) hne _) hne _) hne _) hne _) _
                · exact blk_alloc (blk_set (blk_set (blk_set (blk_set (blk_set HOW.out 0 _) 1 _) 2 _) 3 _) 4 _) _
              case measure => simp [intOf]; omega
            · have HV : Hid (V b.c b.n b.d b.l b.a) := hv
              have HD : Hid (¬ (b.d = f.d ∧ b.a = f.a)) := hd
              have ga0 : W.cell? ⟨wr.heap.size + 1, 0, none⟩ = some (.int .i64 b.c) := (cell_of_row W (wr.heap.size + 1) 0 _ _ _ HAX.out).trans rfl
              have ga1 : W.cell? ⟨wr.heap.size + 1, 1, none⟩ = some (.int .i64 b.n) := (cell_of_row W (wr.heap.size + 1) 1 _ _ _ HAX.out).trans rfl
              have ga2 : W.cell? ⟨wr.heap.size + 1, 2, none⟩ = some (.int .i64 f.d) := (cell_of_row W (wr.heap.size + 1) 2 _ _ _ HAX.out).trans rfl
              have ga3 : W.cell? ⟨wr.heap.size + 1, 3, none⟩ = some (.int .i64 b.l) := (cell_of_row W (wr.heap.size + 1) 3 _ _ _ HAX.out).trans rfl
              have ga4 : W.cell? ⟨wr.heap.size + 1, 4, none⟩ = some (.int .i64 f.a) := (cell_of_row W (wr.heap.size + 1) 4 _ _ _ HAX.out).trans rfl
              have HEN : Hid (mergeS l = (zB, 1)) := merge_bad hlt (by rw [HBK.out, HBF.out]; exact fun h => HD.out h.2)
              clear hv
              by_cases hdd : b.d = f.d
              · have hne : ¬ b.a = f.a := fun h => HD.out ⟨hdd, h⟩
                have hne' : ¬ f.a = b.a := fun h => hne h.symm
                have ga2' : W.cell? ⟨wr.heap.size + 1, 2, none⟩ = some (.int .i64 b.d) := by rw [hdd]; exact ga2
                clear ga2 hd hdd
                go_wp2_with (go_at_call 20; refine (valid20_any _ _ _ _ _ _ true (decide_eq_true HV.out).symm).mono ?_; rintro e w' ⟨rfl, rfl⟩)
                refine bodyPost_ret (v := .tuple #[bk 0 0 0 0 0, .int .i64 1]) (by simp [results, Try.results25, go_sem, gr0, gr1, gr2, gr3, gr4, hz4]) rfl ?_
                refine ⟨?_, ?_⟩
                · have h0 := HEN.out.symm.trans HE.out
                  injection h0 with h1 h2
                  subst h1 h2
                  rfl
                · have h9 : ∀ i, w.heap.size ≤ (⟨w.heap.size, i, none⟩ : Addr).block := fun i => Nat.le_refl _
                  exact (((((HBW.out.setCell (h9 0) _).setCell (h9 1) _).setCell (h9 2) _).setCell (h9 3) _).setCell (h9 4) _).alloc (by simp; omega) _
              · have hdd' : ¬ f.d = b.d := fun h => hdd h.symm
                clear hd
                go_wp2_with (go_at_call 20; refine (valid20_any _ _ _ _ _ _ true (decide_eq_true HV.out).symm).mono ?_; rintro e w' ⟨rfl, rfl⟩)
                refine bodyPost_ret (v := .tuple #[bk 0 0 0 0 0, .int .i64 1]) (by simp [results, Try.results25, go_sem, gr0, gr1, gr2, gr3, gr4, hz4]) rfl ?_
                refine ⟨?_, ?_⟩
                · have h0 := HEN.out.symm.trans HE.out
                  injection h0 with h1 h2
                  subst h1 h2
                  rfl
                · have h9 : ∀ i, w.heap.size ≤ (⟨w.heap.size, i, none⟩ : Addr).block := fun i => Nat.le_refl _
                  exact (((((HBW.out.setCell (h9 0) _).setCell (h9 1) _).setCell (h9 2) _).setCell (h9 3) _).setCell (h9 4) _).alloc (by simp; omega) _
          · have HV : Hid (¬ V b.c b.n b.d b.l b.a) := hv
            have HEN : Hid (mergeS l = (zB, 1)) := merge_bad hlt (by rw [HBK.out, HBF.out]; exact fun h => HV.out h.1)
            clear hv
            go_wp2_with (go_at_call 20; refine (valid20_any _ _ _ _ _ _ false (decide_eq_false HV.out).symm).mono ?_; rintro e w' ⟨rfl, rfl⟩)
            refine bodyPost_ret (v := .tuple #[bk 0 0 0 0 0, .int .i64 1]) (by simp [results, Try.results25, go_sem, gr0, gr1, gr2, gr3, gr4, hz4]) rfl ?_
            refine ⟨?_, ?_⟩
            · have h0 := HEN.out.symm.trans HE.out
              injection h0 with h1 h2
              subst h1 h2
              rfl
            · have h9 : ∀ i, w.heap.size ≤ (⟨w.heap.size, i, none⟩ : Addr).block := fun i => Nat.le_refl _
              exact (((((HBW.out.setCell (h9 0) _).setCell (h9 1) _).setCell (h9 2) _).setCell (h9 3) _).setCell (h9 4) _).alloc (by simp; omega) _
      · have hkl : k = l.length := by omega
        have HEN0 : Hid (mergeS l = if V y.c y.n y.d y.l y.a then (y, 0) else (zB, 1)) := merge_end (hkl ▸ HI.out) hl1 hl2
        have hwlt : w.heap.size + 1 < wr.heap.size := (Array.getElem?_eq_some_iff.1 HO.out).1
        clear hkl
        have gr0 : wr.cell? ⟨w.heap.size, 0, none⟩ = some (.int .i64 0) := (cell_of_row wr w.heap.size 0 _ _ _ HR.out).trans rfl
        have gr1 : wr.cell? ⟨w.heap.size, 1, none⟩ = some (.int .i64 0) := (cell_of_row wr w.heap.size 1 _ _ _ HR.out).trans rfl
        have gr2 : wr.cell? ⟨w.heap.size, 2, none⟩ = some (.int .i64 0) := (cell_of_row wr w.heap.size 2 _ _ _ HR.out).trans rfl
        have gr3 : wr.cell? ⟨w.heap.size, 3, none⟩ = some (.int .i64 0) := (cell_of_row wr w.heap.size 3 _ _ _ HR.out).trans rfl
        have gr4 : wr.cell? ⟨w.heap.size, 4, none⟩ = some (.int .i64 0) := (cell_of_row wr w.heap.size 4 _ _ _ HR.out).trans rfl
        have grf : ∀ i, wr.frozen? ⟨w.heap.size, i, none⟩ = false := fun i => blk_frozen HR.out i
        have go0 : wr.cell? ⟨w.heap.size + 1, 0, none⟩ = some (.int .i64 y.c) := (cell_of_row wr (w.heap.size + 1) 0 _ _ _ HO.out).trans rfl
        have go1 : wr.cell? ⟨w.heap.size + 1, 1, none⟩ = some (.int .i64 y.n) := (cell_of_row wr (w.heap.size + 1) 1 _ _ _ HO.out).trans rfl
        have go2 : wr.cell? ⟨w.heap.size + 1, 2, none⟩ = some (.int .i64 y.d) := (cell_of_row wr (w.heap.size + 1) 2 _ _ _ HO.out).trans rfl
        have go3 : wr.cell? ⟨w.heap.size + 1, 3, none⟩ = some (.int .i64 y.l) := (cell_of_row wr (w.heap.size + 1) 3 _ _ _ HO.out).trans rfl
        have go4 : wr.cell? ⟨w.heap.size + 1, 4, none⟩ = some (.int .i64 y.a) := (cell_of_row wr (w.heap.size + 1) 4 _ _ _ HO.out).trans rfl
        by_cases hv : V y.c y.n y.d y.l y.a
        · have HV : Hid (V y.c y.n y.d y.l y.a) := hv
          have HEN : Hid (mergeS l = (y, 0)) := HEN0.out.trans (if_pos hv)
          clear hv
          go_wp2_with (go_at_call 30; refine (valid30_ok _ _ _ _ _ _ HV.out).mono ?_; rintro e1 w1 ⟨rfl, hB⟩; have HB1 : Hid (Below w.heap.size w w1) := (below_then HB.out (World_le HB.out) hB); have gs0 := cell_below' hB gr0; have gs1 := cell_below' hB gr1; have gs2 := cell_below' hB gr2; have gs3 := cell_below' hB gr3; have gs4 := cell_below' hB gr4; have HR1 : Hid (w1.heap[w.heap.size]? = some (bo 0 0 0 0 0)) := (kb_ hB HR.out); have gsf : ∀ i, w1.frozen? ⟨w.heap.size, i, none⟩ = false := (fun i => blk_frozen HR1.out i); have hz9 : w.heap.size < w1.heap.size := ((Array.getElem?_eq_some_iff.1 HR1.out).1))
          refine bodyPost_ret (v := .tuple #[BKv y, .int .i64 0]) (by simp [results, Try.results25, go_sem, gs0, gs1, gs2, gs3, gs4, hz9]) rfl ?_
          refine ⟨?_, ?_⟩
          · have h0 := HEN.out.symm.trans HE.out
            injection h0 with h1 h2
            subst h1 h2
            rfl
          · have h9 : ∀ i, w.heap.size ≤ (⟨w.heap.size, i, none⟩ : Addr).block := fun i => Nat.le_refl _
            exact (((((HB1.out.setCell (h9 0) _).setCell (h9 1) _).setCell (h9 2) _).setCell (h9 3) _).setCell (h9 4) _)
        · have HV : Hid (¬ V y.c y.n y.d y.l y.a) := hv
          have HEN : Hid (mergeS l = (zB, 1)) := HEN0.out.trans (if_neg hv)
          clear hv
          go_wp2_with (go_at_call 30; refine (valid30_no _ _ _ _ _ _ HV.out).mono ?_; rintro e1 w1 ⟨rfl, hB⟩; have HB1 : Hid (Below w.heap.size w w1) := (below_then HB.out (World_le HB.out) hB); have gs0 := cell_below' hB gr0; have gs1 := cell_below' hB gr1; have gs2 := cell_below' hB gr2; have gs3 := cell_below' hB gr3; have gs4 := cell_below' hB gr4; have HR1 : Hid (w1.heap[w.heap.size]? = some (bo 0 0 0 0 0)) := (kb_ hB HR.out); have gsf : ∀ i, w1.frozen? ⟨w.heap.size, i, none⟩ = false := (fun i => blk_frozen HR1.out i); have hz9 : w.heap.size < w1.heap.size := ((Array.getElem?_eq_some_iff.1 HR1.out).1))
          refine bodyPost_ret (v := .tuple #[bk 0 0 0 0 0, .int .i64 1]) (by simp [results, Try.results25, go_sem, gs0, gs1, gs2, gs3, gs4, hz9]) rfl ?_
          refine ⟨?_, ?_⟩
          · have h0 := HEN.out.symm.trans HE.out
            injection h0 with h1 h2
            subst h1 h2
            rfl
          · have h9 : ∀ i, w.heap.size ≤ (⟨w.heap.size, i, none⟩ : Addr).block := fun i => Nat.le_refl _
            exact (((((HB1.out.setCell (h9 0) _).setCell (h9 1) _).setCell (h9 2) _).setCell (h9 3) _).setCell (h9 4) _)
  · have HL : Hid (wi l.length 1 64 = false) := by cases h : wi l.length 1 64 with | true => exact absurd h hl | false => rfl
    have HEN : Hid (mergeS l = (zB, 1)) := by
      unfold mergeS
      exact if_neg (fun h => hl (decide_eq_true ⟨by omega, by omega⟩))
    clear hl
    go_enter Try.func25, Try.ntmps25
    go_wp2_with (go_at_call 29; refine (within_b _ _ _ _ false HL.out).mono ?_; rintro e w' ⟨rfl, rfl⟩)
    refine bodyPost_ret (v := .tuple #[bk 0 0 0 0 0, .int .i64 1]) (by simp [results, Try.results25, go_sem]) rfl ?_
    refine ⟨?_, ?_⟩
    · have h0 := HEN.out.symm.trans HE.out
      injection h0 with h1 h2
      subst h1 h2
      rfl
    · repeat (first | (with_reducible exact Below.refl _ _) | (with_reducible refine Below.alloc ?_ ?hs _; (case hs => first | omega | (simp; done) | (simp; omega))) | (with_reducible refine Below.setCell ?_ ?hs _; (case hs => first | omega | (simp; done) | (simp; omega))) | (with_reducible refine below_drewN ?_ _) | (with_reducible refine Below.drew ?_) | (with_reducible refine below_then ?_ ?hs hb1; (case hs => first | omega | (simp; done) | (simp; omega))))

end Go.Proofs.Ytcikmloklbdddaa
