/- What bucket's sum and Split return, where the parts fit. Conditions: those of the theorems' heads. -/
import Derived.Test.YtcikmloklbdddaaWWords
import Derived.Test.YtcikmloklbdddaaBuck
import Derived.Test.YtcikmloklbdddaaBuck
set_option linter.unusedVariables false
set_option linter.unusedSimpArgs false
namespace Go.Proofs.Ytcikmloklbdddaa
open Go.RowKit
open Go.Proofs.YtcikmloklbdddaaW.PrintWords (ReadsInt rd own_nil blk_frozen own_weaken own_setCell own_base blk_set add_block blk_alloc blk_below)
/-! ### sum -/
def sumGo (most : Int) : Int → List Int → Int × Bool
  | t, [] => (t, true)
  | t, x :: r => if x < 0 ∨ most - t < x then (0, false) else sumGo most (t + x) r
theorem drop_at {α : Type} (xs : List α) (k : Nat) (h : k < xs.length) (d : α) : xs.drop k = xs.getD k d :: xs.drop (k + 1) := by
  rw [List.drop_eq_getElem_cons h, List.getD_eq_getElem?_getD, List.getElem?_eq_getElem h]; rfl
def SumRel (most : Int) (xs : List Int) (t : Int) (k : Nat) : Prop := sumGo most 0 xs = sumGo most t (xs.drop k)
set_option maxHeartbeats 400000 in
theorem sum_any (most : Int) (A : Option Addr) (c : Nat) (xs : List Int) (w : World) (h0 : 0 ≤ most) (h1 : most ≤ 1099511627776) (hr : ReadsInt w .i64 A xs.length xs)
    (hw : ∀ x ∈ xs, -9223372036854775808 ≤ x ∧ x ≤ 9223372036854775807) (r1 : Int) (r2 : Bool) (hres : sumGo most 0 xs = (r1, r2)) :
    Calls Try.prog 31 #[.int .i64 most, .slice A xs.length c] w fun e w' => e = .returned (.tuple #[.int .i64 r1, .bool r2]) ∧ w = w' := by
  have hlen := hr.2.1
  have HR : Hid (ReadsInt w .i64 A xs.length xs) := hr
  have HW : Hid (∀ x ∈ xs, -9223372036854775808 ≤ x ∧ x ≤ 9223372036854775807) := hw
  have HE : Hid (sumGo most 0 xs = (r1, r2)) := hres
  clear hr hw hres
  go_enter Try.func31, Try.ntmps31
  go_wp2
  go_loop [4, 10] (fun t i => ∃ (k : Nat) (T : Int), k ≤ xs.length ∧ i = .int .i64 k ∧ t = .int .i64 T ∧ 0 ≤ T ∧ T ≤ most ∧ Hid (SumRel most xs T k)) (fun _ i => xs.length - (intOf i).toNat)
  case atStart => exact ⟨0, 0, Nat.zero_le _, rfl, rfl, by omega, h0, rfl⟩
  case round =>
    obtain ⟨k, T, hk, rfl, rfl, hT0, hT1, HS⟩ := hrel
    by_cases hlt : k < xs.length
    · obtain ⟨ad, rfl, hc⟩ := HR.out.at_ (k : Int) (by omega) (by omega)
      obtain ⟨x, hx⟩ : ∃ x, x = rd xs (k : Int) := ⟨_, rfl⟩
      rw [← hx] at hc
      have hxb := HW.out x (by rw [hx]; unfold rd; simp [List.getD_eq_getElem?_getD, List.getElem?_eq_getElem hlt])
      have hxb1 := hxb.1
      have hxb2 := hxb.2
      have HX : Hid (x = rd xs (k : Int)) := hx
      have HD : Hid (xs.drop k = x :: xs.drop (k + 1)) := by rw [hx]; exact drop_at xs k hlt 0
      simp only [Int.toNat_natCast] at hc
      clear hx hxb
      have HG : Hid (sumGo most T (xs.drop k) = if x < 0 ∨ most - T < x then (0, false) else sumGo most (T + x) (xs.drop (k + 1))) := by rw [HD.out]; rfl
      by_cases hbad : x < 0 ∨ most - T < x
      · have HF : Hid ((0, false) = (r1, r2)) := by rw [← HE.out]; unfold Hid; rw [show sumGo most 0 xs = sumGo most T (xs.drop k) from HS, HG.out, if_pos hbad]
        by_cases hneg : x < 0
        · clear hbad
          go_wp2
          go_ret2
          injection HF.out with e1 e2
          subst e1 e2
          exact ⟨rfl, rfl⟩
        · have hbig : most - T < x := by omega
          clear hbad
          go_wp2
          go_ret2
          injection HF.out with e1 e2
          subst e1 e2
          exact ⟨rfl, rfl⟩
      · have hneg : 0 ≤ x := by omega
        have hbig : x ≤ most - T := by omega
        have HN : Hid (SumRel most xs (T + x) (k + 1)) := by show SumRel most xs (T + x) (k + 1); unfold SumRel; rw [show sumGo most 0 xs = sumGo most T (xs.drop k) from HS, HG.out, if_neg hbad]
        clear hbad
        go_wp2
        go_round
        case rel => exact ⟨k + 1, T + x, by omega, by go_num, rfl, by omega, by omega, HN⟩
        case measure => simp [intOf]; omega
    · have HF : Hid ((T, true) = (r1, r2)) := by
        rw [← HE.out]; unfold Hid; rw [show sumGo most 0 xs = sumGo most T (xs.drop k) from HS, List.drop_of_length_le (by omega)]; rfl
      go_wp2
      go_ret2
      injection HF.out with e1 e2
      subst e1 e2
      exact ⟨rfl, rfl⟩
/-! ### Split -/
structure BK where
  (c n d l a : Int)
def BK.cells (b : BK) : List Value := [.int .i64 b.c, .int .i64 b.n, .int .i64 b.d, .int .i64 b.l, .int .i64 b.a]
def cellsB (l : List BK) : List Value := l.flatMap BK.cells
theorem cellsB_snoc (l : List BK) (b : BK) : cellsB (l ++ [b]) = cellsB l ++ b.cells := by simp [cellsB]
theorem cellsB_length (l : List BK) : (cellsB l).length = 5 * l.length := by
  induction l with
  | nil => rfl
  | cons b l ih => simp only [cellsB, List.flatMap_cons, List.length_append] at *; rw [ih]; simp [BK.cells]; omega
def mn2 (a b : Int) : Int := if b < a then b else a
def splitGo (d a : Int) : Int → List Int → List Int → List BK
  | l, c :: cs, n :: ns => ⟨c, n, d, mn2 l (c * d), a⟩ :: splitGo d a (l - mn2 l (c * d)) cs ns
  | _, _, _ => []
/-- k parts are made: these; what is left of the level is l. -/
def SplitRel (d a l0 : Int) (caps nums : List Int) (k : Nat) (l : Int) (out : List BK) : Prop := splitGo d a l0 caps nums = out ++ splitGo d a l (caps.drop k) (nums.drop k) ∧ out.length = k
theorem sum_bd (most : Int) : ∀ (xs : List Int) (t : Int), 0 ≤ t → t ≤ most → (sumGo most t xs).2 = true → ∀ x ∈ xs, 0 ≤ x ∧ x ≤ most := by
  intro xs
  induction xs with
  | nil => intro t _ _ _ x hx; cases hx
  | cons y ys ih =>
    intro t h0 h1 h x hx
    unfold sumGo at h
    by_cases hb : y < 0 ∨ most - t < y
    · rw [if_pos hb] at h; cases h
    · rw [if_neg hb] at h
      rcases List.mem_cons.1 hx with rfl | hx
      · omega
      · exact ih (t + y) (by omega) (by omega) h x hx
theorem rd_mem {xs : List Int} {k : Nat} (h : k < xs.length) : rd xs (k : Int) ∈ xs := by
  unfold rd; simp [List.getD_eq_getElem?_getD, List.getElem?_eq_getElem h]
theorem split_step {d a l0 : Int} {caps nums : List Int} {k : Nat} {l x y lv : Int} {out : List BK} (h : SplitRel d a l0 caps nums k l out) (h1 : k < caps.length) (h2 : k < nums.length) (hx : x = rd caps (k : Int)) (hy : y = rd nums (k : Int)) (hv : lv = mn2 l (x * d)) :
    SplitRel d a l0 caps nums (k + 1) (l - lv) (out ++ [⟨x, y, d, lv, a⟩]) := by
  refine ⟨?_, by simp [h.2]⟩
  rw [h.1, drop_at caps k h1 0, drop_at nums k h2 0]
  have e1 : caps.getD k 0 = x := by rw [hx]; rfl
  have e2 : nums.getD k 0 = y := by rw [hy]; rfl
  rw [e1, e2, hv]
  simp [splitGo]
theorem info23 : (Try.prog.info? 23).map (fun i => (i.zero, i.size, i.bytes)) = some (some (.agg #[.int .i64 0, .int .i64 0, .int .i64 0, .int .i64 0, .int .i64 0]), 5, 40) := by kernel_rfl
abbrev sl (A : Option Addr) (n c : Nat) : Value := .slice A n c
theorem far_cell {W w1 : World} {o : Obj} {row : Option Nat} (hg : (W.alloc o).drew.grownBy w1 row) {p : Addr} {u : Value} (hc : W.cell? p = some u) (hne : some p.block ≠ row) : w1.cell? p = some u := by
  have h1 : (W.alloc o).drew.cell? p = some u := (World.cell?_alloc_lt W o p (World.block_lt_of_cell? W _ hc)).trans hc
  exact (World.cell?_of_block (hg.block p.block (World.block_lt_of_cell? _ _ h1) hne)).trans h1
set_option maxHeartbeats 1000000 in
theorem split_ok (c n d l a : Int) (A1 A2 : Option Addr) (c1 c2 : Nat) (caps nums : List Int) (w : World) (hv : V c n d l a)
    (hr1 : ReadsInt w .i64 A1 caps.length caps) (hr2 : ReadsInt w .i64 A2 nums.length nums)
    (hlen1 : 1 ≤ caps.length) (hlen2 : caps.length ≤ 64) (hlen : nums.length = caps.length) (hs1 : sumGo c 0 caps = (c, true)) (hs2 : sumGo n 0 nums = (n, true))
    (hw1 : ∀ x ∈ caps, -9223372036854775808 ≤ x ∧ x ≤ 9223372036854775807) (hw2 : ∀ x ∈ nums, -9223372036854775808 ≤ x ∧ x ≤ 9223372036854775807) :
    Calls Try.prog 24 #[bk c n d l a, .slice A1 caps.length c1, .slice A2 nums.length c2] w fun e w' => ∃ v, e = .returned (.tuple #[v, .int .i64 0]) ∧ w'.ownsRow (w.heap.size + 1) 23 5 v caps.length (cellsB (splitGo d a l caps nums)) ∧ Below w.heap.size w w' := by
  have hcb := sum_bd c caps 0 (by omega) hv.1 (by rw [hs1])
  have hnb := sum_bd n nums 0 (by omega) hv.2.2.1 (by rw [hs2])
  have hcap : c ≤ 1073741824 := hv.2.1
  have hc0 : 0 ≤ c := hv.1
  have hn0 : 0 ≤ n := hv.2.2.1
  have hn1 : n ≤ 1048576 := hv.2.2.2.1
  have hd0 : 1 ≤ d := hv.2.2.2.2.1
  have hd1 : d ≤ 1048576 := hv.2.2.2.2.2.1
  have hl0 : 0 ≤ l := hv.2.2.2.2.2.2.1
  have hcd := cd_bd hc0 hcap (by omega : 0 ≤ d) hd1
  have hl1 : l ≤ 1125899906842624 := by have := hv.2.2.2.2.2.2.2.1; omega
  have HV : Hid (V c n d l a) := hv
  have HW : Hid (wi caps.length 1 64 = true) := wi_t (by omega) (by omega)
  have HE : Hid (nums.length = caps.length) := hlen
  have HR1 : Hid (ReadsInt w .i64 A1 caps.length caps) := hr1
  have HR2 : Hid (ReadsInt w .i64 A2 nums.length nums) := hr2
  have HS1 : Hid (sumGo c 0 caps = (c, true)) := hs1
  have HS2 : Hid (sumGo n 0 nums = (n, true)) := hs2
  have HW1 : Hid (∀ x ∈ caps, -9223372036854775808 ≤ x ∧ x ≤ 9223372036854775807) := hw1
  have HW2 : Hid (∀ x ∈ nums, -9223372036854775808 ≤ x ∧ x ≤ 9223372036854775807) := hw2
  have HCB : Hid (∀ x ∈ caps, 0 ≤ x ∧ x ≤ c) := hcb
  have HNB : Hid (∀ x ∈ nums, 0 ≤ x ∧ x ≤ n) := hnb
  have hne : decide ((nums.length : Int) = (caps.length : Int)) = true := by simp [hlen]
  have hne' : ((nums.length : Int) != (caps.length : Int)) = false := by simp [hlen]
  have hbel : Below w.heap.size w ((w.alloc (bo c n d l a)).alloc (bo c n d l a)) := ((Below.refl _ _).alloc (Nat.le_refl _) _).alloc (by simp) _
  have HB0 : Hid (Below w.heap.size w ((w.alloc (bo c n d l a)).alloc (bo c n d l a))) := hbel
  clear hv hlen hr1 hr2 hs1 hs2 hw1 hw2 hcb hnb hbel hcd
  obtain ⟨i0, hi, hz0, hz1, hz2⟩ := info_parts info23
  go_enter Try.func24, Try.ntmps24
  go_wp2_with (first | (go_at_call 20; refine (valid20_any _ _ _ _ _ _ true (decide_eq_true HV.out).symm).mono ?_; rintro e w' ⟨rfl, rfl⟩) | (go_at_call 29; refine (within_b _ _ _ _ true HW.out).mono ?_; rintro e w' ⟨rfl, rfl⟩) | (go_at_call 31; (with_reducible refine (sum_any c A1 c1 caps _ (by omega) (by omega) (HR1.out.below HB0.out) HW1.out c true HS1.out).mono ?_); rintro e w' ⟨rfl, rfl⟩) | (go_at_call 31; (with_reducible refine (sum_any n A2 c2 nums _ (by omega) (by omega) (HR2.out.below HB0.out) HW2.out n true HS2.out).mono ?_); rintro e w' ⟨rfl, rfl⟩))
  go_loopw [12, 66] (fun v i wr => ∃ (k : Nat) (q : Int) (out : List BK), k ≤ caps.length ∧ i = .int .i64 k ∧ 0 ≤ q ∧ q ≤ 1125899906842624 ∧ Hid (SplitRel d a l caps nums k q out) ∧ Hid (Below w.heap.size w wr) ∧ Hid (wr.heap[w.heap.size]? = some (.cells #[.int .i64 c, .int .i64 n, .int .i64 d, .int .i64 q, .int .i64 a] 23 (0, 0))) ∧ Hid (wr.ownsRow (w.heap.size + 1) 23 5 v k (cellsB out))) (fun _ i _ => caps.length - (intOf i).toNat)
  case atStart =>
    exact ⟨0, l, [], Nat.zero_le _, rfl, hl0, hl1, ⟨rfl, rfl⟩, HB0, (Below.heap_alloc _ _ _ (by simp)).trans (heap_alloc_new _ _), own_nil _ _ _ _⟩
  case round =>
    obtain ⟨k, q, out, hk, rfl, hq0, hq1, HS, HB, HBK, HO⟩ := hrel
    have hwrlt : w.heap.size < wr.heap.size := (Array.getElem?_eq_some_iff.1 HBK.out).1
    by_cases hlt : k < caps.length
    · obtain ⟨ad1, rfl, hc1⟩ := (HR1.out.below HB.out).at_ (k : Int) (by omega) (by omega)
      obtain ⟨ad2, rfl, hc2⟩ := (HR2.out.below HB.out).at_ (k : Int) (by omega) (by rw [HE.out]; omega)
      obtain ⟨x, hx⟩ : ∃ x, x = rd caps (k : Int) := ⟨_, rfl⟩
      obtain ⟨y, hy⟩ : ∃ y, y = rd nums (k : Int) := ⟨_, rfl⟩
      rw [← hx] at hc1
      rw [← hy] at hc2
      have hxb := HCB.out x (by rw [hx]; exact rd_mem hlt)
      have hx0 := hxb.1
      have hx1 := hxb.2
      have hyb := HNB.out y (by rw [hy]; exact rd_mem (by rw [HE.out]; exact hlt))
      have hxd := cd_bd hx0 (by omega) (by omega : 0 ≤ d) hd1
      have hxd0 := hxd.1
      have hxd1 := hxd.2
      simp only [Int.toNat_natCast] at hc1 hc2
      have HX : Hid (x = rd caps (k : Int)) := hx
      have HY : Hid (y = rd nums (k : Int)) := hy
      have hb0 := (cell_of_row wr w.heap.size 0 _ _ _ HBK.out).trans rfl
      have hb1 := (cell_of_row wr w.heap.size 1 _ _ _ HBK.out).trans rfl
      have hb2 : wr.cell? ⟨w.heap.size, 2, none⟩ = some (.int .i64 d) := (cell_of_row wr w.heap.size 2 _ _ _ HBK.out).trans rfl
      have hb3 : wr.cell? ⟨w.heap.size, 3, none⟩ = some (.int .i64 q) := (cell_of_row wr w.heap.size 3 _ _ _ HBK.out).trans rfl
      have hb4 : wr.cell? ⟨w.heap.size, 4, none⟩ = some (.int .i64 a) := (cell_of_row wr w.heap.size 4 _ _ _ HBK.out).trans rfl
      have hfz : wr.frozen? ⟨w.heap.size, 3, none⟩ = false := blk_frozen HBK.out 3
      have hk64 : (k : Int) < (caps.length : Int) := by omega
      have hk65 : (k : Int) < (nums.length : Int) := by rw [HE.out]; exact hk64
      have hk0 : (0 : Int) ≤ (k : Int) := by omega
      have hadb : ad2.block < w.heap.size := by
        obtain ⟨ad3, e3, h3⟩ := HR2.out.at_ (k : Int) (by omega) (by rw [HE.out]; omega)
        injection e3 with e3
        subst e3
        have := World.block_lt_of_cell? w _ h3
        rwa [add_block] at this
      clear hx hy hxb hyb hxd hb0 hb1
      go_wp2
      · have hmin : x * d < q := by assumption
        obtain ⟨W, hW⟩ : ∃ W : World, wr.setCell ⟨w.heap.size, 3, none⟩ (.int .i64 (q - x * d)) = W := ⟨_, rfl⟩
        rw [hW]
        have HW0 : Hid (wr.setCell ⟨w.heap.size, 3, none⟩ (.int .i64 (q - x * d)) = W) := hW
        have hsW : W.heap.size = wr.heap.size := by rw [← hW]; simp
        have hbW : W.heap[w.heap.size]? = some (.cells #[.int .i64 c, .int .i64 n, .int .i64 d, .int .i64 (q - x * d), .int .i64 a] 23 (0, 0)) := by rw [← hW]; exact blk_set HBK.out 3 _
        have hd2 : W.cell? ⟨w.heap.size, 2, none⟩ = some (.int .i64 d) := (cell_of_row W w.heap.size 2 _ _ _ hbW).trans rfl
        have hd4 : W.cell? ⟨w.heap.size, 4, none⟩ = some (.int .i64 a) := (cell_of_row W w.heap.size 4 _ _ _ hbW).trans rfl
        have hyW : W.cell? (ad2.add k) = some (.int .i64 y) := by rw [← hW]; exact (World.cell?_setCell_other _ _ _ _ (by intro e; have h9 := congrArg Addr.block e; rw [add_block] at h9; have h8 : w.heap.size = ad2.block := h9; omega)).trans hc2
        have HOs : Hid (W.ownsRow (w.heap.size + 1) 23 5 u12 k (cellsB out)) := by rw [← hW]; exact own_setCell HO.out (fun e => by have h9 : w.heap.size + 1 ≤ w.heap.size := own_base HO.out _ e.symm; omega) _
        have HbW : Hid (W.heap[w.heap.size]? = some (.cells #[.int .i64 c, .int .i64 n, .int .i64 d, .int .i64 (q - x * d), .int .i64 a] 23 (0, 0))) := hbW
        have hone : ∀ u ∈ [Value.int .i64 x, .int .i64 y, .int .i64 d, .int .i64 (x * d), .int .i64 a], u.oneCell' = true := by simp [Value.oneCell']
        have hmx : k + 1 ≤ maxLen := by unfold maxLen; omega
        have hby : (k + 1) * 40 ≤ 140737488355328 := by omega
        have hbs : ∀ o : Obj, w.heap.size + 1 ≤ (W.alloc o).heap.size := fun o => by simp; omega
        have hnb : some w.heap.size ≠ u12.ownBlock := fun e => by have h9 : w.heap.size + 1 ≤ w.heap.size := own_base HO.out _ e.symm; omega
        have hna : some (ad2.add k).block ≠ u12.ownBlock := fun e => by rw [add_block] at e; have h9 : w.heap.size + 1 ≤ ad2.block := own_base HO.out _ e.symm; omega
        have HsW : Hid (W.heap.size = wr.heap.size) := hsW
        clear hsW hW hb2 hb3 hb4 hfz hc1 hc2 hbW
        go_region_held3 (fun w' => w'.cell? (ad2.add k) = some (.int .i64 y) ∧ w'.cell? ⟨w.heap.size, 2, none⟩ = some (.int .i64 d) ∧ w'.cell? ⟨w.heap.size, 4, none⟩ = some (.int .i64 a)) (go_keep)
          ((refine step_append_lies _ (by rfl) _ _ _ (by rfl) (w.heap.size + 1) 23 i0 _ 5 40 Try.underlying51 hi hz0 hz1 hz2 rfl (by decide) _ k (cellsB out) (by rfl) (HOs.out.alloc _) ⟨W.heap.size, 0, none⟩ 1 1 [.int .i64 x, .int .i64 y, .int .i64 d, .int .i64 (x * d), .int .i64 a] (by rfl) rfl (World.news_of_block (cs := #[.int .i64 x, .int .i64 y, .int .i64 d, .int .i64 (x * d), .int .i64 a]) (t := 23) (fr := (0, 0)) (heap_alloc_new _ _)) hone (by decide) hmx hby (hbs _) (W.heap.size + 1) (by simp) ?_; intro g cap w1 hown1 hgrow hat hlt1; have hd2' := far_cell hgrow hd2 hnb; have hd4' := far_cell hgrow hd4 hnb; have hy' := far_cell hgrow hyW hna))
        go_wp2
        go_roundw
        case rel =>
          have hsW2 : W.heap.size = wr.heap.size := HsW.out
          have hbl : w1.heap[w.heap.size]? = some (.cells #[.int .i64 c, .int .i64 n, .int .i64 d, .int .i64 (q - x * d), .int .i64 a] 23 (0, 0)) :=
            (hgrow.block w.heap.size (by simp; omega) hnb).trans ((Below.heap_alloc W _ w.heap.size (by omega)).trans HbW.out)
          have hbe : Below w.heap.size w w1 := by
            have h1 : Below w.heap.size w W := by rw [← HW0.out]; exact HB.out.setCell (p := ⟨w.heap.size, 3, none⟩) (Nat.le_refl _) _
            exact ((h1.alloc (by omega) _).drew).grown hgrow (by simp; omega) (fun j e => by have h9 : w.heap.size + 1 ≤ j := own_base HO.out _ e; omega)
          exact ⟨k + 1, q - x * d, out ++ [(⟨x, y, d, x * d, a⟩ : BK)], by omega, by go_num, by omega, by omega, show SplitRel d a l caps nums (k + 1) (q - x * d) (out ++ [⟨x, y, d, x * d, a⟩]) from split_step HS.out (by omega) (by rw [HE.out]; omega) HX.out HY.out (by unfold mn2; split <;> omega), hbe, hbl, by rw [cellsB_snoc]; exact hown1⟩
        case measure => simp [intOf]; omega
      · have hmin : q ≤ x * d := by assumption
        obtain ⟨W, hW⟩ : ∃ W : World, wr.setCell ⟨w.heap.size, 3, none⟩ (.int .i64 0) = W := ⟨_, rfl⟩
        rw [hW]
        have HW0 : Hid (wr.setCell ⟨w.heap.size, 3, none⟩ (.int .i64 0) = W) := hW
        have hsW : W.heap.size = wr.heap.size := by rw [← hW]; simp
        have hbW : W.heap[w.heap.size]? = some (.cells #[.int .i64 c, .int .i64 n, .int .i64 d, .int .i64 0, .int .i64 a] 23 (0, 0)) := by rw [← hW]; exact blk_set HBK.out 3 _
        have hd2 : W.cell? ⟨w.heap.size, 2, none⟩ = some (.int .i64 d) := (cell_of_row W w.heap.size 2 _ _ _ hbW).trans rfl
        have hd4 : W.cell? ⟨w.heap.size, 4, none⟩ = some (.int .i64 a) := (cell_of_row W w.heap.size 4 _ _ _ hbW).trans rfl
        have hyW : W.cell? (ad2.add k) = some (.int .i64 y) := by rw [← hW]; exact (World.cell?_setCell_other _ _ _ _ (by intro e; have h9 := congrArg Addr.block e; rw [add_block] at h9; have h8 : w.heap.size = ad2.block := h9; omega)).trans hc2
        have HOs : Hid (W.ownsRow (w.heap.size + 1) 23 5 u12 k (cellsB out)) := by rw [← hW]; exact own_setCell HO.out (fun e => by have h9 : w.heap.size + 1 ≤ w.heap.size := own_base HO.out _ e.symm; omega) _
        have HbW : Hid (W.heap[w.heap.size]? = some (.cells #[.int .i64 c, .int .i64 n, .int .i64 d, .int .i64 0, .int .i64 a] 23 (0, 0))) := hbW
        have hone : ∀ u ∈ [Value.int .i64 x, .int .i64 y, .int .i64 d, .int .i64 q, .int .i64 a], u.oneCell' = true := by simp [Value.oneCell']
        have hmx : k + 1 ≤ maxLen := by unfold maxLen; omega
        have hby : (k + 1) * 40 ≤ 140737488355328 := by omega
        have hbs : ∀ o : Obj, w.heap.size + 1 ≤ (W.alloc o).heap.size := fun o => by simp; omega
        have hnb : some w.heap.size ≠ u12.ownBlock := fun e => by have h9 : w.heap.size + 1 ≤ w.heap.size := own_base HO.out _ e.symm; omega
        have hna : some (ad2.add k).block ≠ u12.ownBlock := fun e => by rw [add_block] at e; have h9 : w.heap.size + 1 ≤ ad2.block := own_base HO.out _ e.symm; omega
        have HsW : Hid (W.heap.size = wr.heap.size) := hsW
        clear hsW hW hb2 hb3 hb4 hfz hc1 hc2 hbW
        go_region_held3 (fun w' => w'.cell? (ad2.add k) = some (.int .i64 y) ∧ w'.cell? ⟨w.heap.size, 2, none⟩ = some (.int .i64 d) ∧ w'.cell? ⟨w.heap.size, 4, none⟩ = some (.int .i64 a)) (go_keep)
          ((refine step_append_lies _ (by rfl) _ _ _ (by rfl) (w.heap.size + 1) 23 i0 _ 5 40 Try.underlying51 hi hz0 hz1 hz2 rfl (by decide) _ k (cellsB out) (by rfl) (HOs.out.alloc _) ⟨W.heap.size, 0, none⟩ 1 1 [.int .i64 x, .int .i64 y, .int .i64 d, .int .i64 q, .int .i64 a] (by rfl) rfl (World.news_of_block (cs := #[.int .i64 x, .int .i64 y, .int .i64 d, .int .i64 q, .int .i64 a]) (t := 23) (fr := (0, 0)) (heap_alloc_new _ _)) hone (by decide) hmx hby (hbs _) (W.heap.size + 1) (by simp) ?_; intro g cap w1 hown1 hgrow hat hlt1; have hd2' := far_cell hgrow hd2 hnb; have hd4' := far_cell hgrow hd4 hnb; have hy' := far_cell hgrow hyW hna))
        go_wp2
        go_roundw
        case rel =>
          have hsW2 : W.heap.size = wr.heap.size := HsW.out
          have hbl : w1.heap[w.heap.size]? = some (.cells #[.int .i64 c, .int .i64 n, .int .i64 d, .int .i64 0, .int .i64 a] 23 (0, 0)) :=
            (hgrow.block w.heap.size (by simp; omega) hnb).trans ((Below.heap_alloc W _ w.heap.size (by omega)).trans HbW.out)
          have hbe : Below w.heap.size w w1 := by
            have h1 : Below w.heap.size w W := by rw [← HW0.out]; exact HB.out.setCell (p := ⟨w.heap.size, 3, none⟩) (Nat.le_refl _) _
            exact ((h1.alloc (by omega) _).drew).grown hgrow (by simp; omega) (fun j e => by have h9 : w.heap.size + 1 ≤ j := own_base HO.out _ e; omega)
          exact ⟨k + 1, 0, out ++ [(⟨x, y, d, q, a⟩ : BK)], by omega, by go_num, by omega, by omega, show SplitRel d a l caps nums (k + 1) 0 (out ++ [⟨x, y, d, q, a⟩]) from (Int.sub_self q) ▸ split_step (lv := q) HS.out (by omega) (by rw [HE.out]; omega) HX.out HY.out (by unfold mn2; split <;> omega), hbe, hbl, by rw [cellsB_snoc]; exact hown1⟩
        case measure => simp [intOf]; omega
    · have hk2 : k = caps.length := by omega
      have HF : Hid (splitGo d a l caps nums = out) := by
        rw [HS.out.1, List.drop_of_length_le (by omega : caps.length ≤ k)]
        unfold Hid; unfold splitGo; simp
      go_wp2
      refine bodyPost_ret (v := .tuple #[u12, .int .i64 0]) (by simp [results, Try.results24, go_sem]) rfl ?_
      exact ⟨_, rfl, by rw [HF.out, ← hk2]; exact HO.out, HB.out⟩

end Go.Proofs.Ytcikmloklbdddaa
