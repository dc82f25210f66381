/- The walk of BucketWaitsExactly. No condition. -/
import Derived.Test.YtcikmloklbdddaaWWords
import Derived.Test.YtcikmloklbdddaaSane
set_option linter.unusedVariables false
set_option linter.unusedSimpArgs false
namespace Go.Proofs.Ytcikmloklbdddaa
open Go.RowKit
open Go.Proofs.YtcikmloklbdddaaW.PrintWords (ReadsInt rd own_nil blk_frozen own_weaken own_setCell own_base blk_set add_block blk_alloc blk_below)
set_option maxHeartbeats 1000000 in
set_option maxRecDepth 100000 in
theorem w5_v (c n d l a m u : Int) (w : World) (hv : ¬ V c n d l a) :
    Calls Try.prog 5 #[bk c n d l a, .int .i64 m, .int .i64 u] w fun e w' => e = .returned (.bool true) ∧ Below w.heap.size w w' := by
  have HV : Hid (¬ V c n d l a) := hv
  clear hv
  have HB0 : Hid (Below w.heap.size w w) := Below.refl _ _
  have hL0 : w.heap.size ≤ w.heap.size := Nat.le_refl _
  go_enter Try.func5, Try.ntmps5
  go_wp2_with ((go_at_call 20; refine (valid20_any _ _ _ _ _ _ false (decide_eq_false HV.out).symm).mono ?_; rintro e w' ⟨rfl, rfl⟩))
  go_at_call 19
  refine (sanity_any _).mono ?_
  rintro e w1 ⟨rfl, hB1⟩
  have kN_b := heap_alloc_new w (.cells #[.int .i64 c, .int .i64 n, .int .i64 d, .int .i64 l, .int .i64 a] 23)
  have kN_b2 := heap_alloc_new (w.alloc (.cells #[.int .i64 c, .int .i64 n, .int .i64 d, .int .i64 l, .int .i64 a] 23)) (.cells #[.int .i64 c, .int .i64 n, .int .i64 d, .int .i64 l, .int .i64 a] 23)
  simp only [World.size_alloc] at kN_b2
  have HB1 : Hid (Below w.heap.size w w1) := below_then ((HB0.out.alloc (by first | omega | (simp; done) | (simp; omega)) _).alloc (by first | omega | (simp; done) | (simp; omega)) _) (by first | omega | (simp; done) | (simp; omega)) hB1
  have hL1 : w.heap.size ≤ w1.heap.size := HB1.out.size
  clear hB1 kN_b kN_b2
  go_wp2_with fail
  go_ret
  exact ⟨rfl, HB1.out⟩
set_option maxHeartbeats 1000000 in
set_option maxRecDepth 100000 in
theorem w5_lo (c n d l a m u : Int) (w : World) (hv : V c n d l a) (hm : m < 1) :
    Calls Try.prog 5 #[bk c n d l a, .int .i64 m, .int .i64 u] w fun e w' => e = .returned (.bool true) ∧ Below w.heap.size w w' := by
  have HV : Hid (V c n d l a) := hv
  clear hv
  have HB0 : Hid (Below w.heap.size w w) := Below.refl _ _
  have hL0 : w.heap.size ≤ w.heap.size := Nat.le_refl _
  go_enter Try.func5, Try.ntmps5
  go_wp2_with ((go_at_call 20; refine (valid20_any _ _ _ _ _ _ true (decide_eq_true HV.out).symm).mono ?_; rintro e w' ⟨rfl, rfl⟩))
  go_at_call 19
  refine (sanity_any _).mono ?_
  rintro e w1 ⟨rfl, hB1⟩
  have kN_b := heap_alloc_new w (.cells #[.int .i64 c, .int .i64 n, .int .i64 d, .int .i64 l, .int .i64 a] 23)
  have kN_b2 := heap_alloc_new (w.alloc (.cells #[.int .i64 c, .int .i64 n, .int .i64 d, .int .i64 l, .int .i64 a] 23)) (.cells #[.int .i64 c, .int .i64 n, .int .i64 d, .int .i64 l, .int .i64 a] 23)
  simp only [World.size_alloc] at kN_b2
  have HB1 : Hid (Below w.heap.size w w1) := below_then ((HB0.out.alloc (by first | omega | (simp; done) | (simp; omega)) _).alloc (by first | omega | (simp; done) | (simp; omega)) _) (by first | omega | (simp; done) | (simp; omega)) hB1
  have hL1 : w.heap.size ≤ w1.heap.size := HB1.out.size
  clear hB1 kN_b kN_b2
  go_wp2_with fail
  go_ret
  exact ⟨rfl, HB1.out⟩
set_option maxHeartbeats 1000000 in
set_option maxRecDepth 100000 in
theorem w5_hi (c n d l a m u : Int) (w : World) (hv : V c n d l a) (hm : 1 ≤ m) (hm2 : 1073741824 < m) :
    Calls Try.prog 5 #[bk c n d l a, .int .i64 m, .int .i64 u] w fun e w' => e = .returned (.bool true) ∧ Below w.heap.size w w' := by
  have HV : Hid (V c n d l a) := hv
  clear hv
  have HB0 : Hid (Below w.heap.size w w) := Below.refl _ _
  have hL0 : w.heap.size ≤ w.heap.size := Nat.le_refl _
  go_enter Try.func5, Try.ntmps5
  go_wp2_with ((go_at_call 20; refine (valid20_any _ _ _ _ _ _ true (decide_eq_true HV.out).symm).mono ?_; rintro e w' ⟨rfl, rfl⟩))
  go_at_call 19
  refine (sanity_any _).mono ?_
  rintro e w1 ⟨rfl, hB1⟩
  have kN_b := heap_alloc_new w (.cells #[.int .i64 c, .int .i64 n, .int .i64 d, .int .i64 l, .int .i64 a] 23)
  have kN_b2 := heap_alloc_new (w.alloc (.cells #[.int .i64 c, .int .i64 n, .int .i64 d, .int .i64 l, .int .i64 a] 23)) (.cells #[.int .i64 c, .int .i64 n, .int .i64 d, .int .i64 l, .int .i64 a] 23)
  simp only [World.size_alloc] at kN_b2
  have HB1 : Hid (Below w.heap.size w w1) := below_then ((HB0.out.alloc (by first | omega | (simp; done) | (simp; omega)) _).alloc (by first | omega | (simp; done) | (simp; omega)) _) (by first | omega | (simp; done) | (simp; omega)) hB1
  have hL1 : w.heap.size ≤ w1.heap.size := HB1.out.size
  clear hB1 kN_b kN_b2
  go_wp2_with fail
  go_ret
  exact ⟨rfl, HB1.out⟩
set_option maxHeartbeats 1000000 in
set_option maxRecDepth 100000 in
theorem w5_e1_2 (c n d l a m u : Int) (w : World) (hv : V c n d l a) (hm1 : 1 ≤ m) (hm2 : m ≤ 1073741824) (hu : u < a) (ht : ∀ w : World, Calls Try.prog 11 #[bk c n d l a, .int .i64 1099511627776, .int .i64 m] w fun e w' => e = .returned (.tuple #[bk 0 0 0 0 0, .int .i64 4]) ∧ Below w.heap.size w w') (hw : ∀ w : World, Calls Try.prog 12 #[bk c n d l a, .int .i64 m] w fun e w' => e = .returned (.tuple #[.int .i64 0, .int .i64 2]) ∧ Below w.heap.size w w') :
    Calls Try.prog 5 #[bk c n d l a, .int .i64 m, .int .i64 u] w fun e w' => e = .returned (.bool true) ∧ Below w.heap.size w w' := by
  have HV : Hid (V c n d l a) := hv
  clear hv
  have HTk : Hid (∀ w : World, Calls Try.prog 11 #[bk c n d l a, .int .i64 1099511627776, .int .i64 m] w fun e w' => e = .returned (.tuple #[bk 0 0 0 0 0, .int .i64 4]) ∧ Below w.heap.size w w') := ht
  have HWt : Hid (∀ w : World, Calls Try.prog 12 #[bk c n d l a, .int .i64 m] w fun e w' => e = .returned (.tuple #[.int .i64 0, .int .i64 2]) ∧ Below w.heap.size w w') := hw
  clear ht hw
  have HB0 : Hid (Below w.heap.size w w) := Below.refl _ _
  have hL0 : w.heap.size ≤ w.heap.size := Nat.le_refl _
  go_enter Try.func5, Try.ntmps5
  go_wp2_with ((go_at_call 20; refine (valid20_any _ _ _ _ _ _ true (decide_eq_true HV.out).symm).mono ?_; rintro e w' ⟨rfl, rfl⟩))
  go_at_call 12
  refine (HWt.out _).mono ?_
  rintro e w1 ⟨rfl, hB1⟩
  have kN_b := heap_alloc_new w (.cells #[.int .i64 c, .int .i64 n, .int .i64 d, .int .i64 l, .int .i64 a] 23)
  have kN_b2 := heap_alloc_new (w.alloc (.cells #[.int .i64 c, .int .i64 n, .int .i64 d, .int .i64 l, .int .i64 a] 23)) (.cells #[.int .i64 c, .int .i64 n, .int .i64 d, .int .i64 l, .int .i64 a] 23)
  simp only [World.size_alloc] at kN_b2
  have kk_b : w1.heap[w.heap.size]? = some (.cells #[.int .i64 c, .int .i64 n, .int .i64 d, .int .i64 l, .int .i64 a] 23 (0, 0)) := blk_below (blk_alloc kN_b _) hB1
  have HB1 : Hid (Below w.heap.size w w1) := below_then ((HB0.out.alloc (by first | omega | (simp; done) | (simp; omega)) _).alloc (by first | omega | (simp; done) | (simp; omega)) _) (by first | omega | (simp; done) | (simp; omega)) hB1
  have hL1 : w.heap.size ≤ w1.heap.size := HB1.out.size
  clear hB1 kN_b kN_b2
  have K_b : Hid (w1.heap[w.heap.size]? = some (.cells #[.int .i64 c, .int .i64 n, .int .i64 d, .int .i64 l, .int .i64 a] 23 (0, 0))) := kk_b
  have hy_b : w.heap.size < w1.heap.size := (Array.getElem?_eq_some_iff.1 kk_b).1
  have hb_0 : w1.cell? ⟨w.heap.size, 0, none⟩ = some (.int .i64 c) := (cell_of_row w1 (w.heap.size) 0 _ _ _ kk_b).trans rfl
  have hb_1 : w1.cell? ⟨w.heap.size, 1, none⟩ = some (.int .i64 n) := (cell_of_row w1 (w.heap.size) 1 _ _ _ kk_b).trans rfl
  have hb_2 : w1.cell? ⟨w.heap.size, 2, none⟩ = some (.int .i64 d) := (cell_of_row w1 (w.heap.size) 2 _ _ _ kk_b).trans rfl
  have hb_3 : w1.cell? ⟨w.heap.size, 3, none⟩ = some (.int .i64 l) := (cell_of_row w1 (w.heap.size) 3 _ _ _ kk_b).trans rfl
  have hb_4 : w1.cell? ⟨w.heap.size, 4, none⟩ = some (.int .i64 a) := (cell_of_row w1 (w.heap.size) 4 _ _ _ kk_b).trans rfl
  clear kk_b
  go_wp2_with fail
  go_at_call 11
  refine (HTk.out _).mono ?_
  rintro e w2 ⟨rfl, hB2⟩
  have HB2 : Hid (Below w.heap.size w w2) := below_then HB1.out (by first | omega | (simp; done) | (simp; omega)) hB2
  have hL2 : w.heap.size ≤ w2.heap.size := HB2.out.size
  clear hB2 K_b hy_b hb_0 hb_1 hb_2 hb_3 hb_4 hL1
  go_wp2_with fail
  go_at_call 19
  refine (sanity_any _).mono ?_
  rintro e w3 ⟨rfl, hB3⟩
  have kN_z := heap_alloc_new w2 (.cells #[.int .i64 0, .int .i64 0, .int .i64 0, .int .i64 0, .int .i64 0] 23)
  have HB3 : Hid (Below w.heap.size w w3) := below_then (HB2.out.alloc (by first | omega | (simp; done) | (simp; omega)) _) (by first | omega | (simp; done) | (simp; omega)) hB3
  have hL3 : w.heap.size ≤ w3.heap.size := HB3.out.size
  clear hB3 kN_z hL2
  go_wp2_with fail
  go_ret
  exact ⟨rfl, HB3.out⟩
set_option maxHeartbeats 1000000 in
set_option maxRecDepth 100000 in
theorem w5_e1_4 (c n d l a m u : Int) (w : World) (hv : V c n d l a) (hm1 : 1 ≤ m) (hm2 : m ≤ 1073741824) (hu : u < a) (ht : ∀ w : World, Calls Try.prog 11 #[bk c n d l a, .int .i64 1099511627776, .int .i64 m] w fun e w' => e = .returned (.tuple #[bk 0 0 0 0 0, .int .i64 4]) ∧ Below w.heap.size w w') (hw : ∀ w : World, Calls Try.prog 12 #[bk c n d l a, .int .i64 m] w fun e w' => e = .returned (.tuple #[.int .i64 0, .int .i64 4]) ∧ Below w.heap.size w w') :
    Calls Try.prog 5 #[bk c n d l a, .int .i64 m, .int .i64 u] w fun e w' => e = .returned (.bool true) ∧ Below w.heap.size w w' := by
  have HV : Hid (V c n d l a) := hv
  clear hv
  have HTk : Hid (∀ w : World, Calls Try.prog 11 #[bk c n d l a, .int .i64 1099511627776, .int .i64 m] w fun e w' => e = .returned (.tuple #[bk 0 0 0 0 0, .int .i64 4]) ∧ Below w.heap.size w w') := ht
  have HWt : Hid (∀ w : World, Calls Try.prog 12 #[bk c n d l a, .int .i64 m] w fun e w' => e = .returned (.tuple #[.int .i64 0, .int .i64 4]) ∧ Below w.heap.size w w') := hw
  clear ht hw
  have HB0 : Hid (Below w.heap.size w w) := Below.refl _ _
  have hL0 : w.heap.size ≤ w.heap.size := Nat.le_refl _
  go_enter Try.func5, Try.ntmps5
  go_wp2_with ((go_at_call 20; refine (valid20_any _ _ _ _ _ _ true (decide_eq_true HV.out).symm).mono ?_; rintro e w' ⟨rfl, rfl⟩))
  go_at_call 12
  refine (HWt.out _).mono ?_
  rintro e w1 ⟨rfl, hB1⟩
  have kN_b := heap_alloc_new w (.cells #[.int .i64 c, .int .i64 n, .int .i64 d, .int .i64 l, .int .i64 a] 23)
  have kN_b2 := heap_alloc_new (w.alloc (.cells #[.int .i64 c, .int .i64 n, .int .i64 d, .int .i64 l, .int .i64 a] 23)) (.cells #[.int .i64 c, .int .i64 n, .int .i64 d, .int .i64 l, .int .i64 a] 23)
  simp only [World.size_alloc] at kN_b2
  have kk_b : w1.heap[w.heap.size]? = some (.cells #[.int .i64 c, .int .i64 n, .int .i64 d, .int .i64 l, .int .i64 a] 23 (0, 0)) := blk_below (blk_alloc kN_b _) hB1
  have HB1 : Hid (Below w.heap.size w w1) := below_then ((HB0.out.alloc (by first | omega | (simp; done) | (simp; omega)) _).alloc (by first | omega | (simp; done) | (simp; omega)) _) (by first | omega | (simp; done) | (simp; omega)) hB1
  have hL1 : w.heap.size ≤ w1.heap.size := HB1.out.size
  clear hB1 kN_b kN_b2
  have K_b : Hid (w1.heap[w.heap.size]? = some (.cells #[.int .i64 c, .int .i64 n, .int .i64 d, .int .i64 l, .int .i64 a] 23 (0, 0))) := kk_b
  have hy_b : w.heap.size < w1.heap.size := (Array.getElem?_eq_some_iff.1 kk_b).1
  have hb_0 : w1.cell? ⟨w.heap.size, 0, none⟩ = some (.int .i64 c) := (cell_of_row w1 (w.heap.size) 0 _ _ _ kk_b).trans rfl
  have hb_1 : w1.cell? ⟨w.heap.size, 1, none⟩ = some (.int .i64 n) := (cell_of_row w1 (w.heap.size) 1 _ _ _ kk_b).trans rfl
  have hb_2 : w1.cell? ⟨w.heap.size, 2, none⟩ = some (.int .i64 d) := (cell_of_row w1 (w.heap.size) 2 _ _ _ kk_b).trans rfl
  have hb_3 : w1.cell? ⟨w.heap.size, 3, none⟩ = some (.int .i64 l) := (cell_of_row w1 (w.heap.size) 3 _ _ _ kk_b).trans rfl
  have hb_4 : w1.cell? ⟨w.heap.size, 4, none⟩ = some (.int .i64 a) := (cell_of_row w1 (w.heap.size) 4 _ _ _ kk_b).trans rfl
  clear kk_b
  go_wp2_with fail
  go_at_call 11
  refine (HTk.out _).mono ?_
  rintro e w2 ⟨rfl, hB2⟩
  have HB2 : Hid (Below w.heap.size w w2) := below_then HB1.out (by first | omega | (simp; done) | (simp; omega)) hB2
  have hL2 : w.heap.size ≤ w2.heap.size := HB2.out.size
  clear hB2 K_b hy_b hb_0 hb_1 hb_2 hb_3 hb_4 hL1
  go_wp2_with fail
  go_at_call 19
  refine (sanity_any _).mono ?_
  rintro e w3 ⟨rfl, hB3⟩
  have kN_z := heap_alloc_new w2 (.cells #[.int .i64 0, .int .i64 0, .int .i64 0, .int .i64 0, .int .i64 0] 23)
  have HB3 : Hid (Below w.heap.size w w3) := below_then (HB2.out.alloc (by first | omega | (simp; done) | (simp; omega)) _) (by first | omega | (simp; done) | (simp; omega)) hB3
  have hL3 : w.heap.size ≤ w3.heap.size := HB3.out.size
  clear hB3 kN_z hL2
  go_wp2_with fail
  go_ret
  exact ⟨rfl, HB3.out⟩
set_option maxHeartbeats 1000000 in
set_option maxRecDepth 100000 in
theorem w5_e2_2 (c n d l a m u : Int) (w : World) (hv : V c n d l a) (hm1 : 1 ≤ m) (hm2 : m ≤ 1073741824) (hu : a ≤ u) (hu2 : 1099511627776 < u) (ht : ∀ w : World, Calls Try.prog 11 #[bk c n d l a, .int .i64 1099511627776, .int .i64 m] w fun e w' => e = .returned (.tuple #[bk 0 0 0 0 0, .int .i64 4]) ∧ Below w.heap.size w w') (hw : ∀ w : World, Calls Try.prog 12 #[bk c n d l a, .int .i64 m] w fun e w' => e = .returned (.tuple #[.int .i64 0, .int .i64 2]) ∧ Below w.heap.size w w') :
    Calls Try.prog 5 #[bk c n d l a, .int .i64 m, .int .i64 u] w fun e w' => e = .returned (.bool true) ∧ Below w.heap.size w w' := by
  have HV : Hid (V c n d l a) := hv
  clear hv
  have HTk : Hid (∀ w : World, Calls Try.prog 11 #[bk c n d l a, .int .i64 1099511627776, .int .i64 m] w fun e w' => e = .returned (.tuple #[bk 0 0 0 0 0, .int .i64 4]) ∧ Below w.heap.size w w') := ht
  have HWt : Hid (∀ w : World, Calls Try.prog 12 #[bk c n d l a, .int .i64 m] w fun e w' => e = .returned (.tuple #[.int .i64 0, .int .i64 2]) ∧ Below w.heap.size w w') := hw
  clear ht hw
  have HB0 : Hid (Below w.heap.size w w) := Below.refl _ _
  have hL0 : w.heap.size ≤ w.heap.size := Nat.le_refl _
  go_enter Try.func5, Try.ntmps5
  go_wp2_with ((go_at_call 20; refine (valid20_any _ _ _ _ _ _ true (decide_eq_true HV.out).symm).mono ?_; rintro e w' ⟨rfl, rfl⟩))
  go_at_call 12
  refine (HWt.out _).mono ?_
  rintro e w1 ⟨rfl, hB1⟩
  have kN_b := heap_alloc_new w (.cells #[.int .i64 c, .int .i64 n, .int .i64 d, .int .i64 l, .int .i64 a] 23)
  have kN_b2 := heap_alloc_new (w.alloc (.cells #[.int .i64 c, .int .i64 n, .int .i64 d, .int .i64 l, .int .i64 a] 23)) (.cells #[.int .i64 c, .int .i64 n, .int .i64 d, .int .i64 l, .int .i64 a] 23)
  simp only [World.size_alloc] at kN_b2
  have kk_b : w1.heap[w.heap.size]? = some (.cells #[.int .i64 c, .int .i64 n, .int .i64 d, .int .i64 l, .int .i64 a] 23 (0, 0)) := blk_below (blk_alloc kN_b _) hB1
  have HB1 : Hid (Below w.heap.size w w1) := below_then ((HB0.out.alloc (by first | omega | (simp; done) | (simp; omega)) _).alloc (by first | omega | (simp; done) | (simp; omega)) _) (by first | omega | (simp; done) | (simp; omega)) hB1
  have hL1 : w.heap.size ≤ w1.heap.size := HB1.out.size
  clear hB1 kN_b kN_b2
  have K_b : Hid (w1.heap[w.heap.size]? = some (.cells #[.int .i64 c, .int .i64 n, .int .i64 d, .int .i64 l, .int .i64 a] 23 (0, 0))) := kk_b
  have hy_b : w.heap.size < w1.heap.size := (Array.getElem?_eq_some_iff.1 kk_b).1
  have hb_0 : w1.cell? ⟨w.heap.size, 0, none⟩ = some (.int .i64 c) := (cell_of_row w1 (w.heap.size) 0 _ _ _ kk_b).trans rfl
  have hb_1 : w1.cell? ⟨w.heap.size, 1, none⟩ = some (.int .i64 n) := (cell_of_row w1 (w.heap.size) 1 _ _ _ kk_b).trans rfl
  have hb_2 : w1.cell? ⟨w.heap.size, 2, none⟩ = some (.int .i64 d) := (cell_of_row w1 (w.heap.size) 2 _ _ _ kk_b).trans rfl
  have hb_3 : w1.cell? ⟨w.heap.size, 3, none⟩ = some (.int .i64 l) := (cell_of_row w1 (w.heap.size) 3 _ _ _ kk_b).trans rfl
  have hb_4 : w1.cell? ⟨w.heap.size, 4, none⟩ = some (.int .i64 a) := (cell_of_row w1 (w.heap.size) 4 _ _ _ kk_b).trans rfl
  clear kk_b
  go_wp2_with fail
  go_at_call 11
  refine (HTk.out _).mono ?_
  rintro e w2 ⟨rfl, hB2⟩
  have HB2 : Hid (Below w.heap.size w w2) := below_then HB1.out (by first | omega | (simp; done) | (simp; omega)) hB2
  have hL2 : w.heap.size ≤ w2.heap.size := HB2.out.size
  clear hB2 K_b hy_b hb_0 hb_1 hb_2 hb_3 hb_4 hL1
  go_wp2_with fail
  go_at_call 19
  refine (sanity_any _).mono ?_
  rintro e w3 ⟨rfl, hB3⟩
  have kN_z := heap_alloc_new w2 (.cells #[.int .i64 0, .int .i64 0, .int .i64 0, .int .i64 0, .int .i64 0] 23)
  have HB3 : Hid (Below w.heap.size w w3) := below_then (HB2.out.alloc (by first | omega | (simp; done) | (simp; omega)) _) (by first | omega | (simp; done) | (simp; omega)) hB3
  have hL3 : w.heap.size ≤ w3.heap.size := HB3.out.size
  clear hB3 kN_z hL2
  go_wp2_with fail
  go_ret
  exact ⟨rfl, HB3.out⟩
set_option maxHeartbeats 1000000 in
set_option maxRecDepth 100000 in
theorem w5_e2_4 (c n d l a m u : Int) (w : World) (hv : V c n d l a) (hm1 : 1 ≤ m) (hm2 : m ≤ 1073741824) (hu : a ≤ u) (hu2 : 1099511627776 < u) (ht : ∀ w : World, Calls Try.prog 11 #[bk c n d l a, .int .i64 1099511627776, .int .i64 m] w fun e w' => e = .returned (.tuple #[bk 0 0 0 0 0, .int .i64 4]) ∧ Below w.heap.size w w') (hw : ∀ w : World, Calls Try.prog 12 #[bk c n d l a, .int .i64 m] w fun e w' => e = .returned (.tuple #[.int .i64 0, .int .i64 4]) ∧ Below w.heap.size w w') :
    Calls Try.prog 5 #[bk c n d l a, .int .i64 m, .int .i64 u] w fun e w' => e = .returned (.bool true) ∧ Below w.heap.size w w' := by
  have HV : Hid (V c n d l a) := hv
  clear hv
  have HTk : Hid (∀ w : World, Calls Try.prog 11 #[bk c n d l a, .int .i64 1099511627776, .int .i64 m] w fun e w' => e = .returned (.tuple #[bk 0 0 0 0 0, .int .i64 4]) ∧ Below w.heap.size w w') := ht
  have HWt : Hid (∀ w : World, Calls Try.prog 12 #[bk c n d l a, .int .i64 m] w fun e w' => e = .returned (.tuple #[.int .i64 0, .int .i64 4]) ∧ Below w.heap.size w w') := hw
  clear ht hw
  have HB0 : Hid (Below w.heap.size w w) := Below.refl _ _
  have hL0 : w.heap.size ≤ w.heap.size := Nat.le_refl _
  go_enter Try.func5, Try.ntmps5
  go_wp2_with ((go_at_call 20; refine (valid20_any _ _ _ _ _ _ true (decide_eq_true HV.out).symm).mono ?_; rintro e w' ⟨rfl, rfl⟩))
  go_at_call 12
  refine (HWt.out _).mono ?_
  rintro e w1 ⟨rfl, hB1⟩
  have kN_b := heap_alloc_new w (.cells #[.int .i64 c, .int .i64 n, .int .i64 d, .int .i64 l, .int .i64 a] 23)
  have kN_b2 := heap_alloc_new (w.alloc (.cells #[.int .i64 c, .int .i64 n, .int .i64 d, .int .i64 l, .int .i64 a] 23)) (.cells #[.int .i64 c, .int .i64 n, .int .i64 d, .int .i64 l, .int .i64 a] 23)
  simp only [World.size_alloc] at kN_b2
  have kk_b : w1.heap[w.heap.size]? = some (.cells #[.int .i64 c, .int .i64 n, .int .i64 d, .int .i64 l, .int .i64 a] 23 (0, 0)) := blk_below (blk_alloc kN_b _) hB1
  have HB1 : Hid (Below w.heap.size w w1) := below_then ((HB0.out.alloc (by first | omega | (simp; done) | (simp; omega)) _).alloc (by first | omega | (simp; done) | (simp; omega)) _) (by first | omega | (simp; done) | (simp; omega)) hB1
  have hL1 : w.heap.size ≤ w1.heap.size := HB1.out.size
  clear hB1 kN_b kN_b2
  have K_b : Hid (w1.heap[w.heap.size]? = some (.cells #[.int .i64 c, .int .i64 n, .int .i64 d, .int .i64 l, .int .i64 a] 23 (0, 0))) := kk_b
  have hy_b : w.heap.size < w1.heap.size := (Array.getElem?_eq_some_iff.1 kk_b).1
  have hb_0 : w1.cell? ⟨w.heap.size, 0, none⟩ = some (.int .i64 c) := (cell_of_row w1 (w.heap.size) 0 _ _ _ kk_b).trans rfl
  have hb_1 : w1.cell? ⟨w.heap.size, 1, none⟩ = some (.int .i64 n) := (cell_of_row w1 (w.heap.size) 1 _ _ _ kk_b).trans rfl
  have hb_2 : w1.cell? ⟨w.heap.size, 2, none⟩ = some (.int .i64 d) := (cell_of_row w1 (w.heap.size) 2 _ _ _ kk_b).trans rfl
  have hb_3 : w1.cell? ⟨w.heap.size, 3, none⟩ = some (.int .i64 l) := (cell_of_row w1 (w.heap.size) 3 _ _ _ kk_b).trans rfl
  have hb_4 : w1.cell? ⟨w.heap.size, 4, none⟩ = some (.int .i64 a) := (cell_of_row w1 (w.heap.size) 4 _ _ _ kk_b).trans rfl
  clear kk_b
  go_wp2_with fail
  go_at_call 11
  refine (HTk.out _).mono ?_
  rintro e w2 ⟨rfl, hB2⟩
  have HB2 : Hid (Below w.heap.size w w2) := below_then HB1.out (by first | omega | (simp; done) | (simp; omega)) hB2
  have hL2 : w.heap.size ≤ w2.heap.size := HB2.out.size
  clear hB2 K_b hy_b hb_0 hb_1 hb_2 hb_3 hb_4 hL1
  go_wp2_with fail
  go_at_call 19
  refine (sanity_any _).mono ?_
  rintro e w3 ⟨rfl, hB3⟩
  have kN_z := heap_alloc_new w2 (.cells #[.int .i64 0, .int .i64 0, .int .i64 0, .int .i64 0, .int .i64 0] 23)
  have HB3 : Hid (Below w.heap.size w w3) := below_then (HB2.out.alloc (by first | omega | (simp; done) | (simp; omega)) _) (by first | omega | (simp; done) | (simp; omega)) hB3
  have hL3 : w.heap.size ≤ w3.heap.size := HB3.out.size
  clear hB3 kN_z hL2
  go_wp2_with fail
  go_ret
  exact ⟨rfl, HB3.out⟩
set_option maxHeartbeats 1000000 in
set_option maxRecDepth 100000 in
theorem w5_e3_2 (c n d l a m u : Int) (w : World) (hv : V c n d l a) (hm1 : 1 ≤ m) (hm2 : m ≤ 1073741824) (hu : a ≤ u) (hu2 : u ≤ 1099511627776) (ht : ∀ w : World, Calls Try.prog 11 #[bk c n d l a, .int .i64 u, .int .i64 m] w fun e w' => e = .returned (.tuple #[bk 0 0 0 0 0, .int .i64 4]) ∧ Below w.heap.size w w') (hw : ∀ w : World, Calls Try.prog 12 #[bk c n d l a, .int .i64 m] w fun e w' => e = .returned (.tuple #[.int .i64 0, .int .i64 2]) ∧ Below w.heap.size w w') :
    Calls Try.prog 5 #[bk c n d l a, .int .i64 m, .int .i64 u] w fun e w' => e = .returned (.bool true) ∧ Below w.heap.size w w' := by
  have HV : Hid (V c n d l a) := hv
  clear hv
  have HTk : Hid (∀ w : World, Calls Try.prog 11 #[bk c n d l a, .int .i64 u, .int .i64 m] w fun e w' => e = .returned (.tuple #[bk 0 0 0 0 0, .int .i64 4]) ∧ Below w.heap.size w w') := ht
  have HWt : Hid (∀ w : World, Calls Try.prog 12 #[bk c n d l a, .int .i64 m] w fun e w' => e = .returned (.tuple #[.int .i64 0, .int .i64 2]) ∧ Below w.heap.size w w') := hw
  clear ht hw
  have HB0 : Hid (Below w.heap.size w w) := Below.refl _ _
  have hL0 : w.heap.size ≤ w.heap.size := Nat.le_refl _
  go_enter Try.func5, Try.ntmps5
  go_wp2_with ((go_at_call 20; refine (valid20_any _ _ _ _ _ _ true (decide_eq_true HV.out).symm).mono ?_; rintro e w' ⟨rfl, rfl⟩))
  go_at_call 12
  refine (HWt.out _).mono ?_
  rintro e w1 ⟨rfl, hB1⟩
  have kN_b := heap_alloc_new w (.cells #[.int .i64 c, .int .i64 n, .int .i64 d, .int .i64 l, .int .i64 a] 23)
  have kN_b2 := heap_alloc_new (w.alloc (.cells #[.int .i64 c, .int .i64 n, .int .i64 d, .int .i64 l, .int .i64 a] 23)) (.cells #[.int .i64 c, .int .i64 n, .int .i64 d, .int .i64 l, .int .i64 a] 23)
  simp only [World.size_alloc] at kN_b2
  have kk_b : w1.heap[w.heap.size]? = some (.cells #[.int .i64 c, .int .i64 n, .int .i64 d, .int .i64 l, .int .i64 a] 23 (0, 0)) := blk_below (blk_alloc kN_b _) hB1
  have HB1 : Hid (Below w.heap.size w w1) := below_then ((HB0.out.alloc (by first | omega | (simp; done) | (simp; omega)) _).alloc (by first | omega | (simp; done) | (simp; omega)) _) (by first | omega | (simp; done) | (simp; omega)) hB1
  have hL1 : w.heap.size ≤ w1.heap.size := HB1.out.size
  clear hB1 kN_b kN_b2
  have K_b : Hid (w1.heap[w.heap.size]? = some (.cells #[.int .i64 c, .int .i64 n, .int .i64 d, .int .i64 l, .int .i64 a] 23 (0, 0))) := kk_b
  have hy_b : w.heap.size < w1.heap.size := (Array.getElem?_eq_some_iff.1 kk_b).1
  have hb_0 : w1.cell? ⟨w.heap.size, 0, none⟩ = some (.int .i64 c) := (cell_of_row w1 (w.heap.size) 0 _ _ _ kk_b).trans rfl
  have hb_1 : w1.cell? ⟨w.heap.size, 1, none⟩ = some (.int .i64 n) := (cell_of_row w1 (w.heap.size) 1 _ _ _ kk_b).trans rfl
  have hb_2 : w1.cell? ⟨w.heap.size, 2, none⟩ = some (.int .i64 d) := (cell_of_row w1 (w.heap.size) 2 _ _ _ kk_b).trans rfl
  have hb_3 : w1.cell? ⟨w.heap.size, 3, none⟩ = some (.int .i64 l) := (cell_of_row w1 (w.heap.size) 3 _ _ _ kk_b).trans rfl
  have hb_4 : w1.cell? ⟨w.heap.size, 4, none⟩ = some (.int .i64 a) := (cell_of_row w1 (w.heap.size) 4 _ _ _ kk_b).trans rfl
  clear kk_b
  go_wp2_with fail
  go_at_call 11
  refine (HTk.out _).mono ?_
  rintro e w2 ⟨rfl, hB2⟩
  have HB2 : Hid (Below w.heap.size w w2) := below_then HB1.out (by first | omega | (simp; done) | (simp; omega)) hB2
  have hL2 : w.heap.size ≤ w2.heap.size := HB2.out.size
  clear hB2 K_b hy_b hb_0 hb_1 hb_2 hb_3 hb_4 hL1
  go_wp2_with fail
  go_at_call 19
  refine (sanity_any _).mono ?_
  rintro e w3 ⟨rfl, hB3⟩
  have kN_z := heap_alloc_new w2 (.cells #[.int .i64 0, .int .i64 0, .int .i64 0, .int .i64 0, .int .i64 0] 23)
  have HB3 : Hid (Below w.heap.size w w3) := below_then (HB2.out.alloc (by first | omega | (simp; done) | (simp; omega)) _) (by first | omega | (simp; done) | (simp; omega)) hB3
  have hL3 : w.heap.size ≤ w3.heap.size := HB3.out.size
  clear hB3 kN_z hL2
  go_wp2_with fail
  go_ret
  exact ⟨rfl, HB3.out⟩
set_option maxHeartbeats 1000000 in
set_option maxRecDepth 100000 in
theorem w5_e3_4 (c n d l a m u : Int) (w : World) (hv : V c n d l a) (hm1 : 1 ≤ m) (hm2 : m ≤ 1073741824) (hu : a ≤ u) (hu2 : u ≤ 1099511627776) (ht : ∀ w : World, Calls Try.prog 11 #[bk c n d l a, .int .i64 u, .int .i64 m] w fun e w' => e = .returned (.tuple #[bk 0 0 0 0 0, .int .i64 4]) ∧ Below w.heap.size w w') (hw : ∀ w : World, Calls Try.prog 12 #[bk c n d l a, .int .i64 m] w fun e w' => e = .returned (.tuple #[.int .i64 0, .int .i64 4]) ∧ Below w.heap.size w w') :
    Calls Try.prog 5 #[bk c n d l a, .int .i64 m, .int .i64 u] w fun e w' => e = .returned (.bool true) ∧ Below w.heap.size w w' := by
  have HV : Hid (V c n d l a) := hv
  clear hv
  have HTk : Hid (∀ w : World, Calls Try.prog 11 #[bk c n d l a, .int .i64 u, .int .i64 m] w fun e w' => e = .returned (.tuple #[bk 0 0 0 0 0, .int .i64 4]) ∧ Below w.heap.size w w') := ht
  have HWt : Hid (∀ w : World, Calls Try.prog 12 #[bk c n d l a, .int .i64 m] w fun e w' => e = .returned (.tuple #[.int .i64 0, .int .i64 4]) ∧ Below w.heap.size w w') := hw
  clear ht hw
  have HB0 : Hid (Below w.heap.size w w) := Below.refl _ _
  have hL0 : w.heap.size ≤ w.heap.size := Nat.le_refl _
  go_enter Try.func5, Try.ntmps5
  go_wp2_with ((go_at_call 20; refine (valid20_any _ _ _ _ _ _ true (decide_eq_true HV.out).symm).mono ?_; rintro e w' ⟨rfl, rfl⟩))
  go_at_call 12
  refine (HWt.out _).mono ?_
  rintro e w1 ⟨rfl, hB1⟩
  have kN_b := heap_alloc_new w (.cells #[.int .i64 c, .int .i64 n, .int .i64 d, .int .i64 l, .int .i64 a] 23)
  have kN_b2 := heap_alloc_new (w.alloc (.cells #[.int .i64 c, .int .i64 n, .int .i64 d, .int .i64 l, .int .i64 a] 23)) (.cells #[.int .i64 c, .int .i64 n, .int .i64 d, .int .i64 l, .int .i64 a] 23)
  simp only [World.size_alloc] at kN_b2
  have kk_b : w1.heap[w.heap.size]? = some (.cells #[.int .i64 c, .int .i64 n, .int .i64 d, .int .i64 l, .int .i64 a] 23 (0, 0)) := blk_below (blk_alloc kN_b _) hB1
  have HB1 : Hid (Below w.heap.size w w1) := below_then ((HB0.out.alloc (by first | omega | (simp; done) | (simp; omega)) _).alloc (by first | omega | (simp; done) | (simp; omega)) _) (by first | omega | (simp; done) | (simp; omega)) hB1
  have hL1 : w.heap.size ≤ w1.heap.size := HB1.out.size
  clear hB1 kN_b kN_b2
  have K_b : Hid (w1.heap[w.heap.size]? = some (.cells #[.int .i64 c, .int .i64 n, .int .i64 d, .int .i64 l, .int .i64 a] 23 (0, 0))) := kk_b
  have hy_b : w.heap.size < w1.heap.size := (Array.getElem?_eq_some_iff.1 kk_b).1
  have hb_0 : w1.cell? ⟨w.heap.size, 0, none⟩ = some (.int .i64 c) := (cell_of_row w1 (w.heap.size) 0 _ _ _ kk_b).trans rfl
  have hb_1 : w1.cell? ⟨w.heap.size, 1, none⟩ = some (.int .i64 n) := (cell_of_row w1 (w.heap.size) 1 _ _ _ kk_b).trans rfl
  have hb_2 : w1.cell? ⟨w.heap.size, 2, none⟩ = some (.int .i64 d) := (cell_of_row w1 (w.heap.size) 2 _ _ _ kk_b).trans rfl
  have hb_3 : w1.cell? ⟨w.heap.size, 3, none⟩ = some (.int .i64 l) := (cell_of_row w1 (w.heap.size) 3 _ _ _ kk_b).trans rfl
  have hb_4 : w1.cell? ⟨w.heap.size, 4, none⟩ = some (.int .i64 a) := (cell_of_row w1 (w.heap.size) 4 _ _ _ kk_b).trans rfl
  clear kk_b
  go_wp2_with fail
  go_at_call 11
  refine (HTk.out _).mono ?_
  rintro e w2 ⟨rfl, hB2⟩
  have HB2 : Hid (Below w.heap.size w w2) := below_then HB1.out (by first | omega | (simp; done) | (simp; omega)) hB2
  have hL2 : w.heap.size ≤ w2.heap.size := HB2.out.size
  clear hB2 K_b hy_b hb_0 hb_1 hb_2 hb_3 hb_4 hL1
  go_wp2_with fail
  go_at_call 19
  refine (sanity_any _).mono ?_
  rintro e w3 ⟨rfl, hB3⟩
  have kN_z := heap_alloc_new w2 (.cells #[.int .i64 0, .int .i64 0, .int .i64 0, .int .i64 0, .int .i64 0] 23)
  have HB3 : Hid (Below w.heap.size w w3) := below_then (HB2.out.alloc (by first | omega | (simp; done) | (simp; omega)) _) (by first | omega | (simp; done) | (simp; omega)) hB3
  have hL3 : w.heap.size ≤ w3.heap.size := HB3.out.size
  clear hB3 kN_z hL2
  go_wp2_with fail
  go_ret
  exact ⟨rfl, HB3.out⟩
set_option maxHeartbeats 1000000 in
set_option maxRecDepth 100000 in
theorem w5_o1early (c n d l a m u t : Int) (w : World) (hv : V c n d l a) (hm1 : 1 ≤ m) (hm2 : m ≤ 1073741824) (ha0 : a ≤ t) (ht1 : t ≤ 1099511627776) (hu : t ≤ u) (ht : ∀ w : World, ∃ x : BK, Calls Try.prog 11 #[bk c n d l a, .int .i64 t, .int .i64 m] w fun e w' => e = .returned (.tuple #[bk x.c x.n x.d x.l x.a, .int .i64 0]) ∧ Below w.heap.size w w') (hw : ∀ w : World, Calls Try.prog 12 #[bk c n d l a, .int .i64 m] w fun e w' => e = .returned (.tuple #[.int .i64 t, .int .i64 0]) ∧ Below w.heap.size w w') (hx : t - 1 < a) :
    Calls Try.prog 5 #[bk c n d l a, .int .i64 m, .int .i64 u] w fun e w' => e = .returned (.bool true) ∧ Below w.heap.size w w' := by
  have ha1 : 0 ≤ a := hv.2.2.2.2.2.2.2.2.1
  have HV : Hid (V c n d l a) := hv
  clear hv
  have HTk : Hid (∀ w : World, ∃ x : BK, Calls Try.prog 11 #[bk c n d l a, .int .i64 t, .int .i64 m] w fun e w' => e = .returned (.tuple #[bk x.c x.n x.d x.l x.a, .int .i64 0]) ∧ Below w.heap.size w w') := ht
  have HWt : Hid (∀ w : World, Calls Try.prog 12 #[bk c n d l a, .int .i64 m] w fun e w' => e = .returned (.tuple #[.int .i64 t, .int .i64 0]) ∧ Below w.heap.size w w') := hw
  clear ht hw
  have HB0 : Hid (Below w.heap.size w w) := Below.refl _ _
  have hL0 : w.heap.size ≤ w.heap.size := Nat.le_refl _
  go_enter Try.func5, Try.ntmps5
  go_wp2_with ((go_at_call 20; refine (valid20_any _ _ _ _ _ _ true (decide_eq_true HV.out).symm).mono ?_; rintro e w' ⟨rfl, rfl⟩))
  go_at_call 12
  refine (HWt.out _).mono ?_
  rintro e w1 ⟨rfl, hB1⟩
  have kN_b := heap_alloc_new w (.cells #[.int .i64 c, .int .i64 n, .int .i64 d, .int .i64 l, .int .i64 a] 23)
  have kN_b2 := heap_alloc_new (w.alloc (.cells #[.int .i64 c, .int .i64 n, .int .i64 d, .int .i64 l, .int .i64 a] 23)) (.cells #[.int .i64 c, .int .i64 n, .int .i64 d, .int .i64 l, .int .i64 a] 23)
  simp only [World.size_alloc] at kN_b2
  have kk_b : w1.heap[w.heap.size]? = some (.cells #[.int .i64 c, .int .i64 n, .int .i64 d, .int .i64 l, .int .i64 a] 23 (0, 0)) := blk_below (blk_alloc kN_b _) hB1
  have HB1 : Hid (Below w.heap.size w w1) := below_then ((HB0.out.alloc (by first | omega | (simp; done) | (simp; omega)) _).alloc (by first | omega | (simp; done) | (simp; omega)) _) (by first | omega | (simp; done) | (simp; omega)) hB1
  have hL1 : w.heap.size ≤ w1.heap.size := HB1.out.size
  clear hB1 kN_b kN_b2
  have K_b : Hid (w1.heap[w.heap.size]? = some (.cells #[.int .i64 c, .int .i64 n, .int .i64 d, .int .i64 l, .int .i64 a] 23 (0, 0))) := kk_b
  have hy_b : w.heap.size < w1.heap.size := (Array.getElem?_eq_some_iff.1 kk_b).1
  have hb_0 : w1.cell? ⟨w.heap.size, 0, none⟩ = some (.int .i64 c) := (cell_of_row w1 (w.heap.size) 0 _ _ _ kk_b).trans rfl
  have hb_1 : w1.cell? ⟨w.heap.size, 1, none⟩ = some (.int .i64 n) := (cell_of_row w1 (w.heap.size) 1 _ _ _ kk_b).trans rfl
  have hb_2 : w1.cell? ⟨w.heap.size, 2, none⟩ = some (.int .i64 d) := (cell_of_row w1 (w.heap.size) 2 _ _ _ kk_b).trans rfl
  have hb_3 : w1.cell? ⟨w.heap.size, 3, none⟩ = some (.int .i64 l) := (cell_of_row w1 (w.heap.size) 3 _ _ _ kk_b).trans rfl
  have hb_4 : w1.cell? ⟨w.heap.size, 4, none⟩ = some (.int .i64 a) := (cell_of_row w1 (w.heap.size) 4 _ _ _ kk_b).trans rfl
  clear kk_b
  go_wp2_with fail
  obtain ⟨x, hx⟩ := HTk.out w1
  go_at_call 11
  refine (hx).mono ?_
  rintro e w2 ⟨rfl, hB2⟩
  have kk_b : w2.heap[w.heap.size]? = some (.cells #[.int .i64 c, .int .i64 n, .int .i64 d, .int .i64 l, .int .i64 a] 23 (0, 0)) := blk_below K_b.out hB2
  have HB2 : Hid (Below w.heap.size w w2) := below_then HB1.out (by first | omega | (simp; done) | (simp; omega)) hB2
  have hL2 : w.heap.size ≤ w2.heap.size := HB2.out.size
  clear hB2 K_b hy_b hb_0 hb_1 hb_2 hb_3 hb_4 hL1
  have K_b : Hid (w2.heap[w.heap.size]? = some (.cells #[.int .i64 c, .int .i64 n, .int .i64 d, .int .i64 l, .int .i64 a] 23 (0, 0))) := kk_b
  have hy_b : w.heap.size < w2.heap.size := (Array.getElem?_eq_some_iff.1 kk_b).1
  have hb_0 : w2.cell? ⟨w.heap.size, 0, none⟩ = some (.int .i64 c) := (cell_of_row w2 (w.heap.size) 0 _ _ _ kk_b).trans rfl
  have hb_1 : w2.cell? ⟨w.heap.size, 1, none⟩ = some (.int .i64 n) := (cell_of_row w2 (w.heap.size) 1 _ _ _ kk_b).trans rfl
  have hb_2 : w2.cell? ⟨w.heap.size, 2, none⟩ = some (.int .i64 d) := (cell_of_row w2 (w.heap.size) 2 _ _ _ kk_b).trans rfl
  have hb_3 : w2.cell? ⟨w.heap.size, 3, none⟩ = some (.int .i64 l) := (cell_of_row w2 (w.heap.size) 3 _ _ _ kk_b).trans rfl
  have hb_4 : w2.cell? ⟨w.heap.size, 4, none⟩ = some (.int .i64 a) := (cell_of_row w2 (w.heap.size) 4 _ _ _ kk_b).trans rfl
  clear kk_b
  clear hx
  go_wp2_with fail
  go_at_call 19
  refine (sanity_any _).mono ?_
  rintro e w3 ⟨rfl, hB3⟩
  have kN_y := heap_alloc_new w2 (.cells #[.int .i64 x.c, .int .i64 x.n, .int .i64 x.d, .int .i64 x.l, .int .i64 x.a] 23)
  have HB3 : Hid (Below w.heap.size w w3) := below_then (HB2.out.alloc (by first | omega | (simp; done) | (simp; omega)) _) (by first | omega | (simp; done) | (simp; omega)) hB3
  have hL3 : w.heap.size ≤ w3.heap.size := HB3.out.size
  clear hB3 K_b hy_b hb_0 hb_1 hb_2 hb_3 hb_4 kN_y hL2
  go_wp2_with fail
  go_ret
  exact ⟨rfl, HB3.out⟩
set_option maxHeartbeats 1000000 in
set_option maxRecDepth 100000 in
theorem w5_o1late (c n d l a m u t : Int) (w : World) (hv : V c n d l a) (hm1 : 1 ≤ m) (hm2 : m ≤ 1073741824) (ha0 : a ≤ t) (ht1 : t ≤ 1099511627776) (hu : t ≤ u) (ht : ∀ w : World, ∃ x : BK, Calls Try.prog 11 #[bk c n d l a, .int .i64 t, .int .i64 m] w fun e w' => e = .returned (.tuple #[bk x.c x.n x.d x.l x.a, .int .i64 0]) ∧ Below w.heap.size w w') (hw : ∀ w : World, Calls Try.prog 12 #[bk c n d l a, .int .i64 m] w fun e w' => e = .returned (.tuple #[.int .i64 t, .int .i64 0]) ∧ Below w.heap.size w w') (hx : a ≤ (t - 1)) (hs : ∀ w : World, Calls Try.prog 11 #[bk c n d l a, .int .i64 (t - 1), .int .i64 m] w fun e w' => e = .returned (.tuple #[bk 0 0 0 0 0, .int .i64 4]) ∧ Below w.heap.size w w') :
    Calls Try.prog 5 #[bk c n d l a, .int .i64 m, .int .i64 u] w fun e w' => e = .returned (.bool true) ∧ Below w.heap.size w w' := by
  have ha1 : 0 ≤ a := hv.2.2.2.2.2.2.2.2.1
  have HV : Hid (V c n d l a) := hv
  clear hv
  have HTk : Hid (∀ w : World, ∃ x : BK, Calls Try.prog 11 #[bk c n d l a, .int .i64 t, .int .i64 m] w fun e w' => e = .returned (.tuple #[bk x.c x.n x.d x.l x.a, .int .i64 0]) ∧ Below w.heap.size w w') := ht
  have HWt : Hid (∀ w : World, Calls Try.prog 12 #[bk c n d l a, .int .i64 m] w fun e w' => e = .returned (.tuple #[.int .i64 t, .int .i64 0]) ∧ Below w.heap.size w w') := hw
  clear ht hw
  have HTs : Hid (∀ w : World, Calls Try.prog 11 #[bk c n d l a, .int .i64 (t - 1), .int .i64 m] w fun e w' => e = .returned (.tuple #[bk 0 0 0 0 0, .int .i64 4]) ∧ Below w.heap.size w w') := hs
  clear hs
  have HB0 : Hid (Below w.heap.size w w) := Below.refl _ _
  have hL0 : w.heap.size ≤ w.heap.size := Nat.le_refl _
  go_enter Try.func5, Try.ntmps5
  go_wp2_with ((go_at_call 20; refine (valid20_any _ _ _ _ _ _ true (decide_eq_true HV.out).symm).mono ?_; rintro e w' ⟨rfl, rfl⟩))
  go_at_call 12
  refine (HWt.out _).mono ?_
  rintro e w1 ⟨rfl, hB1⟩
  have kN_b := heap_alloc_new w (.cells #[.int .i64 c, .int .i64 n, .int .i64 d, .int .i64 l, .int .i64 a] 23)
  have kN_b2 := heap_alloc_new (w.alloc (.cells #[.int .i64 c, .int .i64 n, .int .i64 d, .int .i64 l, .int .i64 a] 23)) (.cells #[.int .i64 c, .int .i64 n, .int .i64 d, .int .i64 l, .int .i64 a] 23)
  simp only [World.size_alloc] at kN_b2
  have kk_b : w1.heap[w.heap.size]? = some (.cells #[.int .i64 c, .int .i64 n, .int .i64 d, .int .i64 l, .int .i64 a] 23 (0, 0)) := blk_below (blk_alloc kN_b _) hB1
  have HB1 : Hid (Below w.heap.size w w1) := below_then ((HB0.out.alloc (by first | omega | (simp; done) | (simp; omega)) _).alloc (by first | omega | (simp; done) | (simp; omega)) _) (by first | omega | (simp; done) | (simp; omega)) hB1
  have hL1 : w.heap.size ≤ w1.heap.size := HB1.out.size
  clear hB1 kN_b kN_b2
  have K_b : Hid (w1.heap[w.heap.size]? = some (.cells #[.int .i64 c, .int .i64 n, .int .i64 d, .int .i64 l, .int .i64 a] 23 (0, 0))) := kk_b
  have hy_b : w.heap.size < w1.heap.size := (Array.getElem?_eq_some_iff.1 kk_b).1
  have hb_0 : w1.cell? ⟨w.heap.size, 0, none⟩ = some (.int .i64 c) := (cell_of_row w1 (w.heap.size) 0 _ _ _ kk_b).trans rfl
  have hb_1 : w1.cell? ⟨w.heap.size, 1, none⟩ = some (.int .i64 n) := (cell_of_row w1 (w.heap.size) 1 _ _ _ kk_b).trans rfl
  have hb_2 : w1.cell? ⟨w.heap.size, 2, none⟩ = some (.int .i64 d) := (cell_of_row w1 (w.heap.size) 2 _ _ _ kk_b).trans rfl
  have hb_3 : w1.cell? ⟨w.heap.size, 3, none⟩ = some (.int .i64 l) := (cell_of_row w1 (w.heap.size) 3 _ _ _ kk_b).trans rfl
  have hb_4 : w1.cell? ⟨w.heap.size, 4, none⟩ = some (.int .i64 a) := (cell_of_row w1 (w.heap.size) 4 _ _ _ kk_b).trans rfl
  clear kk_b
  go_wp2_with fail
  obtain ⟨x, hx⟩ := HTk.out w1
  go_at_call 11
  refine (hx).mono ?_
  rintro e w2 ⟨rfl, hB2⟩
  have kk_b : w2.heap[w.heap.size]? = some (.cells #[.int .i64 c, .int .i64 n, .int .i64 d, .int .i64 l, .int .i64 a] 23 (0, 0)) := blk_below K_b.out hB2
  have HB2 : Hid (Below w.heap.size w w2) := below_then HB1.out (by first | omega | (simp; done) | (simp; omega)) hB2
  have hL2 : w.heap.size ≤ w2.heap.size := HB2.out.size
  clear hB2 K_b hy_b hb_0 hb_1 hb_2 hb_3 hb_4 hL1
  have K_b : Hid (w2.heap[w.heap.size]? = some (.cells #[.int .i64 c, .int .i64 n, .int .i64 d, .int .i64 l, .int .i64 a] 23 (0, 0))) := kk_b
  have hy_b : w.heap.size < w2.heap.size := (Array.getElem?_eq_some_iff.1 kk_b).1
  have hb_0 : w2.cell? ⟨w.heap.size, 0, none⟩ = some (.int .i64 c) := (cell_of_row w2 (w.heap.size) 0 _ _ _ kk_b).trans rfl
  have hb_1 : w2.cell? ⟨w.heap.size, 1, none⟩ = some (.int .i64 n) := (cell_of_row w2 (w.heap.size) 1 _ _ _ kk_b).trans rfl
  have hb_2 : w2.cell? ⟨w.heap.size, 2, none⟩ = some (.int .i64 d) := (cell_of_row w2 (w.heap.size) 2 _ _ _ kk_b).trans rfl
  have hb_3 : w2.cell? ⟨w.heap.size, 3, none⟩ = some (.int .i64 l) := (cell_of_row w2 (w.heap.size) 3 _ _ _ kk_b).trans rfl
  have hb_4 : w2.cell? ⟨w.heap.size, 4, none⟩ = some (.int .i64 a) := (cell_of_row w2 (w.heap.size) 4 _ _ _ kk_b).trans rfl
  clear kk_b
  clear hx
  go_wp2_with fail
  go_at_call 11
  refine (HTs.out _).mono ?_
  rintro e w3 ⟨rfl, hB3⟩
  have kN_y := heap_alloc_new w2 (.cells #[.int .i64 x.c, .int .i64 x.n, .int .i64 x.d, .int .i64 x.l, .int .i64 x.a] 23)
  have HB3 : Hid (Below w.heap.size w w3) := below_then (HB2.out.alloc (by first | omega | (simp; done) | (simp; omega)) _) (by first | omega | (simp; done) | (simp; omega)) hB3
  have hL3 : w.heap.size ≤ w3.heap.size := HB3.out.size
  clear hB3 K_b hy_b hb_0 hb_1 hb_2 hb_3 hb_4 kN_y hL2
  go_wp2_with fail
  go_at_call 19
  refine (sanity_any _).mono ?_
  rintro e w4 ⟨rfl, hB4⟩
  have kN_z := heap_alloc_new w3 (.cells #[.int .i64 0, .int .i64 0, .int .i64 0, .int .i64 0, .int .i64 0] 23)
  have HB4 : Hid (Below w.heap.size w w4) := below_then (HB3.out.alloc (by first | omega | (simp; done) | (simp; omega)) _) (by first | omega | (simp; done) | (simp; omega)) hB4
  have hL4 : w.heap.size ≤ w4.heap.size := HB4.out.size
  clear hB4 kN_z hL3
  go_wp2_with fail
  go_ret
  exact ⟨rfl, HB4.out⟩
set_option maxHeartbeats 1000000 in
set_option maxRecDepth 100000 in
theorem w5_o2early (c n d l a m u t : Int) (w : World) (hv : V c n d l a) (hm1 : 1 ≤ m) (hm2 : m ≤ 1073741824) (ha0 : a ≤ t) (ht1 : t ≤ 1099511627776) (hu : u < t) (hu2 : u < a) (ht : ∀ w : World, ∃ x : BK, Calls Try.prog 11 #[bk c n d l a, .int .i64 t, .int .i64 m] w fun e w' => e = .returned (.tuple #[bk x.c x.n x.d x.l x.a, .int .i64 0]) ∧ Below w.heap.size w w') (hw : ∀ w : World, Calls Try.prog 12 #[bk c n d l a, .int .i64 m] w fun e w' => e = .returned (.tuple #[.int .i64 t, .int .i64 0]) ∧ Below w.heap.size w w') (hx : t - 1 < a) :
    Calls Try.prog 5 #[bk c n d l a, .int .i64 m, .int .i64 u] w fun e w' => e = .returned (.bool true) ∧ Below w.heap.size w w' := by
  have ha1 : 0 ≤ a := hv.2.2.2.2.2.2.2.2.1
  have HV : Hid (V c n d l a) := hv
  clear hv
  have HTk : Hid (∀ w : World, ∃ x : BK, Calls Try.prog 11 #[bk c n d l a, .int .i64 t, .int .i64 m] w fun e w' => e = .returned (.tuple #[bk x.c x.n x.d x.l x.a, .int .i64 0]) ∧ Below w.heap.size w w') := ht
  have HWt : Hid (∀ w : World, Calls Try.prog 12 #[bk c n d l a, .int .i64 m] w fun e w' => e = .returned (.tuple #[.int .i64 t, .int .i64 0]) ∧ Below w.heap.size w w') := hw
  clear ht hw
  have HB0 : Hid (Below w.heap.size w w) := Below.refl _ _
  have hL0 : w.heap.size ≤ w.heap.size := Nat.le_refl _
  go_enter Try.func5, Try.ntmps5
  go_wp2_with ((go_at_call 20; refine (valid20_any _ _ _ _ _ _ true (decide_eq_true HV.out).symm).mono ?_; rintro e w' ⟨rfl, rfl⟩))
  go_at_call 12
  refine (HWt.out _).mono ?_
  rintro e w1 ⟨rfl, hB1⟩
  have kN_b := heap_alloc_new w (.cells #[.int .i64 c, .int .i64 n, .int .i64 d, .int .i64 l, .int .i64 a] 23)
  have kN_b2 := heap_alloc_new (w.alloc (.cells #[.int .i64 c, .int .i64 n, .int .i64 d, .int .i64 l, .int .i64 a] 23)) (.cells #[.int .i64 c, .int .i64 n, .int .i64 d, .int .i64 l, .int .i64 a] 23)
  simp only [World.size_alloc] at kN_b2
  have kk_b : w1.heap[w.heap.size]? = some (.cells #[.int .i64 c, .int .i64 n, .int .i64 d, .int .i64 l, .int .i64 a] 23 (0, 0)) := blk_below (blk_alloc kN_b _) hB1
  have HB1 : Hid (Below w.heap.size w w1) := below_then ((HB0.out.alloc (by first | omega | (simp; done) | (simp; omega)) _).alloc (by first | omega | (simp; done) | (simp; omega)) _) (by first | omega | (simp; done) | (simp; omega)) hB1
  have hL1 : w.heap.size ≤ w1.heap.size := HB1.out.size
  clear hB1 kN_b kN_b2
  have K_b : Hid (w1.heap[w.heap.size]? = some (.cells #[.int .i64 c, .int .i64 n, .int .i64 d, .int .i64 l, .int .i64 a] 23 (0, 0))) := kk_b
  have hy_b : w.heap.size < w1.heap.size := (Array.getElem?_eq_some_iff.1 kk_b).1
  have hb_0 : w1.cell? ⟨w.heap.size, 0, none⟩ = some (.int .i64 c) := (cell_of_row w1 (w.heap.size) 0 _ _ _ kk_b).trans rfl
  have hb_1 : w1.cell? ⟨w.heap.size, 1, none⟩ = some (.int .i64 n) := (cell_of_row w1 (w.heap.size) 1 _ _ _ kk_b).trans rfl
  have hb_2 : w1.cell? ⟨w.heap.size, 2, none⟩ = some (.int .i64 d) := (cell_of_row w1 (w.heap.size) 2 _ _ _ kk_b).trans rfl
  have hb_3 : w1.cell? ⟨w.heap.size, 3, none⟩ = some (.int .i64 l) := (cell_of_row w1 (w.heap.size) 3 _ _ _ kk_b).trans rfl
  have hb_4 : w1.cell? ⟨w.heap.size, 4, none⟩ = some (.int .i64 a) := (cell_of_row w1 (w.heap.size) 4 _ _ _ kk_b).trans rfl
  clear kk_b
  go_wp2_with fail
  obtain ⟨x, hx⟩ := HTk.out w1
  go_at_call 11
  refine (hx).mono ?_
  rintro e w2 ⟨rfl, hB2⟩
  have kk_b : w2.heap[w.heap.size]? = some (.cells #[.int .i64 c, .int .i64 n, .int .i64 d, .int .i64 l, .int .i64 a] 23 (0, 0)) := blk_below K_b.out hB2
  have HB2 : Hid (Below w.heap.size w w2) := below_then HB1.out (by first | omega | (simp; done) | (simp; omega)) hB2
  have hL2 : w.heap.size ≤ w2.heap.size := HB2.out.size
  clear hB2 K_b hy_b hb_0 hb_1 hb_2 hb_3 hb_4 hL1
  have K_b : Hid (w2.heap[w.heap.size]? = some (.cells #[.int .i64 c, .int .i64 n, .int .i64 d, .int .i64 l, .int .i64 a] 23 (0, 0))) := kk_b
  have hy_b : w.heap.size < w2.heap.size := (Array.getElem?_eq_some_iff.1 kk_b).1
  have hb_0 : w2.cell? ⟨w.heap.size, 0, none⟩ = some (.int .i64 c) := (cell_of_row w2 (w.heap.size) 0 _ _ _ kk_b).trans rfl
  have hb_1 : w2.cell? ⟨w.heap.size, 1, none⟩ = some (.int .i64 n) := (cell_of_row w2 (w.heap.size) 1 _ _ _ kk_b).trans rfl
  have hb_2 : w2.cell? ⟨w.heap.size, 2, none⟩ = some (.int .i64 d) := (cell_of_row w2 (w.heap.size) 2 _ _ _ kk_b).trans rfl
  have hb_3 : w2.cell? ⟨w.heap.size, 3, none⟩ = some (.int .i64 l) := (cell_of_row w2 (w.heap.size) 3 _ _ _ kk_b).trans rfl
  have hb_4 : w2.cell? ⟨w.heap.size, 4, none⟩ = some (.int .i64 a) := (cell_of_row w2 (w.heap.size) 4 _ _ _ kk_b).trans rfl
  clear kk_b
  clear hx
  go_wp2_with fail
  go_at_call 19
  refine (sanity_any _).mono ?_
  rintro e w3 ⟨rfl, hB3⟩
  have kN_y := heap_alloc_new w2 (.cells #[.int .i64 x.c, .int .i64 x.n, .int .i64 x.d, .int .i64 x.l, .int .i64 x.a] 23)
  have HB3 : Hid (Below w.heap.size w w3) := below_then (HB2.out.alloc (by first | omega | (simp; done) | (simp; omega)) _) (by first | omega | (simp; done) | (simp; omega)) hB3
  have hL3 : w.heap.size ≤ w3.heap.size := HB3.out.size
  clear hB3 K_b hy_b hb_0 hb_1 hb_2 hb_3 hb_4 kN_y hL2
  go_wp2_with fail
  go_ret
  exact ⟨rfl, HB3.out⟩
set_option maxHeartbeats 1000000 in
set_option maxRecDepth 100000 in
theorem w5_o2late (c n d l a m u t : Int) (w : World) (hv : V c n d l a) (hm1 : 1 ≤ m) (hm2 : m ≤ 1073741824) (ha0 : a ≤ t) (ht1 : t ≤ 1099511627776) (hu : u < t) (hu2 : u < a) (ht : ∀ w : World, ∃ x : BK, Calls Try.prog 11 #[bk c n d l a, .int .i64 t, .int .i64 m] w fun e w' => e = .returned (.tuple #[bk x.c x.n x.d x.l x.a, .int .i64 0]) ∧ Below w.heap.size w w') (hw : ∀ w : World, Calls Try.prog 12 #[bk c n d l a, .int .i64 m] w fun e w' => e = .returned (.tuple #[.int .i64 t, .int .i64 0]) ∧ Below w.heap.size w w') (hx : a ≤ (t - 1)) (hs : ∀ w : World, Calls Try.prog 11 #[bk c n d l a, .int .i64 (t - 1), .int .i64 m] w fun e w' => e = .returned (.tuple #[bk 0 0 0 0 0, .int .i64 4]) ∧ Below w.heap.size w w') :
    Calls Try.prog 5 #[bk c n d l a, .int .i64 m, .int .i64 u] w fun e w' => e = .returned (.bool true) ∧ Below w.heap.size w w' := by
  have ha1 : 0 ≤ a := hv.2.2.2.2.2.2.2.2.1
  have HV : Hid (V c n d l a) := hv
  clear hv
  have HTk : Hid (∀ w : World, ∃ x : BK, Calls Try.prog 11 #[bk c n d l a, .int .i64 t, .int .i64 m] w fun e w' => e = .returned (.tuple #[bk x.c x.n x.d x.l x.a, .int .i64 0]) ∧ Below w.heap.size w w') := ht
  have HWt : Hid (∀ w : World, Calls Try.prog 12 #[bk c n d l a, .int .i64 m] w fun e w' => e = .returned (.tuple #[.int .i64 t, .int .i64 0]) ∧ Below w.heap.size w w') := hw
  clear ht hw
  have HTs : Hid (∀ w : World, Calls Try.prog 11 #[bk c n d l a, .int .i64 (t - 1), .int .i64 m] w fun e w' => e = .returned (.tuple #[bk 0 0 0 0 0, .int .i64 4]) ∧ Below w.heap.size w w') := hs
  clear hs
  have HB0 : Hid (Below w.heap.size w w) := Below.refl _ _
  have hL0 : w.heap.size ≤ w.heap.size := Nat.le_refl _
  go_enter Try.func5, Try.ntmps5
  go_wp2_with ((go_at_call 20; refine (valid20_any _ _ _ _ _ _ true (decide_eq_true HV.out).symm).mono ?_; rintro e w' ⟨rfl, rfl⟩))
  go_at_call 12
  refine (HWt.out _).mono ?_
  rintro e w1 ⟨rfl, hB1⟩
  have kN_b := heap_alloc_new w (.cells #[.int .i64 c, .int .i64 n, .int .i64 d, .int .i64 l, .int .i64 a] 23)
  have kN_b2 := heap_alloc_new (w.alloc (.cells #[.int .i64 c, .int .i64 n, .int .i64 d, .int .i64 l, .int .i64 a] 23)) (.cells #[.int .i64 c, .int .i64 n, .int .i64 d, .int .i64 l, .int .i64 a] 23)
  simp only [World.size_alloc] at kN_b2
  have kk_b : w1.heap[w.heap.size]? = some (.cells #[.int .i64 c, .int .i64 n, .int .i64 d, .int .i64 l, .int .i64 a] 23 (0, 0)) := blk_below (blk_alloc kN_b _) hB1
  have HB1 : Hid (Below w.heap.size w w1) := below_then ((HB0.out.alloc (by first | omega | (simp; done) | (simp; omega)) _).alloc (by first | omega | (simp; done) | (simp; omega)) _) (by first | omega | (simp; done) | (simp; omega)) hB1
  have hL1 : w.heap.size ≤ w1.heap.size := HB1.out.size
  clear hB1 kN_b kN_b2
  have K_b : Hid (w1.heap[w.heap.size]? = some (.cells #[.int .i64 c, .int .i64 n, .int .i64 d, .int .i64 l, .int .i64 a] 23 (0, 0))) := kk_b
  have hy_b : w.heap.size < w1.heap.size := (Array.getElem?_eq_some_iff.1 kk_b).1
  have hb_0 : w1.cell? ⟨w.heap.size, 0, none⟩ = some (.int .i64 c) := (cell_of_row w1 (w.heap.size) 0 _ _ _ kk_b).trans rfl
  have hb_1 : w1.cell? ⟨w.heap.size, 1, none⟩ = some (.int .i64 n) := (cell_of_row w1 (w.heap.size) 1 _ _ _ kk_b).trans rfl
  have hb_2 : w1.cell? ⟨w.heap.size, 2, none⟩ = some (.int .i64 d) := (cell_of_row w1 (w.heap.size) 2 _ _ _ kk_b).trans rfl
  have hb_3 : w1.cell? ⟨w.heap.size, 3, none⟩ = some (.int .i64 l) := (cell_of_row w1 (w.heap.size) 3 _ _ _ kk_b).trans rfl
  have hb_4 : w1.cell? ⟨w.heap.size, 4, none⟩ = some (.int .i64 a) := (cell_of_row w1 (w.heap.size) 4 _ _ _ kk_b).trans rfl
  clear kk_b
  go_wp2_with fail
  obtain ⟨x, hx⟩ := HTk.out w1
  go_at_call 11
  refine (hx).mono ?_
  rintro e w2 ⟨rfl, hB2⟩
  have kk_b : w2.heap[w.heap.size]? = some (.cells #[.int .i64 c, .int .i64 n, .int .i64 d, .int .i64 l, .int .i64 a] 23 (0, 0)) := blk_below K_b.out hB2
  have HB2 : Hid (Below w.heap.size w w2) := below_then HB1.out (by first | omega | (simp; done) | (simp; omega)) hB2
  have hL2 : w.heap.size ≤ w2.heap.size := HB2.out.size
  clear hB2 K_b hy_b hb_0 hb_1 hb_2 hb_3 hb_4 hL1
  have K_b : Hid (w2.heap[w.heap.size]? = some (.cells #[.int .i64 c, .int .i64 n, .int .i64 d, .int .i64 l, .int .i64 a] 23 (0, 0))) := kk_b
  have hy_b : w.heap.size < w2.heap.size := (Array.getElem?_eq_some_iff.1 kk_b).1
  have hb_0 : w2.cell? ⟨w.heap.size, 0, none⟩ = some (.int .i64 c) := (cell_of_row w2 (w.heap.size) 0 _ _ _ kk_b).trans rfl
  have hb_1 : w2.cell? ⟨w.heap.size, 1, none⟩ = some (.int .i64 n) := (cell_of_row w2 (w.heap.size) 1 _ _ _ kk_b).trans rfl
  have hb_2 : w2.cell? ⟨w.heap.size, 2, none⟩ = some (.int .i64 d) := (cell_of_row w2 (w.heap.size) 2 _ _ _ kk_b).trans rfl
  have hb_3 : w2.cell? ⟨w.heap.size, 3, none⟩ = some (.int .i64 l) := (cell_of_row w2 (w.heap.size) 3 _ _ _ kk_b).trans rfl
  have hb_4 : w2.cell? ⟨w.heap.size, 4, none⟩ = some (.int .i64 a) := (cell_of_row w2 (w.heap.size) 4 _ _ _ kk_b).trans rfl
  clear kk_b
  clear hx
  go_wp2_with fail
  go_at_call 11
  refine (HTs.out _).mono ?_
  rintro e w3 ⟨rfl, hB3⟩
  have kN_y := heap_alloc_new w2 (.cells #[.int .i64 x.c, .int .i64 x.n, .int .i64 x.d, .int .i64 x.l, .int .i64 x.a] 23)
  have HB3 : Hid (Below w.heap.size w w3) := below_then (HB2.out.alloc (by first | omega | (simp; done) | (simp; omega)) _) (by first | omega | (simp; done) | (simp; omega)) hB3
  have hL3 : w.heap.size ≤ w3.heap.size := HB3.out.size
  clear hB3 K_b hy_b hb_0 hb_1 hb_2 hb_3 hb_4 kN_y hL2
  go_wp2_with fail
  go_at_call 19
  refine (sanity_any _).mono ?_
  rintro e w4 ⟨rfl, hB4⟩
  have kN_z := heap_alloc_new w3 (.cells #[.int .i64 0, .int .i64 0, .int .i64 0, .int .i64 0, .int .i64 0] 23)
  have HB4 : Hid (Below w.heap.size w w4) := below_then (HB3.out.alloc (by first | omega | (simp; done) | (simp; omega)) _) (by first | omega | (simp; done) | (simp; omega)) hB4
  have hL4 : w.heap.size ≤ w4.heap.size := HB4.out.size
  clear hB4 kN_z hL3
  go_wp2_with fail
  go_ret
  exact ⟨rfl, HB4.out⟩
set_option maxHeartbeats 1000000 in
set_option maxRecDepth 100000 in
theorem w5_o3late (c n d l a m u t : Int) (w : World) (hv : V c n d l a) (hm1 : 1 ≤ m) (hm2 : m ≤ 1073741824) (ha0 : a ≤ t) (ht1 : t ≤ 1099511627776) (hu : u < t) (hu2 : a ≤ u) (ht : ∀ w : World, ∃ x : BK, Calls Try.prog 11 #[bk c n d l a, .int .i64 t, .int .i64 m] w fun e w' => e = .returned (.tuple #[bk x.c x.n x.d x.l x.a, .int .i64 0]) ∧ Below w.heap.size w w') (hw : ∀ w : World, Calls Try.prog 12 #[bk c n d l a, .int .i64 m] w fun e w' => e = .returned (.tuple #[.int .i64 t, .int .i64 0]) ∧ Below w.heap.size w w') (hx : a ≤ u) (hs : ∀ w : World, Calls Try.prog 11 #[bk c n d l a, .int .i64 u, .int .i64 m] w fun e w' => e = .returned (.tuple #[bk 0 0 0 0 0, .int .i64 4]) ∧ Below w.heap.size w w') :
    Calls Try.prog 5 #[bk c n d l a, .int .i64 m, .int .i64 u] w fun e w' => e = .returned (.bool true) ∧ Below w.heap.size w w' := by
  have ha1 : 0 ≤ a := hv.2.2.2.2.2.2.2.2.1
  have HV : Hid (V c n d l a) := hv
  clear hv
  have HTk : Hid (∀ w : World, ∃ x : BK, Calls Try.prog 11 #[bk c n d l a, .int .i64 t, .int .i64 m] w fun e w' => e = .returned (.tuple #[bk x.c x.n x.d x.l x.a, .int .i64 0]) ∧ Below w.heap.size w w') := ht
  have HWt : Hid (∀ w : World, Calls Try.prog 12 #[bk c n d l a, .int .i64 m] w fun e w' => e = .returned (.tuple #[.int .i64 t, .int .i64 0]) ∧ Below w.heap.size w w') := hw
  clear ht hw
  have HTs : Hid (∀ w : World, Calls Try.prog 11 #[bk c n d l a, .int .i64 u, .int .i64 m] w fun e w' => e = .returned (.tuple #[bk 0 0 0 0 0, .int .i64 4]) ∧ Below w.heap.size w w') := hs
  clear hs
  have HB0 : Hid (Below w.heap.size w w) := Below.refl _ _
  have hL0 : w.heap.size ≤ w.heap.size := Nat.le_refl _
  go_enter Try.func5, Try.ntmps5
  go_wp2_with ((go_at_call 20; refine (valid20_any _ _ _ _ _ _ true (decide_eq_true HV.out).symm).mono ?_; rintro e w' ⟨rfl, rfl⟩))
  go_at_call 12
  refine (HWt.out _).mono ?_
  rintro e w1 ⟨rfl, hB1⟩
  have kN_b := heap_alloc_new w (.cells #[.int .i64 c, .int .i64 n, .int .i64 d, .int .i64 l, .int .i64 a] 23)
  have kN_b2 := heap_alloc_new (w.alloc (.cells #[.int .i64 c, .int .i64 n, .int .i64 d, .int .i64 l, .int .i64 a] 23)) (.cells #[.int .i64 c, .int .i64 n, .int .i64 d, .int .i64 l, .int .i64 a] 23)
  simp only [World.size_alloc] at kN_b2
  have kk_b : w1.heap[w.heap.size]? = some (.cells #[.int .i64 c, .int .i64 n, .int .i64 d, .int .i64 l, .int .i64 a] 23 (0, 0)) := blk_below (blk_alloc kN_b _) hB1
  have HB1 : Hid (Below w.heap.size w w1) := below_then ((HB0.out.alloc (by first | omega | (simp; done) | (simp; omega)) _).alloc (by first | omega | (simp; done) | (simp; omega)) _) (by first | omega | (simp; done) | (simp; omega)) hB1
  have hL1 : w.heap.size ≤ w1.heap.size := HB1.out.size
  clear hB1 kN_b kN_b2
  have K_b : Hid (w1.heap[w.heap.size]? = some (.cells #[.int .i64 c, .int .i64 n, .int .i64 d, .int .i64 l, .int .i64 a] 23 (0, 0))) := kk_b
  have hy_b : w.heap.size < w1.heap.size := (Array.getElem?_eq_some_iff.1 kk_b).1
  have hb_0 : w1.cell? ⟨w.heap.size, 0, none⟩ = some (.int .i64 c) := (cell_of_row w1 (w.heap.size) 0 _ _ _ kk_b).trans rfl
  have hb_1 : w1.cell? ⟨w.heap.size, 1, none⟩ = some (.int .i64 n) := (cell_of_row w1 (w.heap.size) 1 _ _ _ kk_b).trans rfl
  have hb_2 : w1.cell? ⟨w.heap.size, 2, none⟩ = some (.int .i64 d) := (cell_of_row w1 (w.heap.size) 2 _ _ _ kk_b).trans rfl
  have hb_3 : w1.cell? ⟨w.heap.size, 3, none⟩ = some (.int .i64 l) := (cell_of_row w1 (w.heap.size) 3 _ _ _ kk_b).trans rfl
  have hb_4 : w1.cell? ⟨w.heap.size, 4, none⟩ = some (.int .i64 a) := (cell_of_row w1 (w.heap.size) 4 _ _ _ kk_b).trans rfl
  clear kk_b
  go_wp2_with fail
  obtain ⟨x, hx⟩ := HTk.out w1
  go_at_call 11
  refine (hx).mono ?_
  rintro e w2 ⟨rfl, hB2⟩
  have kk_b : w2.heap[w.heap.size]? = some (.cells #[.int .i64 c, .int .i64 n, .int .i64 d, .int .i64 l, .int .i64 a] 23 (0, 0)) := blk_below K_b.out hB2
  have HB2 : Hid (Below w.heap.size w w2) := below_then HB1.out (by first | omega | (simp; done) | (simp; omega)) hB2
  have hL2 : w.heap.size ≤ w2.heap.size := HB2.out.size
  clear hB2 K_b hy_b hb_0 hb_1 hb_2 hb_3 hb_4 hL1
  have K_b : Hid (w2.heap[w.heap.size]? = some (.cells #[.int .i64 c, .int .i64 n, .int .i64 d, .int .i64 l, .int .i64 a] 23 (0, 0))) := kk_b
  have hy_b : w.heap.size < w2.heap.size := (Array.getElem?_eq_some_iff.1 kk_b).1
  have hb_0 : w2.cell? ⟨w.heap.size, 0, none⟩ = some (.int .i64 c) := (cell_of_row w2 (w.heap.size) 0 _ _ _ kk_b).trans rfl
  have hb_1 : w2.cell? ⟨w.heap.size, 1, none⟩ = some (.int .i64 n) := (cell_of_row w2 (w.heap.size) 1 _ _ _ kk_b).trans rfl
  have hb_2 : w2.cell? ⟨w.heap.size, 2, none⟩ = some (.int .i64 d) := (cell_of_row w2 (w.heap.size) 2 _ _ _ kk_b).trans rfl
  have hb_3 : w2.cell? ⟨w.heap.size, 3, none⟩ = some (.int .i64 l) := (cell_of_row w2 (w.heap.size) 3 _ _ _ kk_b).trans rfl
  have hb_4 : w2.cell? ⟨w.heap.size, 4, none⟩ = some (.int .i64 a) := (cell_of_row w2 (w.heap.size) 4 _ _ _ kk_b).trans rfl
  clear kk_b
  clear hx
  go_wp2_with fail
  go_at_call 11
  refine (HTs.out _).mono ?_
  rintro e w3 ⟨rfl, hB3⟩
  have kN_y := heap_alloc_new w2 (.cells #[.int .i64 x.c, .int .i64 x.n, .int .i64 x.d, .int .i64 x.l, .int .i64 x.a] 23)
  have HB3 : Hid (Below w.heap.size w w3) := below_then (HB2.out.alloc (by first | omega | (simp; done) | (simp; omega)) _) (by first | omega | (simp; done) | (simp; omega)) hB3
  have hL3 : w.heap.size ≤ w3.heap.size := HB3.out.size
  clear hB3 K_b hy_b hb_0 hb_1 hb_2 hb_3 hb_4 kN_y hL2
  go_wp2_with fail
  go_at_call 19
  refine (sanity_any _).mono ?_
  rintro e w4 ⟨rfl, hB4⟩
  have kN_z := heap_alloc_new w3 (.cells #[.int .i64 0, .int .i64 0, .int .i64 0, .int .i64 0, .int .i64 0] 23)
  have HB4 : Hid (Below w.heap.size w w4) := below_then (HB3.out.alloc (by first | omega | (simp; done) | (simp; omega)) _) (by first | omega | (simp; done) | (simp; omega)) hB4
  have hL4 : w.heap.size ≤ w4.heap.size := HB4.out.size
  clear hB4 kN_z hL3
  go_wp2_with fail
  go_ret
  exact ⟨rfl, HB4.out⟩
theorem take_no {c n d l a t m : Int} (hv : V c n d l a) (hm1 : 1 ≤ m) (hm2 : m ≤ 1073741824) (h1 : a ≤ t) (h2 : t ≤ 1099511627776) (hl : c < m ∨ l + n * (t - a) < m * d) (w : World) :
    Calls Try.prog 11 #[bk c n d l a, .int .i64 t, .int .i64 m] w fun e w' => e = .returned (.tuple #[bk 0 0 0 0 0, .int .i64 4]) ∧ Below w.heap.size w w' := by
  have hlv := lev_le hv h1 h2
  refine take11_short _ _ _ _ _ _ _ _ w hv hm1 hm2 h1 h2 rfl ?_
  rcases hl with hl | hl
  · have h5 := hv.2.2.2.2.1
    have := Int.mul_lt_mul_of_pos_right hl (by omega : 0 < d)
    omega
  · omega
theorem take_yes {c n d l a t m : Int} (hv : V c n d l a) (hm1 : 1 ≤ m) (hm2 : m ≤ 1073741824) (h1 : a ≤ t) (h2 : t ≤ 1099511627776) (hc : m ≤ c) (hl : m * d ≤ l + n * (t - a)) (w : World) :
    ∃ x : BK, Calls Try.prog 11 #[bk c n d l a, .int .i64 t, .int .i64 m] w fun e w' => e = .returned (.tuple #[bk x.c x.n x.d x.l x.a, .int .i64 0]) ∧ Below w.heap.size w w' := by
  have hx : m * d ≤ lev c n d l a t := by
    have h5 := hv.2.2.2.2.1
    have h1 : m * d ≤ c * d := Int.mul_le_mul_of_nonneg_right hc (by omega)
    unfold lev
    split <;> omega
  exact ⟨⟨_, _, _, _, _⟩, take11_fine _ _ _ _ _ _ _ _ w hv hm1 hm2 h1 h2 rfl hx⟩
theorem law5_err (c n d l a m u : Int) (w : World) (hv : V c n d l a) (hm1 : 1 ≤ m) (hm2 : m ≤ 1073741824) (q : Int) (hq : q = 2 ∨ q = 4)
    (hT : ∀ t, a ≤ t → t ≤ 1099511627776 → c < m ∨ l + n * (t - a) < m * d)
    (hw : ∀ w : World, Calls Try.prog 12 #[bk c n d l a, .int .i64 m] w fun e w' => e = .returned (.tuple #[.int .i64 0, .int .i64 q]) ∧ Below w.heap.size w w') :
    Calls Try.prog 5 #[bk c n d l a, .int .i64 m, .int .i64 u] w fun e w' => e = .returned (.bool true) ∧ Below w.heap.size w w' := by
  have ha := hv.2.2.2.2.2.2.2.2.2
  have hT' : ∀ t, a ≤ t → t ≤ 1099511627776 → _ := fun t h1 h2 => take_no hv hm1 hm2 h1 h2 (hT t h1 h2)
  by_cases h1 : u < a
  · rcases hq with rfl | rfl
    · exact w5_e1_2 _ _ _ _ _ _ _ w hv hm1 hm2 h1 (hT' _ ha (by omega)) hw
    · exact w5_e1_4 _ _ _ _ _ _ _ w hv hm1 hm2 h1 (hT' _ ha (by omega)) hw
  · by_cases h2 : 1099511627776 < u
    · rcases hq with rfl | rfl
      · exact w5_e2_2 _ _ _ _ _ _ _ w hv hm1 hm2 (by omega) h2 (hT' _ ha (by omega)) hw
      · exact w5_e2_4 _ _ _ _ _ _ _ w hv hm1 hm2 (by omega) h2 (hT' _ ha (by omega)) hw
    · rcases hq with rfl | rfl
      · exact w5_e3_2 _ _ _ _ _ _ _ w hv hm1 hm2 (by omega) (by omega) (hT' _ (by omega) (by omega)) hw
      · exact w5_e3_4 _ _ _ _ _ _ _ w hv hm1 hm2 (by omega) (by omega) (hT' _ (by omega) (by omega)) hw
theorem law5_ok (c n d l a m u t : Int) (w : World) (hv : V c n d l a) (hm1 : 1 ≤ m) (hm2 : m ≤ 1073741824) (ha : a ≤ t) (ht : t ≤ 1099511627776) (hc : m ≤ c) (hl : m * d ≤ l + n * (t - a))
    (hT : ∀ v, a ≤ v → v < t → l + n * (v - a) < m * d)
    (hw : ∀ w : World, Calls Try.prog 12 #[bk c n d l a, .int .i64 m] w fun e w' => e = .returned (.tuple #[.int .i64 t, .int .i64 0]) ∧ Below w.heap.size w w') :
    Calls Try.prog 5 #[bk c n d l a, .int .i64 m, .int .i64 u] w fun e w' => e = .returned (.bool true) ∧ Below w.heap.size w w' := by
  have hT' : ∀ v, a ≤ v → v < t → _ := fun v h1 h2 => take_no (t := v) hv hm1 hm2 h1 (by omega) (.inr (hT v h1 h2))
  have hY := take_yes hv hm1 hm2 ha ht hc hl
  by_cases h1 : t ≤ u
  · by_cases h3 : t - 1 < a
    · exact w5_o1early _ _ _ _ _ _ _ t w hv hm1 hm2 ha ht h1 hY hw h3
    · exact w5_o1late _ _ _ _ _ _ _ t w hv hm1 hm2 ha ht h1 hY hw (by omega) (hT' _ (by omega) (by omega))
  · by_cases h2 : u < a
    · by_cases h3 : t - 1 < a
      · exact w5_o2early _ _ _ _ _ _ _ t w hv hm1 hm2 ha ht (by omega) h2 hY hw h3
      · exact w5_o2late _ _ _ _ _ _ _ t w hv hm1 hm2 ha ht (by omega) h2 hY hw (by omega) (hT' _ (by omega) (by omega))
    · exact w5_o3late _ _ _ _ _ _ _ t w hv hm1 hm2 ha ht (by omega) (by omega) hY hw (by omega) (hT' _ (by omega) (by omega))
theorem law5 (c n d l a m u : Int) (w : World) : Calls Try.prog 5 #[bk c n d l a, .int .i64 m, .int .i64 u] w fun e w' => e = .returned (.bool true) ∧ Below w.heap.size w w' := by
  by_cases hv : V c n d l a
  · by_cases hm1 : m < 1
    · exact w5_lo _ _ _ _ _ _ _ w hv hm1
    · by_cases hm2 : 1073741824 < m
      · exact w5_hi _ _ _ _ _ _ _ w hv (by omega) hm2
      · have hm1 : 1 ≤ m := by omega
        have hm2 : m ≤ 1073741824 := by omega
        have a3 := hv.2.2.1
        have a9 := hv.2.2.2.2.2.2.2.2.1
        have a10 := hv.2.2.2.2.2.2.2.2.2
        by_cases hc : c < m
        · exact law5_err _ _ _ _ _ _ _ w hv hm1 hm2 2 (.inl rfl) (fun _ _ _ => .inl hc) (fun w => wait12_limit _ _ _ _ _ _ w hv hm1 hm2 hc)
        · have hc : m ≤ c := by omega
          by_cases hl : m * d ≤ l
          · exact law5_ok _ _ _ _ _ _ _ a w hv hm1 hm2 (by omega) a10 hc (by rw [show a - a = 0 by omega, Int.mul_zero]; omega) (fun v h1 h2 => by omega) (fun w => wait12_now _ _ _ _ _ _ w hv hm1 hm2 hc hl)
          · have hl : l < m * d := by omega
            by_cases hn : n = 0
            · subst hn
              exact law5_err _ _ _ _ _ _ _ w hv hm1 hm2 4 (.inr rfl) (fun t _ _ => .inr (by rw [Int.zero_mul]; omega)) (fun w => wait12_never1 _ _ _ _ _ w hv hm1 hm2 hc hl)
            · have hn1 : 1 ≤ n := by omega
              by_cases hE : n * (1099511627776 - a) < m * d - l
              · refine law5_err _ _ _ _ _ _ _ w hv hm1 hm2 4 (.inr rfl) (fun t h1 h2 => .inr ?_) (fun w => wait12_never2 _ _ _ _ _ _ w hv hm1 hm2 hc hl hn1 hE)
                have := Int.mul_le_mul_of_nonneg_left (show t - a ≤ 1099511627776 - a by omega) a3
                omega
              · have hE2 : m * d - l ≤ n * (1099511627776 - a) := by omega
                have hW := fun w => wait12_later c n d l a m w hv hm1 hm2 hc hl hn1 hE2
                generalize hq : (m * d - l - 1) / n = q at hW
                have hq0 : 0 ≤ q := by rw [← hq]; exact Int.ediv_nonneg (by omega) (by omega)
                have h1 : n * q ≤ m * d - l - 1 := by rw [← hq]; exact Int.mul_ediv_self_le (by omega)
                have h2 : m * d - l - 1 < n * q + n := by
                  have := Int.lt_mul_ediv_self_add (x := m * d - l - 1) (show 0 < n by omega)
                  rw [hq] at this; exact this
                have hqM : q + 1 ≤ 1099511627776 - a := by
                  have h3 : n * q < n * (1099511627776 - a) := by omega
                  have := Int.lt_of_mul_lt_mul_left h3 a3
                  omega
                refine law5_ok _ _ _ _ _ _ _ (a + q + 1) w hv hm1 hm2 (by omega) (by omega) hc ?_ (fun v h3 h4 => ?_) hW
                · rw [show a + q + 1 - a = q + 1 by omega, Int.mul_add, Int.mul_one]; omega
                · have := Int.mul_le_mul_of_nonneg_left (show v - a ≤ q by omega) a3
                  omega
  · exact w5_v _ _ _ _ _ _ _ w hv

end Go.Proofs.Ytcikmloklbdddaa
