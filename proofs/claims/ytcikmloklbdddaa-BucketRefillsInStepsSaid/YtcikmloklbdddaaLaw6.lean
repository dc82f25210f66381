/- The walk of BucketRefillsInSteps. No condition. -/
import Derived.Test.YtcikmloklbdddaaWWords
import Derived.Test.YtcikmloklbdddaaSane
set_option linter.unusedVariables false
set_option linter.unusedSimpArgs false
namespace Go.Proofs.Ytcikmloklbdddaa
open Go.RowKit
open Go.Proofs.YtcikmloklbdddaaW.PrintWords (ReadsInt rd own_nil blk_frozen own_weaken own_setCell own_base blk_set add_block blk_alloc blk_below)
set_option maxHeartbeats 1000000 in
set_option maxRecDepth 100000 in
theorem w6_v (c n d l a t u z : Int) (w : World) (hv : ¬ V c n d l a) :
    Calls Try.prog 6 #[bk c n d l a, .int .i64 t, .int .i64 u, .int .i64 z] w fun e w' => e = .returned (.bool true) ∧ Below w.heap.size w w' := by
  have HV : Hid (¬ V c n d l a) := hv
  clear hv
  have HB0 : Hid (Below w.heap.size w w) := Below.refl _ _
  have hL0 : w.heap.size ≤ w.heap.size := Nat.le_refl _
  go_enter Try.func6, Try.ntmps6
  go_wp2_with ((go_at_call 20; refine (valid20_any _ _ _ _ _ _ false (decide_eq_false HV.out).symm).mono ?_; rintro e w' ⟨rfl, rfl⟩))
  go_at_call 19
  refine (sanity_any _).mono ?_
  rintro e w1 ⟨rfl, hB1⟩
  have kN_b := heap_alloc_new w (.cells #[.int .i64 c, .int .i64 n, .int .i64 d, .int .i64 l, .int .i64 a] 23)
  have kN_b2 := heap_alloc_new (w.alloc (.cells #[.int .i64 c, .int .i64 n, .int .i64 d, .int .i64 l, .int .i64 a] 23)) (.cells #[.int .i64 c, .int .i64 n, .int .i64 d, .int .i64 l, .int .i64 a] 23)
  simp only [World.size_alloc] at kN_b2
  have HB1 : Hid (Below w.heap.size w w1) := below_then ((HB0.out.alloc (by first | omega | (simp; done) | (simp; omega)) _).alloc (by first | omega | (simp; done) | (simp; omega)) _) (by first | omega | (simp; done) | (simp; omega)) hB1
  have hL1 : w.heap.size ≤ w1.heap.size := HB1.out.size
  clear hB1 kN_b kN_b2
  go_wp2_with fail
  go_ret
  exact ⟨rfl, HB1.out⟩
set_option maxHeartbeats 1000000 in
set_option maxRecDepth 100000 in
theorem w6_1 (c n d l a t u z : Int) (w : World) (hv : V c n d l a) (h1 : t < a) :
    Calls Try.prog 6 #[bk c n d l a, .int .i64 t, .int .i64 u, .int .i64 z] w fun e w' => e = .returned (.bool true) ∧ Below w.heap.size w w' := by
  have HV : Hid (V c n d l a) := hv
  clear hv
  have HB0 : Hid (Below w.heap.size w w) := Below.refl _ _
  have hL0 : w.heap.size ≤ w.heap.size := Nat.le_refl _
  go_enter Try.func6, Try.ntmps6
  go_wp2_with ((go_at_call 20; refine (valid20_any _ _ _ _ _ _ true (decide_eq_true HV.out).symm).mono ?_; rintro e w' ⟨rfl, rfl⟩))
  go_at_call 19
  refine (sanity_any _).mono ?_
  rintro e w1 ⟨rfl, hB1⟩
  have kN_b := heap_alloc_new w (.cells #[.int .i64 c, .int .i64 n, .int .i64 d, .int .i64 l, .int .i64 a] 23)
  have kN_b2 := heap_alloc_new (w.alloc (.cells #[.int .i64 c, .int .i64 n, .int .i64 d, .int .i64 l, .int .i64 a] 23)) (.cells #[.int .i64 c, .int .i64 n, .int .i64 d, .int .i64 l, .int .i64 a] 23)
  simp only [World.size_alloc] at kN_b2
  have HB1 : Hid (Below w.heap.size w w1) := below_then ((HB0.out.alloc (by first | omega | (simp; done) | (simp; omega)) _).alloc (by first | omega | (simp; done) | (simp; omega)) _) (by first | omega | (simp; done) | (simp; omega)) hB1
  have hL1 : w.heap.size ≤ w1.heap.size := HB1.out.size
  clear hB1 kN_b kN_b2
  go_wp2_with fail
  go_ret
  exact ⟨rfl, HB1.out⟩
set_option maxHeartbeats 1000000 in
set_option maxRecDepth 100000 in
theorem w6_2 (c n d l a t u z : Int) (w : World) (hv : V c n d l a) (h1 : a ≤ t) (h2 : u < t) :
    Calls Try.prog 6 #[bk c n d l a, .int .i64 t, .int .i64 u, .int .i64 z] w fun e w' => e = .returned (.bool true) ∧ Below w.heap.size w w' := by
  have HV : Hid (V c n d l a) := hv
  clear hv
  have HB0 : Hid (Below w.heap.size w w) := Below.refl _ _
  have hL0 : w.heap.size ≤ w.heap.size := Nat.le_refl _
  go_enter Try.func6, Try.ntmps6
  go_wp2_with ((go_at_call 20; refine (valid20_any _ _ _ _ _ _ true (decide_eq_true HV.out).symm).mono ?_; rintro e w' ⟨rfl, rfl⟩))
  go_at_call 19
  refine (sanity_any _).mono ?_
  rintro e w1 ⟨rfl, hB1⟩
  have kN_b := heap_alloc_new w (.cells #[.int .i64 c, .int .i64 n, .int .i64 d, .int .i64 l, .int .i64 a] 23)
  have kN_b2 := heap_alloc_new (w.alloc (.cells #[.int .i64 c, .int .i64 n, .int .i64 d, .int .i64 l, .int .i64 a] 23)) (.cells #[.int .i64 c, .int .i64 n, .int .i64 d, .int .i64 l, .int .i64 a] 23)
  simp only [World.size_alloc] at kN_b2
  have HB1 : Hid (Below w.heap.size w w1) := below_then ((HB0.out.alloc (by first | omega | (simp; done) | (simp; omega)) _).alloc (by first | omega | (simp; done) | (simp; omega)) _) (by first | omega | (simp; done) | (simp; omega)) hB1
  have hL1 : w.heap.size ≤ w1.heap.size := HB1.out.size
  clear hB1 kN_b kN_b2
  go_wp2_with fail
  go_ret
  exact ⟨rfl, HB1.out⟩
set_option maxHeartbeats 1000000 in
set_option maxRecDepth 100000 in
theorem w6_3 (c n d l a t u z : Int) (w : World) (hv : V c n d l a) (h1 : a ≤ t) (h2 : t ≤ u) (h3 : 1099511627776 < u) :
    Calls Try.prog 6 #[bk c n d l a, .int .i64 t, .int .i64 u, .int .i64 z] w fun e w' => e = .returned (.bool true) ∧ Below w.heap.size w w' := by
  have HV : Hid (V c n d l a) := hv
  clear hv
  have HB0 : Hid (Below w.heap.size w w) := Below.refl _ _
  have hL0 : w.heap.size ≤ w.heap.size := Nat.le_refl _
  go_enter Try.func6, Try.ntmps6
  go_wp2_with ((go_at_call 20; refine (valid20_any _ _ _ _ _ _ true (decide_eq_true HV.out).symm).mono ?_; rintro e w' ⟨rfl, rfl⟩))
  go_at_call 19
  refine (sanity_any _).mono ?_
  rintro e w1 ⟨rfl, hB1⟩
  have kN_b := heap_alloc_new w (.cells #[.int .i64 c, .int .i64 n, .int .i64 d, .int .i64 l, .int .i64 a] 23)
  have kN_b2 := heap_alloc_new (w.alloc (.cells #[.int .i64 c, .int .i64 n, .int .i64 d, .int .i64 l, .int .i64 a] 23)) (.cells #[.int .i64 c, .int .i64 n, .int .i64 d, .int .i64 l, .int .i64 a] 23)
  simp only [World.size_alloc] at kN_b2
  have HB1 : Hid (Below w.heap.size w w1) := below_then ((HB0.out.alloc (by first | omega | (simp; done) | (simp; omega)) _).alloc (by first | omega | (simp; done) | (simp; omega)) _) (by first | omega | (simp; done) | (simp; omega)) hB1
  have hL1 : w.heap.size ≤ w1.heap.size := HB1.out.size
  clear hB1 kN_b kN_b2
  go_wp2_with fail
  go_ret
  exact ⟨rfl, HB1.out⟩
set_option maxHeartbeats 1000000 in
set_option maxRecDepth 100000 in
theorem w6_less (c n d l a t u z X L L2 T1 T2 : Int) (w : World) (hv : V c n d l a) (h1 : a ≤ t) (h2 : t ≤ u) (h3 : u ≤ 1099511627776) (hr1 : ∀ w : World, Calls Try.prog 10 #[bk c n d l a, .int .i64 t] w fun e w' => e = .returned (.tuple #[bk c n d X t, .int .i64 0]) ∧ Below w.heap.size w w') (hr2 : ∀ w : World, Calls Try.prog 10 #[bk c n d X t, .int .i64 u] w fun e w' => e = .returned (.tuple #[bk c n d L u, .int .i64 0]) ∧ Below w.heap.size w w') (hr3 : ∀ w : World, Calls Try.prog 10 #[bk c n d l a, .int .i64 u] w fun e w' => e = .returned (.tuple #[bk c n d L u, .int .i64 0]) ∧ Below w.heap.size w w') (ht1 : ∀ w : World, Calls Try.prog 22 #[bk c n d X t] w fun e w' => e = .returned (.int .i64 T1) ∧ Below w.heap.size w w') (ht2 : ∀ w : World, Calls Try.prog 22 #[bk c n d L u] w fun e w' => e = .returned (.int .i64 T2) ∧ Below w.heap.size w w') (hT : T1 ≤ T2) (h4 : z < 0) :
    Calls Try.prog 6 #[bk c n d l a, .int .i64 t, .int .i64 u, .int .i64 z] w fun e w' => e = .returned (.bool true) ∧ Below w.heap.size w w' := by
  have HV : Hid (V c n d l a) := hv
  clear hv
  have HR1 : Hid (∀ w : World, Calls Try.prog 10 #[bk c n d l a, .int .i64 t] w fun e w' => e = .returned (.tuple #[bk c n d X t, .int .i64 0]) ∧ Below w.heap.size w w') := hr1
  have HR2 : Hid (∀ w : World, Calls Try.prog 10 #[bk c n d X t, .int .i64 u] w fun e w' => e = .returned (.tuple #[bk c n d L u, .int .i64 0]) ∧ Below w.heap.size w w') := hr2
  have HR3 : Hid (∀ w : World, Calls Try.prog 10 #[bk c n d l a, .int .i64 u] w fun e w' => e = .returned (.tuple #[bk c n d L u, .int .i64 0]) ∧ Below w.heap.size w w') := hr3
  have HT1 : Hid (∀ w : World, Calls Try.prog 22 #[bk c n d X t] w fun e w' => e = .returned (.int .i64 T1) ∧ Below w.heap.size w w') := ht1
  have HT2 : Hid (∀ w : World, Calls Try.prog 22 #[bk c n d L u] w fun e w' => e = .returned (.int .i64 T2) ∧ Below w.heap.size w w') := ht2
  clear hr1 hr2 hr3 ht1 ht2
  have HB0 : Hid (Below w.heap.size w w) := Below.refl _ _
  have hL0 : w.heap.size ≤ w.heap.size := Nat.le_refl _
  go_enter Try.func6, Try.ntmps6
  go_wp2_with ((go_at_call 20; refine (valid20_any _ _ _ _ _ _ true (decide_eq_true HV.out).symm).mono ?_; rintro e w' ⟨rfl, rfl⟩))
  go_at_call 10
  refine (HR1.out _).mono ?_
  rintro e w1 ⟨rfl, hB1⟩
  have kN_b := heap_alloc_new w (.cells #[.int .i64 c, .int .i64 n, .int .i64 d, .int .i64 l, .int .i64 a] 23)
  have kN_b2 := heap_alloc_new (w.alloc (.cells #[.int .i64 c, .int .i64 n, .int .i64 d, .int .i64 l, .int .i64 a] 23)) (.cells #[.int .i64 c, .int .i64 n, .int .i64 d, .int .i64 l, .int .i64 a] 23)
  simp only [World.size_alloc] at kN_b2
  have kk_b : w1.heap[w.heap.size]? = some (.cells #[.int .i64 c, .int .i64 n, .int .i64 d, .int .i64 l, .int .i64 a] 23 (0, 0)) := blk_below (blk_alloc kN_b _) hB1
  have HB1 : Hid (Below w.heap.size w w1) := below_then ((HB0.out.alloc (by first | omega | (simp; done) | (simp; omega)) _).alloc (by first | omega | (simp; done) | (simp; omega)) _) (by first | omega | (simp; done) | (simp; omega)) hB1
  have hL1 : w.heap.size ≤ w1.heap.size := HB1.out.size
  clear hB1 kN_b kN_b2
  have K_b : Hid (w1.heap[w.heap.size]? = some (.cells #[.int .i64 c, .int .i64 n, .int .i64 d, .int .i64 l, .int .i64 a] 23 (0, 0))) := kk_b
  have hy_b : w.heap.size < w1.heap.size := (Array.getElem?_eq_some_iff.1 kk_b).1
  have hb_0 : w1.cell? ⟨w.heap.size, 0, none⟩ = some (.int .i64 c) := (cell_of_row w1 (w.heap.size) 0 _ _ _ kk_b).trans rfl
  have hb_1 : w1.cell? ⟨w.heap.size, 1, none⟩ = some (.int .i64 n) := (cell_of_row w1 (w.heap.size) 1 _ _ _ kk_b).trans rfl
  have hb_2 : w1.cell? ⟨w.heap.size, 2, none⟩ = some (.int .i64 d) := (cell_of_row w1 (w.heap.size) 2 _ _ _ kk_b).trans rfl
  have hb_3 : w1.cell? ⟨w.heap.size, 3, none⟩ = some (.int .i64 l) := (cell_of_row w1 (w.heap.size) 3 _ _ _ kk_b).trans rfl
  have hb_4 : w1.cell? ⟨w.heap.size, 4, none⟩ = some (.int .i64 a) := (cell_of_row w1 (w.heap.size) 4 _ _ _ kk_b).trans rfl
  clear kk_b
  go_wp2_with fail
  go_at_call 10
  refine (HR2.out _).mono ?_
  rintro e w2 ⟨rfl, hB2⟩
  have kN_x := heap_alloc_new w1 (.cells #[.int .i64 c, .int .i64 n, .int .i64 d, .int .i64 X, .int .i64 t] 23)
  have kk_b : w2.heap[w.heap.size]? = some (.cells #[.int .i64 c, .int .i64 n, .int .i64 d, .int .i64 l, .int .i64 a] 23 (0, 0)) := blk_below (blk_alloc K_b.out _) hB2
  have kk_x : w2.heap[w1.heap.size]? = some (.cells #[.int .i64 c, .int .i64 n, .int .i64 d, .int .i64 X, .int .i64 t] 23 (0, 0)) := blk_below kN_x hB2
  have HB2 : Hid (Below w.heap.size w w2) := below_then (HB1.out.alloc (by first | omega | (simp; done) | (simp; omega)) _) (by first | omega | (simp; done) | (simp; omega)) hB2
  have hL2 : w.heap.size ≤ w2.heap.size := HB2.out.size
  clear hB2 K_b hy_b hb_0 hb_1 hb_2 hb_3 hb_4 kN_x hL1
  have K_b : Hid (w2.heap[w.heap.size]? = some (.cells #[.int .i64 c, .int .i64 n, .int .i64 d, .int .i64 l, .int .i64 a] 23 (0, 0))) := kk_b
  have hy_b : w.heap.size < w2.heap.size := (Array.getElem?_eq_some_iff.1 kk_b).1
  have hb_0 : w2.cell? ⟨w.heap.size, 0, none⟩ = some (.int .i64 c) := (cell_of_row w2 (w.heap.size) 0 _ _ _ kk_b).trans rfl
  have hb_1 : w2.cell? ⟨w.heap.size, 1, none⟩ = some (.int .i64 n) := (cell_of_row w2 (w.heap.size) 1 _ _ _ kk_b).trans rfl
  have hb_2 : w2.cell? ⟨w.heap.size, 2, none⟩ = some (.int .i64 d) := (cell_of_row w2 (w.heap.size) 2 _ _ _ kk_b).trans rfl
  have hb_3 : w2.cell? ⟨w.heap.size, 3, none⟩ = some (.int .i64 l) := (cell_of_row w2 (w.heap.size) 3 _ _ _ kk_b).trans rfl
  have hb_4 : w2.cell? ⟨w.heap.size, 4, none⟩ = some (.int .i64 a) := (cell_of_row w2 (w.heap.size) 4 _ _ _ kk_b).trans rfl
  clear kk_b
  have K_x : Hid (w2.heap[w1.heap.size]? = some (.cells #[.int .i64 c, .int .i64 n, .int .i64 d, .int .i64 X, .int .i64 t] 23 (0, 0))) := kk_x
  have hy_x : w1.heap.size < w2.heap.size := (Array.getElem?_eq_some_iff.1 kk_x).1
  have hx_0 : w2.cell? ⟨w1.heap.size, 0, none⟩ = some (.int .i64 c) := (cell_of_row w2 (w1.heap.size) 0 _ _ _ kk_x).trans rfl
  have hx_1 : w2.cell? ⟨w1.heap.size, 1, none⟩ = some (.int .i64 n) := (cell_of_row w2 (w1.heap.size) 1 _ _ _ kk_x).trans rfl
  have hx_2 : w2.cell? ⟨w1.heap.size, 2, none⟩ = some (.int .i64 d) := (cell_of_row w2 (w1.heap.size) 2 _ _ _ kk_x).trans rfl
  have hx_3 : w2.cell? ⟨w1.heap.size, 3, none⟩ = some (.int .i64 X) := (cell_of_row w2 (w1.heap.size) 3 _ _ _ kk_x).trans rfl
  have hx_4 : w2.cell? ⟨w1.heap.size, 4, none⟩ = some (.int .i64 t) := (cell_of_row w2 (w1.heap.size) 4 _ _ _ kk_x).trans rfl
  clear kk_x
  go_wp2_with fail
  go_at_call 10
  refine (HR3.out _).mono ?_
  rintro e w3 ⟨rfl, hB3⟩
  have kN_y := heap_alloc_new w2 (.cells #[.int .i64 c, .int .i64 n, .int .i64 d, .int .i64 L, .int .i64 u] 23)
  have kk_b : w3.heap[w.heap.size]? = some (.cells #[.int .i64 c, .int .i64 n, .int .i64 d, .int .i64 l, .int .i64 a] 23 (0, 0)) := blk_below (blk_alloc K_b.out _) hB3
  have kk_x : w3.heap[w1.heap.size]? = some (.cells #[.int .i64 c, .int .i64 n, .int .i64 d, .int .i64 X, .int .i64 t] 23 (0, 0)) := blk_below (blk_alloc K_x.out _) hB3
  have kk_y : w3.heap[w2.heap.size]? = some (.cells #[.int .i64 c, .int .i64 n, .int .i64 d, .int .i64 L, .int .i64 u] 23 (0, 0)) := blk_below kN_y hB3
  have HB3 : Hid (Below w.heap.size w w3) := below_then (HB2.out.alloc (by first | omega | (simp; done) | (simp; omega)) _) (by first | omega | (simp; done) | (simp; omega)) hB3
  have hL3 : w.heap.size ≤ w3.heap.size := HB3.out.size
  clear hB3 K_b hy_b hb_0 hb_1 hb_2 hb_3 hb_4 K_x hy_x hx_0 hx_1 hx_2 hx_3 hx_4 kN_y hL2
  have K_b : Hid (w3.heap[w.heap.size]? = some (.cells #[.int .i64 c, .int .i64 n, .int .i64 d, .int .i64 l, .int .i64 a] 23 (0, 0))) := kk_b
  have hy_b : w.heap.size < w3.heap.size := (Array.getElem?_eq_some_iff.1 kk_b).1
  have hb_0 : w3.cell? ⟨w.heap.size, 0, none⟩ = some (.int .i64 c) := (cell_of_row w3 (w.heap.size) 0 _ _ _ kk_b).trans rfl
  have hb_1 : w3.cell? ⟨w.heap.size, 1, none⟩ = some (.int .i64 n) := (cell_of_row w3 (w.heap.size) 1 _ _ _ kk_b).trans rfl
  have hb_2 : w3.cell? ⟨w.heap.size, 2, none⟩ = some (.int .i64 d) := (cell_of_row w3 (w.heap.size) 2 _ _ _ kk_b).trans rfl
  have hb_3 : w3.cell? ⟨w.heap.size, 3, none⟩ = some (.int .i64 l) := (cell_of_row w3 (w.heap.size) 3 _ _ _ kk_b).trans rfl
  have hb_4 : w3.cell? ⟨w.heap.size, 4, none⟩ = some (.int .i64 a) := (cell_of_row w3 (w.heap.size) 4 _ _ _ kk_b).trans rfl
  clear kk_b
  have K_x : Hid (w3.heap[w1.heap.size]? = some (.cells #[.int .i64 c, .int .i64 n, .int .i64 d, .int .i64 X, .int .i64 t] 23 (0, 0))) := kk_x
  have hy_x : w1.heap.size < w3.heap.size := (Array.getElem?_eq_some_iff.1 kk_x).1
  have hx_0 : w3.cell? ⟨w1.heap.size, 0, none⟩ = some (.int .i64 c) := (cell_of_row w3 (w1.heap.size) 0 _ _ _ kk_x).trans rfl
  have hx_1 : w3.cell? ⟨w1.heap.size, 1, none⟩ = some (.int .i64 n) := (cell_of_row w3 (w1.heap.size) 1 _ _ _ kk_x).trans rfl
  have hx_2 : w3.cell? ⟨w1.heap.size, 2, none⟩ = some (.int .i64 d) := (cell_of_row w3 (w1.heap.size) 2 _ _ _ kk_x).trans rfl
  have hx_3 : w3.cell? ⟨w1.heap.size, 3, none⟩ = some (.int .i64 X) := (cell_of_row w3 (w1.heap.size) 3 _ _ _ kk_x).trans rfl
  have hx_4 : w3.cell? ⟨w1.heap.size, 4, none⟩ = some (.int .i64 t) := (cell_of_row w3 (w1.heap.size) 4 _ _ _ kk_x).trans rfl
  clear kk_x
  have K_y : Hid (w3.heap[w2.heap.size]? = some (.cells #[.int .i64 c, .int .i64 n, .int .i64 d, .int .i64 L, .int .i64 u] 23 (0, 0))) := kk_y
  have hy_y : w2.heap.size < w3.heap.size := (Array.getElem?_eq_some_iff.1 kk_y).1
  have hy_0 : w3.cell? ⟨w2.heap.size, 0, none⟩ = some (.int .i64 c) := (cell_of_row w3 (w2.heap.size) 0 _ _ _ kk_y).trans rfl
  have hy_1 : w3.cell? ⟨w2.heap.size, 1, none⟩ = some (.int .i64 n) := (cell_of_row w3 (w2.heap.size) 1 _ _ _ kk_y).trans rfl
  have hy_2 : w3.cell? ⟨w2.heap.size, 2, none⟩ = some (.int .i64 d) := (cell_of_row w3 (w2.heap.size) 2 _ _ _ kk_y).trans rfl
  have hy_3 : w3.cell? ⟨w2.heap.size, 3, none⟩ = some (.int .i64 L) := (cell_of_row w3 (w2.heap.size) 3 _ _ _ kk_y).trans rfl
  have hy_4 : w3.cell? ⟨w2.heap.size, 4, none⟩ = some (.int .i64 u) := (cell_of_row w3 (w2.heap.size) 4 _ _ _ kk_y).trans rfl
  clear kk_y
  go_wp2_with fail
  obtain ⟨w4, hW_⟩ : ∃ W : World, (w3.alloc (.cells #[.int .i64 c, .int .i64 n, .int .i64 d, .int .i64 L, .int .i64 u] 23)) = W := ⟨_, rfl⟩
  rw [hW_]
  have kN_q := heap_alloc_new w3 (.cells #[.int .i64 c, .int .i64 n, .int .i64 d, .int .i64 L, .int .i64 u] 23)
  have kk_b : w4.heap[w.heap.size]? = some (.cells #[.int .i64 c, .int .i64 n, .int .i64 d, .int .i64 l, .int .i64 a] 23 (0, 0)) := by rw [← hW_]; exact (blk_alloc K_b.out _)
  have kk_x : w4.heap[w1.heap.size]? = some (.cells #[.int .i64 c, .int .i64 n, .int .i64 d, .int .i64 X, .int .i64 t] 23 (0, 0)) := by rw [← hW_]; exact (blk_alloc K_x.out _)
  have kk_y : w4.heap[w2.heap.size]? = some (.cells #[.int .i64 c, .int .i64 n, .int .i64 d, .int .i64 L, .int .i64 u] 23 (0, 0)) := by rw [← hW_]; exact (blk_alloc K_y.out _)
  have kk_q : w4.heap[w3.heap.size]? = some (.cells #[.int .i64 c, .int .i64 n, .int .i64 d, .int .i64 L, .int .i64 u] 23 (0, 0)) := by rw [← hW_]; exact kN_q
  have HB4 : Hid (Below w.heap.size w w4) := by rw [← hW_]; exact (HB3.out.alloc (by first | omega | (simp; done) | (simp; omega)) _)
  have hL4 : w.heap.size ≤ w4.heap.size := HB4.out.size
  clear hW_ K_b hy_b hb_0 hb_1 hb_2 hb_3 hb_4 K_x hy_x hx_0 hx_1 hx_2 hx_3 hx_4 K_y hy_y hy_0 hy_1 hy_2 hy_3 hy_4 kN_q hL3
  have K_b : Hid (w4.heap[w.heap.size]? = some (.cells #[.int .i64 c, .int .i64 n, .int .i64 d, .int .i64 l, .int .i64 a] 23 (0, 0))) := kk_b
  have hy_b : w.heap.size < w4.heap.size := (Array.getElem?_eq_some_iff.1 kk_b).1
  have hb_0 : w4.cell? ⟨w.heap.size, 0, none⟩ = some (.int .i64 c) := (cell_of_row w4 (w.heap.size) 0 _ _ _ kk_b).trans rfl
  have hb_1 : w4.cell? ⟨w.heap.size, 1, none⟩ = some (.int .i64 n) := (cell_of_row w4 (w.heap.size) 1 _ _ _ kk_b).trans rfl
  have hb_2 : w4.cell? ⟨w.heap.size, 2, none⟩ = some (.int .i64 d) := (cell_of_row w4 (w.heap.size) 2 _ _ _ kk_b).trans rfl
  have hb_3 : w4.cell? ⟨w.heap.size, 3, none⟩ = some (.int .i64 l) := (cell_of_row w4 (w.heap.size) 3 _ _ _ kk_b).trans rfl
  have hb_4 : w4.cell? ⟨w.heap.size, 4, none⟩ = some (.int .i64 a) := (cell_of_row w4 (w.heap.size) 4 _ _ _ kk_b).trans rfl
  clear kk_b
  have K_x : Hid (w4.heap[w1.heap.size]? = some (.cells #[.int .i64 c, .int .i64 n, .int .i64 d, .int .i64 X, .int .i64 t] 23 (0, 0))) := kk_x
  have hy_x : w1.heap.size < w4.heap.size := (Array.getElem?_eq_some_iff.1 kk_x).1
  have hx_0 : w4.cell? ⟨w1.heap.size, 0, none⟩ = some (.int .i64 c) := (cell_of_row w4 (w1.heap.size) 0 _ _ _ kk_x).trans rfl
  have hx_1 : w4.cell? ⟨w1.heap.size, 1, none⟩ = some (.int .i64 n) := (cell_of_row w4 (w1.heap.size) 1 _ _ _ kk_x).trans rfl
  have hx_2 : w4.cell? ⟨w1.heap.size, 2, none⟩ = some (.int .i64 d) := (cell_of_row w4 (w1.heap.size) 2 _ _ _ kk_x).trans rfl
  have hx_3 : w4.cell? ⟨w1.heap.size, 3, none⟩ = some (.int .i64 X) := (cell_of_row w4 (w1.heap.size) 3 _ _ _ kk_x).trans rfl
  have hx_4 : w4.cell? ⟨w1.heap.size, 4, none⟩ = some (.int .i64 t) := (cell_of_row w4 (w1.heap.size) 4 _ _ _ kk_x).trans rfl
  clear kk_x
  have K_y : Hid (w4.heap[w2.heap.size]? = some (.cells #[.int .i64 c, .int .i64 n, .int .i64 d, .int .i64 L, .int .i64 u] 23 (0, 0))) := kk_y
  have hy_y : w2.heap.size < w4.heap.size := (Array.getElem?_eq_some_iff.1 kk_y).1
  have hy_0 : w4.cell? ⟨w2.heap.size, 0, none⟩ = some (.int .i64 c) := (cell_of_row w4 (w2.heap.size) 0 _ _ _ kk_y).trans rfl
  have hy_1 : w4.cell? ⟨w2.heap.size, 1, none⟩ = some (.int .i64 n) := (cell_of_row w4 (w2.heap.size) 1 _ _ _ kk_y).trans rfl
  have hy_2 : w4.cell? ⟨w2.heap.size, 2, none⟩ = some (.int .i64 d) := (cell_of_row w4 (w2.heap.size) 2 _ _ _ kk_y).trans rfl
  have hy_3 : w4.cell? ⟨w2.heap.size, 3, none⟩ = some (.int .i64 L) := (cell_of_row w4 (w2.heap.size) 3 _ _ _ kk_y).trans rfl
  have hy_4 : w4.cell? ⟨w2.heap.size, 4, none⟩ = some (.int .i64 u) := (cell_of_row w4 (w2.heap.size) 4 _ _ _ kk_y).trans rfl
  clear kk_y
  have K_q : Hid (w4.heap[w3.heap.size]? = some (.cells #[.int .i64 c, .int .i64 n, .int .i64 d, .int .i64 L, .int .i64 u] 23 (0, 0))) := kk_q
  have hy_q : w3.heap.size < w4.heap.size := (Array.getElem?_eq_some_iff.1 kk_q).1
  have hq_0 : w4.cell? ⟨w3.heap.size, 0, none⟩ = some (.int .i64 c) := (cell_of_row w4 (w3.heap.size) 0 _ _ _ kk_q).trans rfl
  have hq_1 : w4.cell? ⟨w3.heap.size, 1, none⟩ = some (.int .i64 n) := (cell_of_row w4 (w3.heap.size) 1 _ _ _ kk_q).trans rfl
  have hq_2 : w4.cell? ⟨w3.heap.size, 2, none⟩ = some (.int .i64 d) := (cell_of_row w4 (w3.heap.size) 2 _ _ _ kk_q).trans rfl
  have hq_3 : w4.cell? ⟨w3.heap.size, 3, none⟩ = some (.int .i64 L) := (cell_of_row w4 (w3.heap.size) 3 _ _ _ kk_q).trans rfl
  have hq_4 : w4.cell? ⟨w3.heap.size, 4, none⟩ = some (.int .i64 u) := (cell_of_row w4 (w3.heap.size) 4 _ _ _ kk_q).trans rfl
  clear kk_q
  have hq : decide (T2 < T1) = false := decide_eq_false (by omega)
  go_region_held3 (fun w' => w'.cell? ⟨w1.heap.size, 0, none⟩ = some (.int .i64 c) ∧ w'.cell? ⟨w1.heap.size, 1, none⟩ = some (.int .i64 n) ∧ w'.cell? ⟨w1.heap.size, 2, none⟩ = some (.int .i64 d) ∧ w'.cell? ⟨w1.heap.size, 3, none⟩ = some (.int .i64 X) ∧ w'.cell? ⟨w1.heap.size, 4, none⟩ = some (.int .i64 t) ∧ w'.cell? ⟨w2.heap.size, 0, none⟩ = some (.int .i64 c) ∧ w'.cell? ⟨w2.heap.size, 1, none⟩ = some (.int .i64 n) ∧ w'.cell? ⟨w2.heap.size, 2, none⟩ = some (.int .i64 d) ∧ w'.cell? ⟨w2.heap.size, 3, none⟩ = some (.int .i64 L) ∧ w'.cell? ⟨w2.heap.size, 4, none⟩ = some (.int .i64 u) ∧ w'.cell? ⟨w3.heap.size, 0, none⟩ = some (.int .i64 c) ∧ w'.cell? ⟨w3.heap.size, 1, none⟩ = some (.int .i64 n) ∧ w'.cell? ⟨w3.heap.size, 2, none⟩ = some (.int .i64 d) ∧ w'.cell? ⟨w3.heap.size, 3, none⟩ = some (.int .i64 L) ∧ w'.cell? ⟨w3.heap.size, 4, none⟩ = some (.int .i64 u)) (go_keep) (first | ((go_at_call 22; (with_reducible refine (HT1.out _).mono ?_); rintro e w5 ⟨rfl, hB5⟩; have kr5_b : w5.heap[w.heap.size]? = some (.cells #[.int .i64 c, .int .i64 n, .int .i64 d, .int .i64 l, .int .i64 a] 23 (0, 0)) := (kb_ hB5 K_b.out); have K5_b := Hid.mk' kr5_b; have h5_b_0 : w5.cell? ⟨w.heap.size, 0, none⟩ = some (.int .i64 c) := ((cell_of_row w5 (w.heap.size) 0 _ _ _ kr5_b).trans rfl); have h5_b_1 : w5.cell? ⟨w.heap.size, 1, none⟩ = some (.int .i64 n) := ((cell_of_row w5 (w.heap.size) 1 _ _ _ kr5_b).trans rfl); have h5_b_2 : w5.cell? ⟨w.heap.size, 2, none⟩ = some (.int .i64 d) := ((cell_of_row w5 (w.heap.size) 2 _ _ _ kr5_b).trans rfl); have h5_b_3 : w5.cell? ⟨w.heap.size, 3, none⟩ = some (.int .i64 l) := ((cell_of_row w5 (w.heap.size) 3 _ _ _ kr5_b).trans rfl); have h5_b_4 : w5.cell? ⟨w.heap.size, 4, none⟩ = some (.int .i64 a) := ((cell_of_row w5 (w.heap.size) 4 _ _ _ kr5_b).trans rfl); have hy5_b : w.heap.size < w5.heap.size := ((Array.getElem?_eq_some_iff.1 kr5_b).1); clear kr5_b; have kr5_x : w5.heap[w1.heap.size]? = some (.cells #[.int .i64 c, .int .i64 n, .int .i64 d, .int .i64 X, .int .i64 t] 23 (0, 0)) := (kb_ hB5 K_x.out); have K5_x := Hid.mk' kr5_x; have h5_x_0 : w5.cell? ⟨w1.heap.size, 0, none⟩ = some (.int .i64 c) := ((cell_of_row w5 (w1.heap.size) 0 _ _ _ kr5_x).trans rfl); have h5_x_1 : w5.cell? ⟨w1.heap.size, 1, none⟩ = some (.int .i64 n) := ((cell_of_row w5 (w1.heap.size) 1 _ _ _ kr5_x).trans rfl); have h5_x_2 : w5.cell? ⟨w1.heap.size, 2, none⟩ = some (.int .i64 d) := ((cell_of_row w5 (w1.heap.size) 2 _ _ _ kr5_x).trans rfl); have h5_x_3 : w5.cell? ⟨w1.heap.size, 3, none⟩ = some (.int .i64 X) := ((cell_of_row w5 (w1.heap.size) 3 _ _ _ kr5_x).trans rfl); have h5_x_4 : w5.cell? ⟨w1.heap.size, 4, none⟩ = some (.int .i64 t) := ((cell_of_row w5 (w1.heap.size) 4 _ _ _ kr5_x).trans rfl); have hy5_x : w1.heap.size < w5.heap.size := ((Array.getElem?_eq_some_iff.1 kr5_x).1); clear kr5_x; have kr5_y : w5.heap[w2.heap.size]? = some (.cells #[.int .i64 c, .int .i64 n, .int .i64 d, .int .i64 L, .int .i64 u] 23 (0, 0)) := (kb_ hB5 K_y.out); have K5_y := Hid.mk' kr5_y; have h5_y_0 : w5.cell? ⟨w2.heap.size, 0, none⟩ = some (.int .i64 c) := ((cell_of_row w5 (w2.heap.size) 0 _ _ _ kr5_y).trans rfl); have h5_y_1 : w5.cell? ⟨w2.heap.size, 1, none⟩ = some (.int .i64 n) := ((cell_of_row w5 (w2.heap.size) 1 _ _ _ kr5_y).trans rfl); have h5_y_2 : w5.cell? ⟨w2.heap.size, 2, none⟩ = some (.int .i64 d) := ((cell_of_row w5 (w2.heap.size) 2 _ _ _ kr5_y).trans rfl); have h5_y_3 : w5.cell? ⟨w2.heap.size, 3, none⟩ = some (.int .i64 L) := ((cell_of_row w5 (w2.heap.size) 3 _ _ _ kr5_y).trans rfl); have h5_y_4 : w5.cell? ⟨w2.heap.size, 4, none⟩ = some (.int .i64 u) := ((cell_of_row w5 (w2.heap.size) 4 _ _ _ kr5_y).trans rfl); have hy5_y : w2.heap.size < w5.heap.size := ((Array.getElem?_eq_some_iff.1 kr5_y).1); clear kr5_y; have kr5_q : w5.heap[w3.heap.size]? = some (.cells #[.int .i64 c, .int .i64 n, .int .i64 d, .int .i64 L, .int .i64 u] 23 (0, 0)) := (kb_ hB5 K_q.out); have K5_q := Hid.mk' kr5_q; have h5_q_0 : w5.cell? ⟨w3.heap.size, 0, none⟩ = some (.int .i64 c) := ((cell_of_row w5 (w3.heap.size) 0 _ _ _ kr5_q).trans rfl); have h5_q_1 : w5.cell? ⟨w3.heap.size, 1, none⟩ = some (.int .i64 n) := ((cell_of_row w5 (w3.heap.size) 1 _ _ _ kr5_q).trans rfl); have h5_q_2 : w5.cell? ⟨w3.heap.size, 2, none⟩ = some (.int .i64 d) := ((cell_of_row w5 (w3.heap.size) 2 _ _ _ kr5_q).trans rfl); have h5_q_3 : w5.cell? ⟨w3.heap.size, 3, none⟩ = some (.int .i64 L) := ((cell_of_row w5 (w3.heap.size) 3 _ _ _ kr5_q).trans rfl); have h5_q_4 : w5.cell? ⟨w3.heap.size, 4, none⟩ = some (.int .i64 u) := ((cell_of_row w5 (w3.heap.size) 4 _ _ _ kr5_q).trans rfl); have hy5_q : w3.heap.size < w5.heap.size := ((Array.getElem?_eq_some_iff.1 kr5_q).1); clear kr5_q; have HB5 : Hid (Below w.heap.size w w5) := (by first | exact below_then HB4.out (by first | omega | (simp; omega)) hB5 | exact below_then (Below.drew HB4.out) (by first | omega | (simp; omega)) hB5); have hL5 : w.heap.size ≤ w5.heap.size := HB5.out.size)) | ((go_at_call 22; (with_reducible refine (HT2.out _).mono ?_); rintro e w6 ⟨rfl, hB6⟩; have kr6_b : w6.heap[w.heap.size]? = some (.cells #[.int .i64 c, .int .i64 n, .int .i64 d, .int .i64 l, .int .i64 a] 23 (0, 0)) := (kb_ hB6 K5_b.out); have K6_b := Hid.mk' kr6_b; have h6_b_0 : w6.cell? ⟨w.heap.size, 0, none⟩ = some (.int .i64 c) := ((cell_of_row w6 (w.heap.size) 0 _ _ _ kr6_b).trans rfl); have h6_b_1 : w6.cell? ⟨w.heap.size, 1, none⟩ = some (.int .i64 n) := ((cell_of_row w6 (w.heap.size) 1 _ _ _ kr6_b).trans rfl); have h6_b_2 : w6.cell? ⟨w.heap.size, 2, none⟩ = some (.int .i64 d) := ((cell_of_row w6 (w.heap.size) 2 _ _ _ kr6_b).trans rfl); have h6_b_3 : w6.cell? ⟨w.heap.size, 3, none⟩ = some (.int .i64 l) := ((cell_of_row w6 (w.heap.size) 3 _ _ _ kr6_b).trans rfl); have h6_b_4 : w6.cell? ⟨w.heap.size, 4, none⟩ = some (.int .i64 a) := ((cell_of_row w6 (w.heap.size) 4 _ _ _ kr6_b).trans rfl); have hy6_b : w.heap.size < w6.heap.size := ((Array.getElem?_eq_some_iff.1 kr6_b).1); clear kr6_b; have kr6_x : w6.heap[w1.heap.size]? = some (.cells #[.int .i64 c, .int .i64 n, .int .i64 d, .int .i64 X, .int .i64 t] 23 (0, 0)) := (kb_ hB6 K5_x.out); have K6_x := Hid.mk' kr6_x; have h6_x_0 : w6.cell? ⟨w1.heap.size, 0, none⟩ = some (.int .i64 c) := ((cell_of_row w6 (w1.heap.size) 0 _ _ _ kr6_x).trans rfl); have h6_x_1 : w6.cell? ⟨w1.heap.size, 1, none⟩ = some (.int .i64 n) := ((cell_of_row w6 (w1.heap.size) 1 _ _ _ kr6_x).trans rfl); have h6_x_2 : w6.cell? ⟨w1.heap.size, 2, none⟩ = some (.int .i64 d) := ((cell_of_row w6 (w1.heap.size) 2 _ _ _ kr6_x).trans rfl); have h6_x_3 : w6.cell? ⟨w1.heap.size, 3, none⟩ = some (.int .i64 X) := ((cell_of_row w6 (w1.heap.size) 3 _ _ _ kr6_x).trans rfl); have h6_x_4 : w6.cell? ⟨w1.heap.size, 4, none⟩ = some (.int .i64 t) := ((cell_of_row w6 (w1.heap.size) 4 _ _ _ kr6_x).trans rfl); have hy6_x : w1.heap.size < w6.heap.size := ((Array.getElem?_eq_some_iff.1 kr6_x).1); clear kr6_x; have kr6_y : w6.heap[w2.heap.size]? = some (.cells #[.int .i64 c, .int .i64 n, .int .i64 d, .int .i64 L, .int .i64 u] 23 (0, 0)) := (kb_ hB6 K5_y.out); have K6_y := Hid.mk' kr6_y; have h6_y_0 : w6.cell? ⟨w2.heap.size, 0, none⟩ = some (.int .i64 c) := ((cell_of_row w6 (w2.heap.size) 0 _ _ _ kr6_y).trans rfl); have h6_y_1 : w6.cell? ⟨w2.heap.size, 1, none⟩ = some (.int .i64 n) := ((cell_of_row w6 (w2.heap.size) 1 _ _ _ kr6_y).trans rfl); have h6_y_2 : w6.cell? ⟨w2.heap.size, 2, none⟩ = some (.int .i64 d) := ((cell_of_row w6 (w2.heap.size) 2 _ _ _ kr6_y).trans rfl); have h6_y_3 : w6.cell? ⟨w2.heap.size, 3, none⟩ = some (.int .i64 L) := ((cell_of_row w6 (w2.heap.size) 3 _ _ _ kr6_y).trans rfl); have h6_y_4 : w6.cell? ⟨w2.heap.size, 4, none⟩ = some (.int .i64 u) := ((cell_of_row w6 (w2.heap.size) 4 _ _ _ kr6_y).trans rfl); have hy6_y : w2.heap.size < w6.heap.size := ((Array.getElem?_eq_some_iff.1 kr6_y).1); clear kr6_y; have kr6_q : w6.heap[w3.heap.size]? = some (.cells #[.int .i64 c, .int .i64 n, .int .i64 d, .int .i64 L, .int .i64 u] 23 (0, 0)) := (kb_ hB6 K5_q.out); have K6_q := Hid.mk' kr6_q; have h6_q_0 : w6.cell? ⟨w3.heap.size, 0, none⟩ = some (.int .i64 c) := ((cell_of_row w6 (w3.heap.size) 0 _ _ _ kr6_q).trans rfl); have h6_q_1 : w6.cell? ⟨w3.heap.size, 1, none⟩ = some (.int .i64 n) := ((cell_of_row w6 (w3.heap.size) 1 _ _ _ kr6_q).trans rfl); have h6_q_2 : w6.cell? ⟨w3.heap.size, 2, none⟩ = some (.int .i64 d) := ((cell_of_row w6 (w3.heap.size) 2 _ _ _ kr6_q).trans rfl); have h6_q_3 : w6.cell? ⟨w3.heap.size, 3, none⟩ = some (.int .i64 L) := ((cell_of_row w6 (w3.heap.size) 3 _ _ _ kr6_q).trans rfl); have h6_q_4 : w6.cell? ⟨w3.heap.size, 4, none⟩ = some (.int .i64 u) := ((cell_of_row w6 (w3.heap.size) 4 _ _ _ kr6_q).trans rfl); have hy6_q : w3.heap.size < w6.heap.size := ((Array.getElem?_eq_some_iff.1 kr6_q).1); clear kr6_q; have HB6 : Hid (Below w.heap.size w w6) := (by first | exact below_then HB5.out (by first | omega | (simp; omega)) hB6 | exact below_then (Below.drew HB5.out) (by first | omega | (simp; omega)) hB6); have hL6 : w.heap.size ≤ w6.heap.size := HB6.out.size)))
  have K_b := K6_b
  have K_x := K6_x
  have K_y := K6_y
  have K_q := K6_q
  go_wp2_with fail
  go_at_call 19
  refine (sanity_any _).mono ?_
  rintro e w7 ⟨rfl, hB7⟩
  have HB7 : Hid (Below w.heap.size w w7) := below_then HB6.out (by first | omega | (simp; done) | (simp; omega)) hB7
  have hL7 : w.heap.size ≤ w7.heap.size := HB7.out.size
  clear hB7 K_b K_x K_y K_q hL6
  go_wp2_with fail
  go_ret
  exact ⟨rfl, HB7.out⟩
set_option maxHeartbeats 1000000 in
set_option maxRecDepth 100000 in
theorem w6_more (c n d l a t u z X L L2 T1 T2 : Int) (w : World) (hv : V c n d l a) (h1 : a ≤ t) (h2 : t ≤ u) (h3 : u ≤ 1099511627776) (hr1 : ∀ w : World, Calls Try.prog 10 #[bk c n d l a, .int .i64 t] w fun e w' => e = .returned (.tuple #[bk c n d X t, .int .i64 0]) ∧ Below w.heap.size w w') (hr2 : ∀ w : World, Calls Try.prog 10 #[bk c n d X t, .int .i64 u] w fun e w' => e = .returned (.tuple #[bk c n d L u, .int .i64 0]) ∧ Below w.heap.size w w') (hr3 : ∀ w : World, Calls Try.prog 10 #[bk c n d l a, .int .i64 u] w fun e w' => e = .returned (.tuple #[bk c n d L u, .int .i64 0]) ∧ Below w.heap.size w w') (ht1 : ∀ w : World, Calls Try.prog 22 #[bk c n d X t] w fun e w' => e = .returned (.int .i64 T1) ∧ Below w.heap.size w w') (ht2 : ∀ w : World, Calls Try.prog 22 #[bk c n d L u] w fun e w' => e = .returned (.int .i64 T2) ∧ Below w.heap.size w w') (hT : T1 ≤ T2) (h4 : 0 ≤ z) (h5 : l < z) :
    Calls Try.prog 6 #[bk c n d l a, .int .i64 t, .int .i64 u, .int .i64 z] w fun e w' => e = .returned (.bool true) ∧ Below w.heap.size w w' := by
  have HV : Hid (V c n d l a) := hv
  clear hv
  have HR1 : Hid (∀ w : World, Calls Try.prog 10 #[bk c n d l a, .int .i64 t] w fun e w' => e = .returned (.tuple #[bk c n d X t, .int .i64 0]) ∧ Below w.heap.size w w') := hr1
  have HR2 : Hid (∀ w : World, Calls Try.prog 10 #[bk c n d X t, .int .i64 u] w fun e w' => e = .returned (.tuple #[bk c n d L u, .int .i64 0]) ∧ Below w.heap.size w w') := hr2
  have HR3 : Hid (∀ w : World, Calls Try.prog 10 #[bk c n d l a, .int .i64 u] w fun e w' => e = .returned (.tuple #[bk c n d L u, .int .i64 0]) ∧ Below w.heap.size w w') := hr3
  have HT1 : Hid (∀ w : World, Calls Try.prog 22 #[bk c n d X t] w fun e w' => e = .returned (.int .i64 T1) ∧ Below w.heap.size w w') := ht1
  have HT2 : Hid (∀ w : World, Calls Try.prog 22 #[bk c n d L u] w fun e w' => e = .returned (.int .i64 T2) ∧ Below w.heap.size w w') := ht2
  clear hr1 hr2 hr3 ht1 ht2
  have HB0 : Hid (Below w.heap.size w w) := Below.refl _ _
  have hL0 : w.heap.size ≤ w.heap.size := Nat.le_refl _
  go_enter Try.func6, Try.ntmps6
  go_wp2_with ((go_at_call 20; refine (valid20_any _ _ _ _ _ _ true (decide_eq_true HV.out).symm).mono ?_; rintro e w' ⟨rfl, rfl⟩))
  go_at_call 10
  refine (HR1.out _).mono ?_
  rintro e w1 ⟨rfl, hB1⟩
  have kN_b := heap_alloc_new w (.cells #[.int .i64 c, .int .i64 n, .int .i64 d, .int .i64 l, .int .i64 a] 23)
  have kN_b2 := heap_alloc_new (w.alloc (.cells #[.int .i64 c, .int .i64 n, .int .i64 d, .int .i64 l, .int .i64 a] 23)) (.cells #[.int .i64 c, .int .i64 n, .int .i64 d, .int .i64 l, .int .i64 a] 23)
  simp only [World.size_alloc] at kN_b2
  have kk_b : w1.heap[w.heap.size]? = some (.cells #[.int .i64 c, .int .i64 n, .int .i64 d, .int .i64 l, .int .i64 a] 23 (0, 0)) := blk_below (blk_alloc kN_b _) hB1
  have HB1 : Hid (Below w.heap.size w w1) := below_then ((HB0.out.alloc (by first | omega | (simp; done) | (simp; omega)) _).alloc (by first | omega | (simp; done) | (simp; omega)) _) (by first | omega | (simp; done) | (simp; omega)) hB1
  have hL1 : w.heap.size ≤ w1.heap.size := HB1.out.size
  clear hB1 kN_b kN_b2
  have K_b : Hid (w1.heap[w.heap.size]? = some (.cells #[.int .i64 c, .int .i64 n, .int .i64 d, .int .i64 l, .int .i64 a] 23 (0, 0))) := kk_b
  have hy_b : w.heap.size < w1.heap.size := (Array.getElem?_eq_some_iff.1 kk_b).1
  have hb_0 : w1.cell? ⟨w.heap.size, 0, none⟩ = some (.int .i64 c) := (cell_of_row w1 (w.heap.size) 0 _ _ _ kk_b).trans rfl
  have hb_1 : w1.cell? ⟨w.heap.size, 1, none⟩ = some (.int .i64 n) := (cell_of_row w1 (w.heap.size) 1 _ _ _ kk_b).trans rfl
  have hb_2 : w1.cell? ⟨w.heap.size, 2, none⟩ = some (.int .i64 d) := (cell_of_row w1 (w.heap.size) 2 _ _ _ kk_b).trans rfl
  have hb_3 : w1.cell? ⟨w.heap.size, 3, none⟩ = some (.int .i64 l) := (cell_of_row w1 (w.heap.size) 3 _ _ _ kk_b).trans rfl
  have hb_4 : w1.cell? ⟨w.heap.size, 4, none⟩ = some (.int .i64 a) := (cell_of_row w1 (w.heap.size) 4 _ _ _ kk_b).trans rfl
  clear kk_b
  go_wp2_with fail
  go_at_call 10
  refine (HR2.out _).mono ?_
  rintro e w2 ⟨rfl, hB2⟩
  have kN_x := heap_alloc_new w1 (.cells #[.int .i64 c, .int .i64 n, .int .i64 d, .int .i64 X, .int .i64 t] 23)
  have kk_b : w2.heap[w.heap.size]? = some (.cells #[.int .i64 c, .int .i64 n, .int .i64 d, .int .i64 l, .int .i64 a] 23 (0, 0)) := blk_below (blk_alloc K_b.out _) hB2
  have kk_x : w2.heap[w1.heap.size]? = some (.cells #[.int .i64 c, .int .i64 n, .int .i64 d, .int .i64 X, .int .i64 t] 23 (0, 0)) := blk_below kN_x hB2
  have HB2 : Hid (Below w.heap.size w w2) := below_then (HB1.out.alloc (by first | omega | (simp; done) | (simp; omega)) _) (by first | omega | (simp; done) | (simp; omega)) hB2
  have hL2 : w.heap.size ≤ w2.heap.size := HB2.out.size
  clear hB2 K_b hy_b hb_0 hb_1 hb_2 hb_3 hb_4 kN_x hL1
  have K_b : Hid (w2.heap[w.heap.size]? = some (.cells #[.int .i64 c, .int .i64 n, .int .i64 d, .int .i64 l, .int .i64 a] 23 (0, 0))) := kk_b
  have hy_b : w.heap.size < w2.heap.size := (Array.getElem?_eq_some_iff.1 kk_b).1
  have hb_0 : w2.cell? ⟨w.heap.size, 0, none⟩ = some (.int .i64 c) := (cell_of_row w2 (w.heap.size) 0 _ _ _ kk_b).trans rfl
  have hb_1 : w2.cell? ⟨w.heap.size, 1, none⟩ = some (.int .i64 n) := (cell_of_row w2 (w.heap.size) 1 _ _ _ kk_b).trans rfl
  have hb_2 : w2.cell? ⟨w.heap.size, 2, none⟩ = some (.int .i64 d) := (cell_of_row w2 (w.heap.size) 2 _ _ _ kk_b).trans rfl
  have hb_3 : w2.cell? ⟨w.heap.size, 3, none⟩ = some (.int .i64 l) := (cell_of_row w2 (w.heap.size) 3 _ _ _ kk_b).trans rfl
  have hb_4 : w2.cell? ⟨w.heap.size, 4, none⟩ = some (.int .i64 a) := (cell_of_row w2 (w.heap.size) 4 _ _ _ kk_b).trans rfl
  clear kk_b
  have K_x : Hid (w2.heap[w1.heap.size]? = some (.cells #[.int .i64 c, .int .i64 n, .int .i64 d, .int .i64 X, .int .i64 t] 23 (0, 0))) := kk_x
  have hy_x : w1.heap.size < w2.heap.size := (Array.getElem?_eq_some_iff.1 kk_x).1
  have hx_0 : w2.cell? ⟨w1.heap.size, 0, none⟩ = some (.int .i64 c) := (cell_of_row w2 (w1.heap.size) 0 _ _ _ kk_x).trans rfl
  have hx_1 : w2.cell? ⟨w1.heap.size, 1, none⟩ = some (.int .i64 n) := (cell_of_row w2 (w1.heap.size) 1 _ _ _ kk_x).trans rfl
  have hx_2 : w2.cell? ⟨w1.heap.size, 2, none⟩ = some (.int .i64 d) := (cell_of_row w2 (w1.heap.size) 2 _ _ _ kk_x).trans rfl
  have hx_3 : w2.cell? ⟨w1.heap.size, 3, none⟩ = some (.int .i64 X) := (cell_of_row w2 (w1.heap.size) 3 _ _ _ kk_x).trans rfl
  have hx_4 : w2.cell? ⟨w1.heap.size, 4, none⟩ = some (.int .i64 t) := (cell_of_row w2 (w1.heap.size) 4 _ _ _ kk_x).trans rfl
  clear kk_x
  go_wp2_with fail
  go_at_call 10
  refine (HR3.out _).mono ?_
  rintro e w3 ⟨rfl, hB3⟩
  have kN_y := heap_alloc_new w2 (.cells #[.int .i64 c, .int .i64 n, .int .i64 d, .int .i64 L, .int .i64 u] 23)
  have kk_b : w3.heap[w.heap.size]? = some (.cells #[.int .i64 c, .int .i64 n, .int .i64 d, .int .i64 l, .int .i64 a] 23 (0, 0)) := blk_below (blk_alloc K_b.out _) hB3
  have kk_x : w3.heap[w1.heap.size]? = some (.cells #[.int .i64 c, .int .i64 n, .int .i64 d, .int .i64 X, .int .i64 t] 23 (0, 0)) := blk_below (blk_alloc K_x.out _) hB3
  have kk_y : w3.heap[w2.heap.size]? = some (.cells #[.int .i64 c, .int .i64 n, .int .i64 d, .int .i64 L, .int .i64 u] 23 (0, 0)) := blk_below kN_y hB3
  have HB3 : Hid (Below w.heap.size w w3) := below_then (HB2.out.alloc (by first | omega | (simp; done) | (simp; omega)) _) (by first | omega | (simp; done) | (simp; omega)) hB3
  have hL3 : w.heap.size ≤ w3.heap.size := HB3.out.size
  clear hB3 K_b hy_b hb_0 hb_1 hb_2 hb_3 hb_4 K_x hy_x hx_0 hx_1 hx_2 hx_3 hx_4 kN_y hL2
  have K_b : Hid (w3.heap[w.heap.size]? = some (.cells #[.int .i64 c, .int .i64 n, .int .i64 d, .int .i64 l, .int .i64 a] 23 (0, 0))) := kk_b
  have hy_b : w.heap.size < w3.heap.size := (Array.getElem?_eq_some_iff.1 kk_b).1
  have hb_0 : w3.cell? ⟨w.heap.size, 0, none⟩ = some (.int .i64 c) := (cell_of_row w3 (w.heap.size) 0 _ _ _ kk_b).trans rfl
  have hb_1 : w3.cell? ⟨w.heap.size, 1, none⟩ = some (.int .i64 n) := (cell_of_row w3 (w.heap.size) 1 _ _ _ kk_b).trans rfl
  have hb_2 : w3.cell? ⟨w.heap.size, 2, none⟩ = some (.int .i64 d) := (cell_of_row w3 (w.heap.size) 2 _ _ _ kk_b).trans rfl
  have hb_3 : w3.cell? ⟨w.heap.size, 3, none⟩ = some (.int .i64 l) := (cell_of_row w3 (w.heap.size) 3 _ _ _ kk_b).trans rfl
  have hb_4 : w3.cell? ⟨w.heap.size, 4, none⟩ = some (.int .i64 a) := (cell_of_row w3 (w.heap.size) 4 _ _ _ kk_b).trans rfl
  clear kk_b
  have K_x : Hid (w3.heap[w1.heap.size]? = some (.cells #[.int .i64 c, .int .i64 n, .int .i64 d, .int .i64 X, .int .i64 t] 23 (0, 0))) := kk_x
  have hy_x : w1.heap.size < w3.heap.size := (Array.getElem?_eq_some_iff.1 kk_x).1
  have hx_0 : w3.cell? ⟨w1.heap.size, 0, none⟩ = some (.int .i64 c) := (cell_of_row w3 (w1.heap.size) 0 _ _ _ kk_x).trans rfl
  have hx_1 : w3.cell? ⟨w1.heap.size, 1, none⟩ = some (.int .i64 n) := (cell_of_row w3 (w1.heap.size) 1 _ _ _ kk_x).trans rfl
  have hx_2 : w3.cell? ⟨w1.heap.size, 2, none⟩ = some (.int .i64 d) := (cell_of_row w3 (w1.heap.size) 2 _ _ _ kk_x).trans rfl
  have hx_3 : w3.cell? ⟨w1.heap.size, 3, none⟩ = some (.int .i64 X) := (cell_of_row w3 (w1.heap.size) 3 _ _ _ kk_x).trans rfl
  have hx_4 : w3.cell? ⟨w1.heap.size, 4, none⟩ = some (.int .i64 t) := (cell_of_row w3 (w1.heap.size) 4 _ _ _ kk_x).trans rfl
  clear kk_x
  have K_y : Hid (w3.heap[w2.heap.size]? = some (.cells #[.int .i64 c, .int .i64 n, .int .i64 d, .int .i64 L, .int .i64 u] 23 (0, 0))) := kk_y
  have hy_y : w2.heap.size < w3.heap.size := (Array.getElem?_eq_some_iff.1 kk_y).1
  have hy_0 : w3.cell? ⟨w2.heap.size, 0, none⟩ = some (.int .i64 c) := (cell_of_row w3 (w2.heap.size) 0 _ _ _ kk_y).trans rfl
  have hy_1 : w3.cell? ⟨w2.heap.size, 1, none⟩ = some (.int .i64 n) := (cell_of_row w3 (w2.heap.size) 1 _ _ _ kk_y).trans rfl
  have hy_2 : w3.cell? ⟨w2.heap.size, 2, none⟩ = some (.int .i64 d) := (cell_of_row w3 (w2.heap.size) 2 _ _ _ kk_y).trans rfl
  have hy_3 : w3.cell? ⟨w2.heap.size, 3, none⟩ = some (.int .i64 L) := (cell_of_row w3 (w2.heap.size) 3 _ _ _ kk_y).trans rfl
  have hy_4 : w3.cell? ⟨w2.heap.size, 4, none⟩ = some (.int .i64 u) := (cell_of_row w3 (w2.heap.size) 4 _ _ _ kk_y).trans rfl
  clear kk_y
  go_wp2_with fail
  obtain ⟨w4, hW_⟩ : ∃ W : World, (w3.alloc (.cells #[.int .i64 c, .int .i64 n, .int .i64 d, .int .i64 L, .int .i64 u] 23)) = W := ⟨_, rfl⟩
  rw [hW_]
  have kN_q := heap_alloc_new w3 (.cells #[.int .i64 c, .int .i64 n, .int .i64 d, .int .i64 L, .int .i64 u] 23)
  have kk_b : w4.heap[w.heap.size]? = some (.cells #[.int .i64 c, .int .i64 n, .int .i64 d, .int .i64 l, .int .i64 a] 23 (0, 0)) := by rw [← hW_]; exact (blk_alloc K_b.out _)
  have kk_x : w4.heap[w1.heap.size]? = some (.cells #[.int .i64 c, .int .i64 n, .int .i64 d, .int .i64 X, .int .i64 t] 23 (0, 0)) := by rw [← hW_]; exact (blk_alloc K_x.out _)
  have kk_y : w4.heap[w2.heap.size]? = some (.cells #[.int .i64 c, .int .i64 n, .int .i64 d, .int .i64 L, .int .i64 u] 23 (0, 0)) := by rw [← hW_]; exact (blk_alloc K_y.out _)
  have kk_q : w4.heap[w3.heap.size]? = some (.cells #[.int .i64 c, .int .i64 n, .int .i64 d, .int .i64 L, .int .i64 u] 23 (0, 0)) := by rw [← hW_]; exact kN_q
  have HB4 : Hid (Below w.heap.size w w4) := by rw [← hW_]; exact (HB3.out.alloc (by first | omega | (simp; done) | (simp; omega)) _)
  have hL4 : w.heap.size ≤ w4.heap.size := HB4.out.size
  clear hW_ K_b hy_b hb_0 hb_1 hb_2 hb_3 hb_4 K_x hy_x hx_0 hx_1 hx_2 hx_3 hx_4 K_y hy_y hy_0 hy_1 hy_2 hy_3 hy_4 kN_q hL3
  have K_b : Hid (w4.heap[w.heap.size]? = some (.cells #[.int .i64 c, .int .i64 n, .int .i64 d, .int .i64 l, .int .i64 a] 23 (0, 0))) := kk_b
  have hy_b : w.heap.size < w4.heap.size := (Array.getElem?_eq_some_iff.1 kk_b).1
  have hb_0 : w4.cell? ⟨w.heap.size, 0, none⟩ = some (.int .i64 c) := (cell_of_row w4 (w.heap.size) 0 _ _ _ kk_b).trans rfl
  have hb_1 : w4.cell? ⟨w.heap.size, 1, none⟩ = some (.int .i64 n) := (cell_of_row w4 (w.heap.size) 1 _ _ _ kk_b).trans rfl
  have hb_2 : w4.cell? ⟨w.heap.size, 2, none⟩ = some (.int .i64 d) := (cell_of_row w4 (w.heap.size) 2 _ _ _ kk_b).trans rfl
  have hb_3 : w4.cell? ⟨w.heap.size, 3, none⟩ = some (.int .i64 l) := (cell_of_row w4 (w.heap.size) 3 _ _ _ kk_b).trans rfl
  have hb_4 : w4.cell? ⟨w.heap.size, 4, none⟩ = some (.int .i64 a) := (cell_of_row w4 (w.heap.size) 4 _ _ _ kk_b).trans rfl
  clear kk_b
  have K_x : Hid (w4.heap[w1.heap.size]? = some (.cells #[.int .i64 c, .int .i64 n, .int .i64 d, .int .i64 X, .int .i64 t] 23 (0, 0))) := kk_x
  have hy_x : w1.heap.size < w4.heap.size := (Array.getElem?_eq_some_iff.1 kk_x).1
  have hx_0 : w4.cell? ⟨w1.heap.size, 0, none⟩ = some (.int .i64 c) := (cell_of_row w4 (w1.heap.size) 0 _ _ _ kk_x).trans rfl
  have hx_1 : w4.cell? ⟨w1.heap.size, 1, none⟩ = some (.int .i64 n) := (cell_of_row w4 (w1.heap.size) 1 _ _ _ kk_x).trans rfl
  have hx_2 : w4.cell? ⟨w1.heap.size, 2, none⟩ = some (.int .i64 d) := (cell_of_row w4 (w1.heap.size) 2 _ _ _ kk_x).trans rfl
  have hx_3 : w4.cell? ⟨w1.heap.size, 3, none⟩ = some (.int .i64 X) := (cell_of_row w4 (w1.heap.size) 3 _ _ _ kk_x).trans rfl
  have hx_4 : w4.cell? ⟨w1.heap.size, 4, none⟩ = some (.int .i64 t) := (cell_of_row w4 (w1.heap.size) 4 _ _ _ kk_x).trans rfl
  clear kk_x
  have K_y : Hid (w4.heap[w2.heap.size]? = some (.cells #[.int .i64 c, .int .i64 n, .int .i64 d, .int .i64 L, .int .i64 u] 23 (0, 0))) := kk_y
  have hy_y : w2.heap.size < w4.heap.size := (Array.getElem?_eq_some_iff.1 kk_y).1
  have hy_0 : w4.cell? ⟨w2.heap.size, 0, none⟩ = some (.int .i64 c) := (cell_of_row w4 (w2.heap.size) 0 _ _ _ kk_y).trans rfl
  have hy_1 : w4.cell? ⟨w2.heap.size, 1, none⟩ = some (.int .i64 n) := (cell_of_row w4 (w2.heap.size) 1 _ _ _ kk_y).trans rfl
  have hy_2 : w4.cell? ⟨w2.heap.size, 2, none⟩ = some (.int .i64 d) := (cell_of_row w4 (w2.heap.size) 2 _ _ _ kk_y).trans rfl
  have hy_3 : w4.cell? ⟨w2.heap.size, 3, none⟩ = some (.int .i64 L) := (cell_of_row w4 (w2.heap.size) 3 _ _ _ kk_y).trans rfl
  have hy_4 : w4.cell? ⟨w2.heap.size, 4, none⟩ = some (.int .i64 u) := (cell_of_row w4 (w2.heap.size) 4 _ _ _ kk_y).trans rfl
  clear kk_y
  have K_q : Hid (w4.heap[w3.heap.size]? = some (.cells #[.int .i64 c, .int .i64 n, .int .i64 d, .int .i64 L, .int .i64 u] 23 (0, 0))) := kk_q
  have hy_q : w3.heap.size < w4.heap.size := (Array.getElem?_eq_some_iff.1 kk_q).1
  have hq_0 : w4.cell? ⟨w3.heap.size, 0, none⟩ = some (.int .i64 c) := (cell_of_row w4 (w3.heap.size) 0 _ _ _ kk_q).trans rfl
  have hq_1 : w4.cell? ⟨w3.heap.size, 1, none⟩ = some (.int .i64 n) := (cell_of_row w4 (w3.heap.size) 1 _ _ _ kk_q).trans rfl
  have hq_2 : w4.cell? ⟨w3.heap.size, 2, none⟩ = some (.int .i64 d) := (cell_of_row w4 (w3.heap.size) 2 _ _ _ kk_q).trans rfl
  have hq_3 : w4.cell? ⟨w3.heap.size, 3, none⟩ = some (.int .i64 L) := (cell_of_row w4 (w3.heap.size) 3 _ _ _ kk_q).trans rfl
  have hq_4 : w4.cell? ⟨w3.heap.size, 4, none⟩ = some (.int .i64 u) := (cell_of_row w4 (w3.heap.size) 4 _ _ _ kk_q).trans rfl
  clear kk_q
  have hq : decide (T2 < T1) = false := decide_eq_false (by omega)
  go_region_held3 (fun w' => w'.cell? ⟨w1.heap.size, 0, none⟩ = some (.int .i64 c) ∧ w'.cell? ⟨w1.heap.size, 1, none⟩ = some (.int .i64 n) ∧ w'.cell? ⟨w1.heap.size, 2, none⟩ = some (.int .i64 d) ∧ w'.cell? ⟨w1.heap.size, 3, none⟩ = some (.int .i64 X) ∧ w'.cell? ⟨w1.heap.size, 4, none⟩ = some (.int .i64 t) ∧ w'.cell? ⟨w2.heap.size, 0, none⟩ = some (.int .i64 c) ∧ w'.cell? ⟨w2.heap.size, 1, none⟩ = some (.int .i64 n) ∧ w'.cell? ⟨w2.heap.size, 2, none⟩ = some (.int .i64 d) ∧ w'.cell? ⟨w2.heap.size, 3, none⟩ = some (.int .i64 L) ∧ w'.cell? ⟨w2.heap.size, 4, none⟩ = some (.int .i64 u) ∧ w'.cell? ⟨w3.heap.size, 0, none⟩ = some (.int .i64 c) ∧ w'.cell? ⟨w3.heap.size, 1, none⟩ = some (.int .i64 n) ∧ w'.cell? ⟨w3.heap.size, 2, none⟩ = some (.int .i64 d) ∧ w'.cell? ⟨w3.heap.size, 3, none⟩ = some (.int .i64 L) ∧ w'.cell? ⟨w3.heap.size, 4, none⟩ = some (.int .i64 u)) (go_keep) (first | ((go_at_call 22; (with_reducible refine (HT1.out _).mono ?_); rintro e w5 ⟨rfl, hB5⟩; have kr5_b : w5.heap[w.heap.size]? = some (.cells #[.int .i64 c, .int .i64 n, .int .i64 d, .int .i64 l, .int .i64 a] 23 (0, 0)) := (kb_ hB5 K_b.out); have K5_b := Hid.mk' kr5_b; have h5_b_0 : w5.cell? ⟨w.heap.size, 0, none⟩ = some (.int .i64 c) := ((cell_of_row w5 (w.heap.size) 0 _ _ _ kr5_b).trans rfl); have h5_b_1 : w5.cell? ⟨w.heap.size, 1, none⟩ = some (.int .i64 n) := ((cell_of_row w5 (w.heap.size) 1 _ _ _ kr5_b).trans rfl); have h5_b_2 : w5.cell? ⟨w.heap.size, 2, none⟩ = some (.int .i64 d) := ((cell_of_row w5 (w.heap.size) 2 _ _ _ kr5_b).trans rfl); have h5_b_3 : w5.cell? ⟨w.heap.size, 3, none⟩ = some (.int .i64 l) := ((cell_of_row w5 (w.heap.size) 3 _ _ _ kr5_b).trans rfl); have h5_b_4 : w5.cell? ⟨w.heap.size, 4, none⟩ = some (.int .i64 a) := ((cell_of_row w5 (w.heap.size) 4 _ _ _ kr5_b).trans rfl); have hy5_b : w.heap.size < w5.heap.size := ((Array.getElem?_eq_some_iff.1 kr5_b).1); clear kr5_b; have kr5_x : w5.heap[w1.heap.size]? = some (.cells #[.int .i64 c, .int .i64 n, .int .i64 d, .int .i64 X, .int .i64 t] 23 (0, 0)) := (kb_ hB5 K_x.out); have K5_x := Hid.mk' kr5_x; have h5_x_0 : w5.cell? ⟨w1.heap.size, 0, none⟩ = some (.int .i64 c) := ((cell_of_row w5 (w1.heap.size) 0 _ _ _ kr5_x).trans rfl); have h5_x_1 : w5.cell? ⟨w1.heap.size, 1, none⟩ = some (.int .i64 n) := ((cell_of_row w5 (w1.heap.size) 1 _ _ _ kr5_x).trans rfl); have h5_x_2 : w5.cell? ⟨w1.heap.size, 2, none⟩ = some (.int .i64 d) := ((cell_of_row w5 (w1.heap.size) 2 _ _ _ kr5_x).trans rfl); have h5_x_3 : w5.cell? ⟨w1.heap.size, 3, none⟩ = some (.int .i64 X) := ((cell_of_row w5 (w1.heap.size) 3 _ _ _ kr5_x).trans rfl); have h5_x_4 : w5.cell? ⟨w1.heap.size, 4, none⟩ = some (.int .i64 t) := ((cell_of_row w5 (w1.heap.size) 4 _ _ _ kr5_x).trans rfl); have hy5_x : w1.heap.size < w5.heap.size := ((Array.getElem?_eq_some_iff.1 kr5_x).1); clear kr5_x; have kr5_y : w5.heap[w2.heap.size]? = some (.cells #[.int .i64 c, .int .i64 n, .int .i64 d, .int .i64 L, .int .i64 u] 23 (0, 0)) := (kb_ hB5 K_y.out); have K5_y := Hid.mk' kr5_y; have h5_y_0 : w5.cell? ⟨w2.heap.size, 0, none⟩ = some (.int .i64 c) := ((cell_of_row w5 (w2.heap.size) 0 _ _ _ kr5_y).trans rfl); have h5_y_1 : w5.cell? ⟨w2.heap.size, 1, none⟩ = some (.int .i64 n) := ((cell_of_row w5 (w2.heap.size) 1 _ _ _ kr5_y).trans rfl); have h5_y_2 : w5.cell? ⟨w2.heap.size, 2, none⟩ = some (.int .i64 d) := ((cell_of_row w5 (w2.heap.size) 2 _ _ _ kr5_y).trans rfl); have h5_y_3 : w5.cell? ⟨w2.heap.size, 3, none⟩ = some (.int .i64 L) := ((cell_of_row w5 (w2.heap.size) 3 _ _ _ kr5_y).trans rfl); have h5_y_4 : w5.cell? ⟨w2.heap.size, 4, none⟩ = some (.int .i64 u) := ((cell_of_row w5 (w2.heap.size) 4 _ _ _ kr5_y).trans rfl); have hy5_y : w2.heap.size < w5.heap.size := ((Array.getElem?_eq_some_iff.1 kr5_y).1); clear kr5_y; have kr5_q : w5.heap[w3.heap.size]? = some (.cells #[.int .i64 c, .int .i64 n, .int .i64 d, .int .i64 L, .int .i64 u] 23 (0, 0)) := (kb_ hB5 K_q.out); have K5_q := Hid.mk' kr5_q; have h5_q_0 : w5.cell? ⟨w3.heap.size, 0, none⟩ = some (.int .i64 c) := ((cell_of_row w5 (w3.heap.size) 0 _ _ _ kr5_q).trans rfl); have h5_q_1 : w5.cell? ⟨w3.heap.size, 1, none⟩ = some (.int .i64 n) := ((cell_of_row w5 (w3.heap.size) 1 _ _ _ kr5_q).trans rfl); have h5_q_2 : w5.cell? ⟨w3.heap.size, 2, none⟩ = some (.int .i64 d) := ((cell_of_row w5 (w3.heap.size) 2 _ _ _ kr5_q).trans rfl); have h5_q_3 : w5.cell? ⟨w3.heap.size, 3, none⟩ = some (.int .i64 L) := ((cell_of_row w5 (w3.heap.size) 3 _ _ _ kr5_q).trans rfl); have h5_q_4 : w5.cell? ⟨w3.heap.size, 4, none⟩ = some (.int .i64 u) := ((cell_of_row w5 (w3.heap.size) 4 _ _ _ kr5_q).trans rfl); have hy5_q : w3.heap.size < w5.heap.size := ((Array.getElem?_eq_some_iff.1 kr5_q).1); clear kr5_q; have HB5 : Hid (Below w.heap.size w w5) := (by first | exact below_then HB4.out (by first | omega | (simp; omega)) hB5 | exact below_then (Below.drew HB4.out) (by first | omega | (simp; omega)) hB5); have hL5 : w.heap.size ≤ w5.heap.size := HB5.out.size)) | ((go_at_call 22; (with_reducible refine (HT2.out _).mono ?_); rintro e w6 ⟨rfl, hB6⟩; have kr6_b : w6.heap[w.heap.size]? = some (.cells #[.int .i64 c, .int .i64 n, .int .i64 d, .int .i64 l, .int .i64 a] 23 (0, 0)) := (kb_ hB6 K5_b.out); have K6_b := Hid.mk' kr6_b; have h6_b_0 : w6.cell? ⟨w.heap.size, 0, none⟩ = some (.int .i64 c) := ((cell_of_row w6 (w.heap.size) 0 _ _ _ kr6_b).trans rfl); have h6_b_1 : w6.cell? ⟨w.heap.size, 1, none⟩ = some (.int .i64 n) := ((cell_of_row w6 (w.heap.size) 1 _ _ _ kr6_b).trans rfl); have h6_b_2 : w6.cell? ⟨w.heap.size, 2, none⟩ = some (.int .i64 d) := ((cell_of_row w6 (w.heap.size) 2 _ _ _ kr6_b).trans rfl); have h6_b_3 : w6.cell? ⟨w.heap.size, 3, none⟩ = some (.int .i64 l) := ((cell_of_row w6 (w.heap.size) 3 _ _ _ kr6_b).trans rfl); have h6_b_4 : w6.cell? ⟨w.heap.size, 4, none⟩ = some (.int .i64 a) := ((cell_of_row w6 (w.heap.size) 4 _ _ _ kr6_b).trans rfl); have hy6_b : w.heap.size < w6.heap.size := ((Array.getElem?_eq_some_iff.1 kr6_b).1); clear kr6_b; have kr6_x : w6.heap[w1.heap.size]? = some (.cells #[.int .i64 c, .int .i64 n, .int .i64 d, .int .i64 X, .int .i64 t] 23 (0, 0)) := (kb_ hB6 K5_x.out); have K6_x := Hid.mk' kr6_x; have h6_x_0 : w6.cell? ⟨w1.heap.size, 0, none⟩ = some (.int .i64 c) := ((cell_of_row w6 (w1.heap.size) 0 _ _ _ kr6_x).trans rfl); have h6_x_1 : w6.cell? ⟨w1.heap.size, 1, none⟩ = some (.int .i64 n) := ((cell_of_row w6 (w1.heap.size) 1 _ _ _ kr6_x).trans rfl); have h6_x_2 : w6.cell? ⟨w1.heap.size, 2, none⟩ = some (.int .i64 d) := ((cell_of_row w6 (w1.heap.size) 2 _ _ _ kr6_x).trans rfl); have h6_x_3 : w6.cell? ⟨w1.heap.size, 3, none⟩ = some (.int .i64 X) := ((cell_of_row w6 (w1.heap.size) 3 _ _ _ kr6_x).trans rfl); have h6_x_4 : w6.cell? ⟨w1.heap.size, 4, none⟩ = some (.int .i64 t) := ((cell_of_row w6 (w1.heap.size) 4 _ _ _ kr6_x).trans rfl); have hy6_x : w1.heap.size < w6.heap.size := ((Array.getElem?_eq_some_iff.1 kr6_x).1); clear kr6_x; have kr6_y : w6.heap[w2.heap.size]? = some (.cells #[.int .i64 c, .int .i64 n, .int .i64 d, .int .i64 L, .int .i64 u] 23 (0, 0)) := (kb_ hB6 K5_y.out); have K6_y := Hid.mk' kr6_y; have h6_y_0 : w6.cell? ⟨w2.heap.size, 0, none⟩ = some (.int .i64 c) := ((cell_of_row w6 (w2.heap.size) 0 _ _ _ kr6_y).trans rfl); have h6_y_1 : w6.cell? ⟨w2.heap.size, 1, none⟩ = some (.int .i64 n) := ((cell_of_row w6 (w2.heap.size) 1 _ _ _ kr6_y).trans rfl); have h6_y_2 : w6.cell? ⟨w2.heap.size, 2, none⟩ = some (.int .i64 d) := ((cell_of_row w6 (w2.heap.size) 2 _ _ _ kr6_y).trans rfl); have h6_y_3 : w6.cell? ⟨w2.heap.size, 3, none⟩ = some (.int .i64 L) := ((cell_of_row w6 (w2.heap.size) 3 _ _ _ kr6_y).trans rfl); have h6_y_4 : w6.cell? ⟨w2.heap.size, 4, none⟩ = some (.int .i64 u) := ((cell_of_row w6 (w2.heap.size) 4 _ _ _ kr6_y).trans rfl); have hy6_y : w2.heap.size < w6.heap.size := ((Array.getElem?_eq_some_iff.1 kr6_y).1); clear kr6_y; have kr6_q : w6.heap[w3.heap.size]? = some (.cells #[.int .i64 c, .int .i64 n, .int .i64 d, .int .i64 L, .int .i64 u] 23 (0, 0)) := (kb_ hB6 K5_q.out); have K6_q := Hid.mk' kr6_q; have h6_q_0 : w6.cell? ⟨w3.heap.size, 0, none⟩ = some (.int .i64 c) := ((cell_of_row w6 (w3.heap.size) 0 _ _ _ kr6_q).trans rfl); have h6_q_1 : w6.cell? ⟨w3.heap.size, 1, none⟩ = some (.int .i64 n) := ((cell_of_row w6 (w3.heap.size) 1 _ _ _ kr6_q).trans rfl); have h6_q_2 : w6.cell? ⟨w3.heap.size, 2, none⟩ = some (.int .i64 d) := ((cell_of_row w6 (w3.heap.size) 2 _ _ _ kr6_q).trans rfl); have h6_q_3 : w6.cell? ⟨w3.heap.size, 3, none⟩ = some (.int .i64 L) := ((cell_of_row w6 (w3.heap.size) 3 _ _ _ kr6_q).trans rfl); have h6_q_4 : w6.cell? ⟨w3.heap.size, 4, none⟩ = some (.int .i64 u) := ((cell_of_row w6 (w3.heap.size) 4 _ _ _ kr6_q).trans rfl); have hy6_q : w3.heap.size < w6.heap.size := ((Array.getElem?_eq_some_iff.1 kr6_q).1); clear kr6_q; have HB6 : Hid (Below w.heap.size w w6) := (by first | exact below_then HB5.out (by first | omega | (simp; omega)) hB6 | exact below_then (Below.drew HB5.out) (by first | omega | (simp; omega)) hB6); have hL6 : w.heap.size ≤ w6.heap.size := HB6.out.size)))
  have K_b := K6_b
  have K_x := K6_x
  have K_y := K6_y
  have K_q := K6_q
  go_wp2_with fail
  go_at_call 19
  refine (sanity_any _).mono ?_
  rintro e w7 ⟨rfl, hB7⟩
  have HB7 : Hid (Below w.heap.size w w7) := below_then HB6.out (by first | omega | (simp; done) | (simp; omega)) hB7
  have hL7 : w.heap.size ≤ w7.heap.size := HB7.out.size
  clear hB7 K_b K_x K_y K_q hL6
  go_wp2_with fail
  go_ret
  exact ⟨rfl, HB7.out⟩
set_option maxHeartbeats 1000000 in
set_option maxRecDepth 100000 in
theorem w6_fit (c n d l a t u z X L L2 T1 T2 : Int) (w : World) (hv : V c n d l a) (h1 : a ≤ t) (h2 : t ≤ u) (h3 : u ≤ 1099511627776) (hr1 : ∀ w : World, Calls Try.prog 10 #[bk c n d l a, .int .i64 t] w fun e w' => e = .returned (.tuple #[bk c n d X t, .int .i64 0]) ∧ Below w.heap.size w w') (hr2 : ∀ w : World, Calls Try.prog 10 #[bk c n d X t, .int .i64 u] w fun e w' => e = .returned (.tuple #[bk c n d L u, .int .i64 0]) ∧ Below w.heap.size w w') (hr3 : ∀ w : World, Calls Try.prog 10 #[bk c n d l a, .int .i64 u] w fun e w' => e = .returned (.tuple #[bk c n d L u, .int .i64 0]) ∧ Below w.heap.size w w') (ht1 : ∀ w : World, Calls Try.prog 22 #[bk c n d X t] w fun e w' => e = .returned (.int .i64 T1) ∧ Below w.heap.size w w') (ht2 : ∀ w : World, Calls Try.prog 22 #[bk c n d L u] w fun e w' => e = .returned (.int .i64 T2) ∧ Below w.heap.size w w') (hT : T1 ≤ T2) (h4 : 0 ≤ z) (h5 : z ≤ l) (hr4 : ∀ w : World, Calls Try.prog 10 #[bk c n d (l - z) a, .int .i64 u] w fun e w' => e = .returned (.tuple #[bk c n d L2 u, .int .i64 0]) ∧ Below w.heap.size w w') (h6 : L2 ≤ L) (h7 : L - L2 ≤ z) (h8 : 0 ≤ L2) (h9 : L ≤ 1125899906842624) :
    Calls Try.prog 6 #[bk c n d l a, .int .i64 t, .int .i64 u, .int .i64 z] w fun e w' => e = .returned (.bool true) ∧ Below w.heap.size w w' := by
  have hl0 : 0 ≤ l := hv.2.2.2.2.2.2.1
  have hl1 : l ≤ 1125899906842624 := by have := cd_bd hv.1 hv.2.1 (by have := hv.2.2.2.2.1; omega : 0 ≤ d) hv.2.2.2.2.2.1; have := hv.2.2.2.2.2.2.2.1; omega
  have HV : Hid (V c n d l a) := hv
  clear hv
  have HR1 : Hid (∀ w : World, Calls Try.prog 10 #[bk c n d l a, .int .i64 t] w fun e w' => e = .returned (.tuple #[bk c n d X t, .int .i64 0]) ∧ Below w.heap.size w w') := hr1
  have HR2 : Hid (∀ w : World, Calls Try.prog 10 #[bk c n d X t, .int .i64 u] w fun e w' => e = .returned (.tuple #[bk c n d L u, .int .i64 0]) ∧ Below w.heap.size w w') := hr2
  have HR3 : Hid (∀ w : World, Calls Try.prog 10 #[bk c n d l a, .int .i64 u] w fun e w' => e = .returned (.tuple #[bk c n d L u, .int .i64 0]) ∧ Below w.heap.size w w') := hr3
  have HT1 : Hid (∀ w : World, Calls Try.prog 22 #[bk c n d X t] w fun e w' => e = .returned (.int .i64 T1) ∧ Below w.heap.size w w') := ht1
  have HT2 : Hid (∀ w : World, Calls Try.prog 22 #[bk c n d L u] w fun e w' => e = .returned (.int .i64 T2) ∧ Below w.heap.size w w') := ht2
  clear hr1 hr2 hr3 ht1 ht2
  have HR4 : Hid (∀ w : World, Calls Try.prog 10 #[bk c n d (l - z) a, .int .i64 u] w fun e w' => e = .returned (.tuple #[bk c n d L2 u, .int .i64 0]) ∧ Below w.heap.size w w') := hr4
  clear hr4
  have HB0 : Hid (Below w.heap.size w w) := Below.refl _ _
  have hL0 : w.heap.size ≤ w.heap.size := Nat.le_refl _
  go_enter Try.func6, Try.ntmps6
  go_wp2_with ((go_at_call 20; refine (valid20_any _ _ _ _ _ _ true (decide_eq_true HV.out).symm).mono ?_; rintro e w' ⟨rfl, rfl⟩))
  go_at_call 10
  refine (HR1.out _).mono ?_
  rintro e w1 ⟨rfl, hB1⟩
  have kN_b := heap_alloc_new w (.cells #[.int .i64 c, .int .i64 n, .int .i64 d, .int .i64 l, .int .i64 a] 23)
  have kN_b2 := heap_alloc_new (w.alloc (.cells #[.int .i64 c, .int .i64 n, .int .i64 d, .int .i64 l, .int .i64 a] 23)) (.cells #[.int .i64 c, .int .i64 n, .int .i64 d, .int .i64 l, .int .i64 a] 23)
  simp only [World.size_alloc] at kN_b2
  have kk_b : w1.heap[w.heap.size]? = some (.cells #[.int .i64 c, .int .i64 n, .int .i64 d, .int .i64 l, .int .i64 a] 23 (0, 0)) := blk_below (blk_alloc kN_b _) hB1
  have HB1 : Hid (Below w.heap.size w w1) := below_then ((HB0.out.alloc (by first | omega | (simp; done) | (simp; omega)) _).alloc (by first | omega | (simp; done) | (simp; omega)) _) (by first | omega | (simp; done) | (simp; omega)) hB1
  have hL1 : w.heap.size ≤ w1.heap.size := HB1.out.size
  clear hB1 kN_b kN_b2
  have K_b : Hid (w1.heap[w.heap.size]? = some (.cells #[.int .i64 c, .int .i64 n, .int .i64 d, .int .i64 l, .int .i64 a] 23 (0, 0))) := kk_b
  have hy_b : w.heap.size < w1.heap.size := (Array.getElem?_eq_some_iff.1 kk_b).1
  have hb_0 : w1.cell? ⟨w.heap.size, 0, none⟩ = some (.int .i64 c) := (cell_of_row w1 (w.heap.size) 0 _ _ _ kk_b).trans rfl
  have hb_1 : w1.cell? ⟨w.heap.size, 1, none⟩ = some (.int .i64 n) := (cell_of_row w1 (w.heap.size) 1 _ _ _ kk_b).trans rfl
  have hb_2 : w1.cell? ⟨w.heap.size, 2, none⟩ = some (.int .i64 d) := (cell_of_row w1 (w.heap.size) 2 _ _ _ kk_b).trans rfl
  have hb_3 : w1.cell? ⟨w.heap.size, 3, none⟩ = some (.int .i64 l) := (cell_of_row w1 (w.heap.size) 3 _ _ _ kk_b).trans rfl
  have hb_4 : w1.cell? ⟨w.heap.size, 4, none⟩ = some (.int .i64 a) := (cell_of_row w1 (w.heap.size) 4 _ _ _ kk_b).trans rfl
  clear kk_b
  go_wp2_with fail
  go_at_call 10
  refine (HR2.out _).mono ?_
  rintro e w2 ⟨rfl, hB2⟩
  have kN_x := heap_alloc_new w1 (.cells #[.int .i64 c, .int .i64 n, .int .i64 d, .int .i64 X, .int .i64 t] 23)
  have kk_b : w2.heap[w.heap.size]? = some (.cells #[.int .i64 c, .int .i64 n, .int .i64 d, .int .i64 l, .int .i64 a] 23 (0, 0)) := blk_below (blk_alloc K_b.out _) hB2
  have kk_x : w2.heap[w1.heap.size]? = some (.cells #[.int .i64 c, .int .i64 n, .int .i64 d, .int .i64 X, .int .i64 t] 23 (0, 0)) := blk_below kN_x hB2
  have HB2 : Hid (Below w.heap.size w w2) := below_then (HB1.out.alloc (by first | omega | (simp; done) | (simp; omega)) _) (by first | omega | (simp; done) | (simp; omega)) hB2
  have hL2 : w.heap.size ≤ w2.heap.size := HB2.out.size
  clear hB2 K_b hy_b hb_0 hb_1 hb_2 hb_3 hb_4 kN_x hL1
  have K_b : Hid (w2.heap[w.heap.size]? = some (.cells #[.int .i64 c, .int .i64 n, .int .i64 d, .int .i64 l, .int .i64 a] 23 (0, 0))) := kk_b
  have hy_b : w.heap.size < w2.heap.size := (Array.getElem?_eq_some_iff.1 kk_b).1
  have hb_0 : w2.cell? ⟨w.heap.size, 0, none⟩ = some (.int .i64 c) := (cell_of_row w2 (w.heap.size) 0 _ _ _ kk_b).trans rfl
  have hb_1 : w2.cell? ⟨w.heap.size, 1, none⟩ = some (.int .i64 n) := (cell_of_row w2 (w.heap.size) 1 _ _ _ kk_b).trans rfl
  have hb_2 : w2.cell? ⟨w.heap.size, 2, none⟩ = some (.int .i64 d) := (cell_of_row w2 (w.heap.size) 2 _ _ _ kk_b).trans rfl
  have hb_3 : w2.cell? ⟨w.heap.size, 3, none⟩ = some (.int .i64 l) := (cell_of_row w2 (w.heap.size) 3 _ _ _ kk_b).trans rfl
  have hb_4 : w2.cell? ⟨w.heap.size, 4, none⟩ = some (.int .i64 a) := (cell_of_row w2 (w.heap.size) 4 _ _ _ kk_b).trans rfl
  clear kk_b
  have K_x : Hid (w2.heap[w1.heap.size]? = some (.cells #[.int .i64 c, .int .i64 n, .int .i64 d, .int .i64 X, .int .i64 t] 23 (0, 0))) := kk_x
  have hy_x : w1.heap.size < w2.heap.size := (Array.getElem?_eq_some_iff.1 kk_x).1
  have hx_0 : w2.cell? ⟨w1.heap.size, 0, none⟩ = some (.int .i64 c) := (cell_of_row w2 (w1.heap.size) 0 _ _ _ kk_x).trans rfl
  have hx_1 : w2.cell? ⟨w1.heap.size, 1, none⟩ = some (.int .i64 n) := (cell_of_row w2 (w1.heap.size) 1 _ _ _ kk_x).trans rfl
  have hx_2 : w2.cell? ⟨w1.heap.size, 2, none⟩ = some (.int .i64 d) := (cell_of_row w2 (w1.heap.size) 2 _ _ _ kk_x).trans rfl
  have hx_3 : w2.cell? ⟨w1.heap.size, 3, none⟩ = some (.int .i64 X) := (cell_of_row w2 (w1.heap.size) 3 _ _ _ kk_x).trans rfl
  have hx_4 : w2.cell? ⟨w1.heap.size, 4, none⟩ = some (.int .i64 t) := (cell_of_row w2 (w1.heap.size) 4 _ _ _ kk_x).trans rfl
  clear kk_x
  go_wp2_with fail
  go_at_call 10
  refine (HR3.out _).mono ?_
  rintro e w3 ⟨rfl, hB3⟩
  have kN_y := heap_alloc_new w2 (.cells #[.int .i64 c, .int .i64 n, .int .i64 d, .int .i64 L, .int .i64 u] 23)
  have kk_b : w3.heap[w.heap.size]? = some (.cells #[.int .i64 c, .int .i64 n, .int .i64 d, .int .i64 l, .int .i64 a] 23 (0, 0)) := blk_below (blk_alloc K_b.out _) hB3
  have kk_x : w3.heap[w1.heap.size]? = some (.cells #[.int .i64 c, .int .i64 n, .int .i64 d, .int .i64 X, .int .i64 t] 23 (0, 0)) := blk_below (blk_alloc K_x.out _) hB3
  have kk_y : w3.heap[w2.heap.size]? = some (.cells #[.int .i64 c, .int .i64 n, .int .i64 d, .int .i64 L, .int .i64 u] 23 (0, 0)) := blk_below kN_y hB3
  have HB3 : Hid (Below w.heap.size w w3) := below_then (HB2.out.alloc (by first | omega | (simp; done) | (simp; omega)) _) (by first | omega | (simp; done) | (simp; omega)) hB3
  have hL3 : w.heap.size ≤ w3.heap.size := HB3.out.size
  clear hB3 K_b hy_b hb_0 hb_1 hb_2 hb_3 hb_4 K_x hy_x hx_0 hx_1 hx_2 hx_3 hx_4 kN_y hL2
  have K_b : Hid (w3.heap[w.heap.size]? = some (.cells #[.int .i64 c, .int .i64 n, .int .i64 d, .int .i64 l, .int .i64 a] 23 (0, 0))) := kk_b
  have hy_b : w.heap.size < w3.heap.size := (Array.getElem?_eq_some_iff.1 kk_b).1
  have hb_0 : w3.cell? ⟨w.heap.size, 0, none⟩ = some (.int .i64 c) := (cell_of_row w3 (w.heap.size) 0 _ _ _ kk_b).trans rfl
  have hb_1 : w3.cell? ⟨w.heap.size, 1, none⟩ = some (.int .i64 n) := (cell_of_row w3 (w.heap.size) 1 _ _ _ kk_b).trans rfl
  have hb_2 : w3.cell? ⟨w.heap.size, 2, none⟩ = some (.int .i64 d) := (cell_of_row w3 (w.heap.size) 2 _ _ _ kk_b).trans rfl
  have hb_3 : w3.cell? ⟨w.heap.size, 3, none⟩ = some (.int .i64 l) := (cell_of_row w3 (w.heap.size) 3 _ _ _ kk_b).trans rfl
  have hb_4 : w3.cell? ⟨w.heap.size, 4, none⟩ = some (.int .i64 a) := (cell_of_row w3 (w.heap.size) 4 _ _ _ kk_b).trans rfl
  clear kk_b
  have K_x : Hid (w3.heap[w1.heap.size]? = some (.cells #[.int .i64 c, .int .i64 n, .int .i64 d, .int .i64 X, .int .i64 t] 23 (0, 0))) := kk_x
  have hy_x : w1.heap.size < w3.heap.size := (Array.getElem?_eq_some_iff.1 kk_x).1
  have hx_0 : w3.cell? ⟨w1.heap.size, 0, none⟩ = some (.int .i64 c) := (cell_of_row w3 (w1.heap.size) 0 _ _ _ kk_x).trans rfl
  have hx_1 : w3.cell? ⟨w1.heap.size, 1, none⟩ = some (.int .i64 n) := (cell_of_row w3 (w1.heap.size) 1 _ _ _ kk_x).trans rfl
  have hx_2 : w3.cell? ⟨w1.heap.size, 2, none⟩ = some (.int .i64 d) := (cell_of_row w3 (w1.heap.size) 2 _ _ _ kk_x).trans rfl
  have hx_3 : w3.cell? ⟨w1.heap.size, 3, none⟩ = some (.int .i64 X) := (cell_of_row w3 (w1.heap.size) 3 _ _ _ kk_x).trans rfl
  have hx_4 : w3.cell? ⟨w1.heap.size, 4, none⟩ = some (.int .i64 t) := (cell_of_row w3 (w1.heap.size) 4 _ _ _ kk_x).trans rfl
  clear kk_x
  have K_y : Hid (w3.heap[w2.heap.size]? = some (.cells #[.int .i64 c, .int .i64 n, .int .i64 d, .int .i64 L, .int .i64 u] 23 (0, 0))) := kk_y
  have hy_y : w2.heap.size < w3.heap.size := (Array.getElem?_eq_some_iff.1 kk_y).1
  have hy_0 : w3.cell? ⟨w2.heap.size, 0, none⟩ = some (.int .i64 c) := (cell_of_row w3 (w2.heap.size) 0 _ _ _ kk_y).trans rfl
  have hy_1 : w3.cell? ⟨w2.heap.size, 1, none⟩ = some (.int .i64 n) := (cell_of_row w3 (w2.heap.size) 1 _ _ _ kk_y).trans rfl
  have hy_2 : w3.cell? ⟨w2.heap.size, 2, none⟩ = some (.int .i64 d) := (cell_of_row w3 (w2.heap.size) 2 _ _ _ kk_y).trans rfl
  have hy_3 : w3.cell? ⟨w2.heap.size, 3, none⟩ = some (.int .i64 L) := (cell_of_row w3 (w2.heap.size) 3 _ _ _ kk_y).trans rfl
  have hy_4 : w3.cell? ⟨w2.heap.size, 4, none⟩ = some (.int .i64 u) := (cell_of_row w3 (w2.heap.size) 4 _ _ _ kk_y).trans rfl
  clear kk_y
  go_wp2_with fail
  obtain ⟨w4, hW_⟩ : ∃ W : World, (w3.alloc (.cells #[.int .i64 c, .int .i64 n, .int .i64 d, .int .i64 L, .int .i64 u] 23)) = W := ⟨_, rfl⟩
  rw [hW_]
  have kN_q := heap_alloc_new w3 (.cells #[.int .i64 c, .int .i64 n, .int .i64 d, .int .i64 L, .int .i64 u] 23)
  have kk_b : w4.heap[w.heap.size]? = some (.cells #[.int .i64 c, .int .i64 n, .int .i64 d, .int .i64 l, .int .i64 a] 23 (0, 0)) := by rw [← hW_]; exact (blk_alloc K_b.out _)
  have kk_x : w4.heap[w1.heap.size]? = some (.cells #[.int .i64 c, .int .i64 n, .int .i64 d, .int .i64 X, .int .i64 t] 23 (0, 0)) := by rw [← hW_]; exact (blk_alloc K_x.out _)
  have kk_y : w4.heap[w2.heap.size]? = some (.cells #[.int .i64 c, .int .i64 n, .int .i64 d, .int .i64 L, .int .i64 u] 23 (0, 0)) := by rw [← hW_]; exact (blk_alloc K_y.out _)
  have kk_q : w4.heap[w3.heap.size]? = some (.cells #[.int .i64 c, .int .i64 n, .int .i64 d, .int .i64 L, .int .i64 u] 23 (0, 0)) := by rw [← hW_]; exact kN_q
  have HB4 : Hid (Below w.heap.size w w4) := by rw [← hW_]; exact (HB3.out.alloc (by first | omega | (simp; done) | (simp; omega)) _)
  have hL4 : w.heap.size ≤ w4.heap.size := HB4.out.size
  clear hW_ K_b hy_b hb_0 hb_1 hb_2 hb_3 hb_4 K_x hy_x hx_0 hx_1 hx_2 hx_3 hx_4 K_y hy_y hy_0 hy_1 hy_2 hy_3 hy_4 kN_q hL3
  have K_b : Hid (w4.heap[w.heap.size]? = some (.cells #[.int .i64 c, .int .i64 n, .int .i64 d, .int .i64 l, .int .i64 a] 23 (0, 0))) := kk_b
  have hy_b : w.heap.size < w4.heap.size := (Array.getElem?_eq_some_iff.1 kk_b).1
  have hb_0 : w4.cell? ⟨w.heap.size, 0, none⟩ = some (.int .i64 c) := (cell_of_row w4 (w.heap.size) 0 _ _ _ kk_b).trans rfl
  have hb_1 : w4.cell? ⟨w.heap.size, 1, none⟩ = some (.int .i64 n) := (cell_of_row w4 (w.heap.size) 1 _ _ _ kk_b).trans rfl
  have hb_2 : w4.cell? ⟨w.heap.size, 2, none⟩ = some (.int .i64 d) := (cell_of_row w4 (w.heap.size) 2 _ _ _ kk_b).trans rfl
  have hb_3 : w4.cell? ⟨w.heap.size, 3, none⟩ = some (.int .i64 l) := (cell_of_row w4 (w.heap.size) 3 _ _ _ kk_b).trans rfl
  have hb_4 : w4.cell? ⟨w.heap.size, 4, none⟩ = some (.int .i64 a) := (cell_of_row w4 (w.heap.size) 4 _ _ _ kk_b).trans rfl
  clear kk_b
  have K_x : Hid (w4.heap[w1.heap.size]? = some (.cells #[.int .i64 c, .int .i64 n, .int .i64 d, .int .i64 X, .int .i64 t] 23 (0, 0))) := kk_x
  have hy_x : w1.heap.size < w4.heap.size := (Array.getElem?_eq_some_iff.1 kk_x).1
  have hx_0 : w4.cell? ⟨w1.heap.size, 0, none⟩ = some (.int .i64 c) := (cell_of_row w4 (w1.heap.size) 0 _ _ _ kk_x).trans rfl
  have hx_1 : w4.cell? ⟨w1.heap.size, 1, none⟩ = some (.int .i64 n) := (cell_of_row w4 (w1.heap.size) 1 _ _ _ kk_x).trans rfl
  have hx_2 : w4.cell? ⟨w1.heap.size, 2, none⟩ = some (.int .i64 d) := (cell_of_row w4 (w1.heap.size) 2 _ _ _ kk_x).trans rfl
  have hx_3 : w4.cell? ⟨w1.heap.size, 3, none⟩ = some (.int .i64 X) := (cell_of_row w4 (w1.heap.size) 3 _ _ _ kk_x).trans rfl
  have hx_4 : w4.cell? ⟨w1.heap.size, 4, none⟩ = some (.int .i64 t) := (cell_of_row w4 (w1.heap.size) 4 _ _ _ kk_x).trans rfl
  clear kk_x
  have K_y : Hid (w4.heap[w2.heap.size]? = some (.cells #[.int .i64 c, .int .i64 n, .int .i64 d, .int .i64 L, .int .i64 u] 23 (0, 0))) := kk_y
  have hy_y : w2.heap.size < w4.heap.size := (Array.getElem?_eq_some_iff.1 kk_y).1
  have hy_0 : w4.cell? ⟨w2.heap.size, 0, none⟩ = some (.int .i64 c) := (cell_of_row w4 (w2.heap.size) 0 _ _ _ kk_y).trans rfl
  have hy_1 : w4.cell? ⟨w2.heap.size, 1, none⟩ = some (.int .i64 n) := (cell_of_row w4 (w2.heap.size) 1 _ _ _ kk_y).trans rfl
  have hy_2 : w4.cell? ⟨w2.heap.size, 2, none⟩ = some (.int .i64 d) := (cell_of_row w4 (w2.heap.size) 2 _ _ _ kk_y).trans rfl
  have hy_3 : w4.cell? ⟨w2.heap.size, 3, none⟩ = some (.int .i64 L) := (cell_of_row w4 (w2.heap.size) 3 _ _ _ kk_y).trans rfl
  have hy_4 : w4.cell? ⟨w2.heap.size, 4, none⟩ = some (.int .i64 u) := (cell_of_row w4 (w2.heap.size) 4 _ _ _ kk_y).trans rfl
  clear kk_y
  have K_q : Hid (w4.heap[w3.heap.size]? = some (.cells #[.int .i64 c, .int .i64 n, .int .i64 d, .int .i64 L, .int .i64 u] 23 (0, 0))) := kk_q
  have hy_q : w3.heap.size < w4.heap.size := (Array.getElem?_eq_some_iff.1 kk_q).1
  have hq_0 : w4.cell? ⟨w3.heap.size, 0, none⟩ = some (.int .i64 c) := (cell_of_row w4 (w3.heap.size) 0 _ _ _ kk_q).trans rfl
  have hq_1 : w4.cell? ⟨w3.heap.size, 1, none⟩ = some (.int .i64 n) := (cell_of_row w4 (w3.heap.size) 1 _ _ _ kk_q).trans rfl
  have hq_2 : w4.cell? ⟨w3.heap.size, 2, none⟩ = some (.int .i64 d) := (cell_of_row w4 (w3.heap.size) 2 _ _ _ kk_q).trans rfl
  have hq_3 : w4.cell? ⟨w3.heap.size, 3, none⟩ = some (.int .i64 L) := (cell_of_row w4 (w3.heap.size) 3 _ _ _ kk_q).trans rfl
  have hq_4 : w4.cell? ⟨w3.heap.size, 4, none⟩ = some (.int .i64 u) := (cell_of_row w4 (w3.heap.size) 4 _ _ _ kk_q).trans rfl
  clear kk_q
  have hq : decide (T2 < T1) = false := decide_eq_false (by omega)
  go_region_held3 (fun w' => w'.cell? ⟨w1.heap.size, 0, none⟩ = some (.int .i64 c) ∧ w'.cell? ⟨w1.heap.size, 1, none⟩ = some (.int .i64 n) ∧ w'.cell? ⟨w1.heap.size, 2, none⟩ = some (.int .i64 d) ∧ w'.cell? ⟨w1.heap.size, 3, none⟩ = some (.int .i64 X) ∧ w'.cell? ⟨w1.heap.size, 4, none⟩ = some (.int .i64 t) ∧ w'.cell? ⟨w2.heap.size, 0, none⟩ = some (.int .i64 c) ∧ w'.cell? ⟨w2.heap.size, 1, none⟩ = some (.int .i64 n) ∧ w'.cell? ⟨w2.heap.size, 2, none⟩ = some (.int .i64 d) ∧ w'.cell? ⟨w2.heap.size, 3, none⟩ = some (.int .i64 L) ∧ w'.cell? ⟨w2.heap.size, 4, none⟩ = some (.int .i64 u) ∧ w'.cell? ⟨w3.heap.size, 0, none⟩ = some (.int .i64 c) ∧ w'.cell? ⟨w3.heap.size, 1, none⟩ = some (.int .i64 n) ∧ w'.cell? ⟨w3.heap.size, 2, none⟩ = some (.int .i64 d) ∧ w'.cell? ⟨w3.heap.size, 3, none⟩ = some (.int .i64 L) ∧ w'.cell? ⟨w3.heap.size, 4, none⟩ = some (.int .i64 u)) (go_keep) (first | ((go_at_call 22; (with_reducible refine (HT1.out _).mono ?_); rintro e w5 ⟨rfl, hB5⟩; have kr5_b : w5.heap[w.heap.size]? = some (.cells #[.int .i64 c, .int .i64 n, .int .i64 d, .int .i64 l, .int .i64 a] 23 (0, 0)) := (kb_ hB5 K_b.out); have K5_b := Hid.mk' kr5_b; have h5_b_0 : w5.cell? ⟨w.heap.size, 0, none⟩ = some (.int .i64 c) := ((cell_of_row w5 (w.heap.size) 0 _ _ _ kr5_b).trans rfl); have h5_b_1 : w5.cell? ⟨w.heap.size, 1, none⟩ = some (.int .i64 n) := ((cell_of_row w5 (w.heap.size) 1 _ _ _ kr5_b).trans rfl); have h5_b_2 : w5.cell? ⟨w.heap.size, 2, none⟩ = some (.int .i64 d) := ((cell_of_row w5 (w.heap.size) 2 _ _ _ kr5_b).trans rfl); have h5_b_3 : w5.cell? ⟨w.heap.size, 3, none⟩ = some (.int .i64 l) := ((cell_of_row w5 (w.heap.size) 3 _ _ _ kr5_b).trans rfl); have h5_b_4 : w5.cell? ⟨w.heap.size, 4, none⟩ = some (.int .i64 a) := ((cell_of_row w5 (w.heap.size) 4 _ _ _ kr5_b).trans rfl); have hy5_b : w.heap.size < w5.heap.size := ((Array.getElem?_eq_some_iff.1 kr5_b).1); clear kr5_b; have kr5_x : w5.heap[w1.heap.size]? = some (.cells #[.int .i64 c, .int .i64 n, .int .i64 d, .int .i64 X, .int .i64 t] 23 (0, 0)) := (kb_ hB5 K_x.out); have K5_x := Hid.mk' kr5_x; have h5_x_0 : w5.cell? ⟨w1.heap.size, 0, none⟩ = some (.int .i64 c) := ((cell_of_row w5 (w1.heap.size) 0 _ _ _ kr5_x).trans rfl); have h5_x_1 : w5.cell? ⟨w1.heap.size, 1, none⟩ = some (.int .i64 n) := ((cell_of_row w5 (w1.heap.size) 1 _ _ _ kr5_x).trans rfl); have h5_x_2 : w5.cell? ⟨w1.heap.size, 2, none⟩ = some (.int .i64 d) := ((cell_of_row w5 (w1.heap.size) 2 _ _ _ kr5_x).trans rfl); have h5_x_3 : w5.cell? ⟨w1.heap.size, 3, none⟩ = some (.int .i64 X) := ((cell_of_row w5 (w1.heap.size) 3 _ _ _ kr5_x).trans rfl); have h5_x_4 : w5.cell? ⟨w1.heap.size, 4, none⟩ = some (.int .i64 t) := ((cell_of_row w5 (w1.heap.size) 4 _ _ _ kr5_x).trans rfl); have hy5_x : w1.heap.size < w5.heap.size := ((Array.getElem?_eq_some_iff.1 kr5_x).1); clear kr5_x; have kr5_y : w5.heap[w2.heap.size]? = some (.cells #[.int .i64 c, .int .i64 n, .int .i64 d, .int .i64 L, .int .i64 u] 23 (0, 0)) := (kb_ hB5 K_y.out); have K5_y := Hid.mk' kr5_y; have h5_y_0 : w5.cell? ⟨w2.heap.size, 0, none⟩ = some (.int .i64 c) := ((cell_of_row w5 (w2.heap.size) 0 _ _ _ kr5_y).trans rfl); have h5_y_1 : w5.cell? ⟨w2.heap.size, 1, none⟩ = some (.int .i64 n) := ((cell_of_row w5 (w2.heap.size) 1 _ _ _ kr5_y).trans rfl); have h5_y_2 : w5.cell? ⟨w2.heap.size, 2, none⟩ = some (.int .i64 d) := ((cell_of_row w5 (w2.heap.size) 2 _ _ _ kr5_y).trans rfl); have h5_y_3 : w5.cell? ⟨w2.heap.size, 3, none⟩ = some (.int .i64 L) := ((cell_of_row w5 (w2.heap.size) 3 _ _ _ kr5_y).trans rfl); have h5_y_4 : w5.cell? ⟨w2.heap.size, 4, none⟩ = some (.int .i64 u) := ((cell_of_row w5 (w2.heap.size) 4 _ _ _ kr5_y).trans rfl); have hy5_y : w2.heap.size < w5.heap.size := ((Array.getElem?_eq_some_iff.1 kr5_y).1); clear kr5_y; have kr5_q : w5.heap[w3.heap.size]? = some (.cells #[.int .i64 c, .int .i64 n, .int .i64 d, .int .i64 L, .int .i64 u] 23 (0, 0)) := (kb_ hB5 K_q.out); have K5_q := Hid.mk' kr5_q; have h5_q_0 : w5.cell? ⟨w3.heap.size, 0, none⟩ = some (.int .i64 c) := ((cell_of_row w5 (w3.heap.size) 0 _ _ _ kr5_q).trans rfl); have h5_q_1 : w5.cell? ⟨w3.heap.size, 1, none⟩ = some (.int .i64 n) := ((cell_of_row w5 (w3.heap.size) 1 _ _ _ kr5_q).trans rfl); have h5_q_2 : w5.cell? ⟨w3.heap.size, 2, none⟩ = some (.int .i64 d) := ((cell_of_row w5 (w3.heap.size) 2 _ _ _ kr5_q).trans rfl); have h5_q_3 : w5.cell? ⟨w3.heap.size, 3, none⟩ = some (.int .i64 L) := ((cell_of_row w5 (w3.heap.size) 3 _ _ _ kr5_q).trans rfl); have h5_q_4 : w5.cell? ⟨w3.heap.size, 4, none⟩ = some (.int .i64 u) := ((cell_of_row w5 (w3.heap.size) 4 _ _ _ kr5_q).trans rfl); have hy5_q : w3.heap.size < w5.heap.size := ((Array.getElem?_eq_some_iff.1 kr5_q).1); clear kr5_q; have HB5 : Hid (Below w.heap.size w w5) := (by first | exact below_then HB4.out (by first | omega | (simp; omega)) hB5 | exact below_then (Below.drew HB4.out) (by first | omega | (simp; omega)) hB5); have hL5 : w.heap.size ≤ w5.heap.size := HB5.out.size)) | ((go_at_call 22; (with_reducible refine (HT2.out _).mono ?_); rintro e w6 ⟨rfl, hB6⟩; have kr6_b : w6.heap[w.heap.size]? = some (.cells #[.int .i64 c, .int .i64 n, .int .i64 d, .int .i64 l, .int .i64 a] 23 (0, 0)) := (kb_ hB6 K5_b.out); have K6_b := Hid.mk' kr6_b; have h6_b_0 : w6.cell? ⟨w.heap.size, 0, none⟩ = some (.int .i64 c) := ((cell_of_row w6 (w.heap.size) 0 _ _ _ kr6_b).trans rfl); have h6_b_1 : w6.cell? ⟨w.heap.size, 1, none⟩ = some (.int .i64 n) := ((cell_of_row w6 (w.heap.size) 1 _ _ _ kr6_b).trans rfl); have h6_b_2 : w6.cell? ⟨w.heap.size, 2, none⟩ = some (.int .i64 d) := ((cell_of_row w6 (w.heap.size) 2 _ _ _ kr6_b).trans rfl); have h6_b_3 : w6.cell? ⟨w.heap.size, 3, none⟩ = some (.int .i64 l) := ((cell_of_row w6 (w.heap.size) 3 _ _ _ kr6_b).trans rfl); have h6_b_4 : w6.cell? ⟨w.heap.size, 4, none⟩ = some (.int .i64 a) := ((cell_of_row w6 (w.heap.size) 4 _ _ _ kr6_b).trans rfl); have hy6_b : w.heap.size < w6.heap.size := ((Array.getElem?_eq_some_iff.1 kr6_b).1); clear kr6_b; have kr6_x : w6.heap[w1.heap.size]? = some (.cells #[.int .i64 c, .int .i64 n, .int .i64 d, .int .i64 X, .int .i64 t] 23 (0, 0)) := (kb_ hB6 K5_x.out); have K6_x := Hid.mk' kr6_x; have h6_x_0 : w6.cell? ⟨w1.heap.size, 0, none⟩ = some (.int .i64 c) := ((cell_of_row w6 (w1.heap.size) 0 _ _ _ kr6_x).trans rfl); have h6_x_1 : w6.cell? ⟨w1.heap.size, 1, none⟩ = some (.int .i64 n) := ((cell_of_row w6 (w1.heap.size) 1 _ _ _ kr6_x).trans rfl); have h6_x_2 : w6.cell? ⟨w1.heap.size, 2, none⟩ = some (.int .i64 d) := ((cell_of_row w6 (w1.heap.size) 2 _ _ _ kr6_x).trans rfl); have h6_x_3 : w6.cell? ⟨w1.heap.size, 3, none⟩ = some (.int .i64 X) := ((cell_of_row w6 (w1.heap.size) 3 _ _ _ kr6_x).trans rfl); have h6_x_4 : w6.cell? ⟨w1.heap.size, 4, none⟩ = some (.int .i64 t) := ((cell_of_row w6 (w1.heap.size) 4 _ _ _ kr6_x).trans rfl); have hy6_x : w1.heap.size < w6.heap.size := ((Array.getElem?_eq_some_iff.1 kr6_x).1); clear kr6_x; have kr6_y : w6.heap[w2.heap.size]? = some (.cells #[.int .i64 c, .int .i64 n, .int .i64 d, .int .i64 L, .int .i64 u] 23 (0, 0)) := (kb_ hB6 K5_y.out); have K6_y := Hid.mk' kr6_y; have h6_y_0 : w6.cell? ⟨w2.heap.size, 0, none⟩ = some (.int .i64 c) := ((cell_of_row w6 (w2.heap.size) 0 _ _ _ kr6_y).trans rfl); have h6_y_1 : w6.cell? ⟨w2.heap.size, 1, none⟩ = some (.int .i64 n) := ((cell_of_row w6 (w2.heap.size) 1 _ _ _ kr6_y).trans rfl); have h6_y_2 : w6.cell? ⟨w2.heap.size, 2, none⟩ = some (.int .i64 d) := ((cell_of_row w6 (w2.heap.size) 2 _ _ _ kr6_y).trans rfl); have h6_y_3 : w6.cell? ⟨w2.heap.size, 3, none⟩ = some (.int .i64 L) := ((cell_of_row w6 (w2.heap.size) 3 _ _ _ kr6_y).trans rfl); have h6_y_4 : w6.cell? ⟨w2.heap.size, 4, none⟩ = some (.int .i64 u) := ((cell_of_row w6 (w2.heap.size) 4 _ _ _ kr6_y).trans rfl); have hy6_y : w2.heap.size < w6.heap.size := ((Array.getElem?_eq_some_iff.1 kr6_y).1); clear kr6_y; have kr6_q : w6.heap[w3.heap.size]? = some (.cells #[.int .i64 c, .int .i64 n, .int .i64 d, .int .i64 L, .int .i64 u] 23 (0, 0)) := (kb_ hB6 K5_q.out); have K6_q := Hid.mk' kr6_q; have h6_q_0 : w6.cell? ⟨w3.heap.size, 0, none⟩ = some (.int .i64 c) := ((cell_of_row w6 (w3.heap.size) 0 _ _ _ kr6_q).trans rfl); have h6_q_1 : w6.cell? ⟨w3.heap.size, 1, none⟩ = some (.int .i64 n) := ((cell_of_row w6 (w3.heap.size) 1 _ _ _ kr6_q).trans rfl); have h6_q_2 : w6.cell? ⟨w3.heap.size, 2, none⟩ = some (.int .i64 d) := ((cell_of_row w6 (w3.heap.size) 2 _ _ _ kr6_q).trans rfl); have h6_q_3 : w6.cell? ⟨w3.heap.size, 3, none⟩ = some (.int .i64 L) := ((cell_of_row w6 (w3.heap.size) 3 _ _ _ kr6_q).trans rfl); have h6_q_4 : w6.cell? ⟨w3.heap.size, 4, none⟩ = some (.int .i64 u) := ((cell_of_row w6 (w3.heap.size) 4 _ _ _ kr6_q).trans rfl); have hy6_q : w3.heap.size < w6.heap.size := ((Array.getElem?_eq_some_iff.1 kr6_q).1); clear kr6_q; have HB6 : Hid (Below w.heap.size w w6) := (by first | exact below_then HB5.out (by first | omega | (simp; omega)) hB6 | exact below_then (Below.drew HB5.out) (by first | omega | (simp; omega)) hB6); have hL6 : w.heap.size ≤ w6.heap.size := HB6.out.size)))
  have K_b := K6_b
  have K_x := K6_x
  have K_y := K6_y
  have K_q := K6_q
  go_wp2_with fail
  go_at_call 10
  refine (HR4.out _).mono ?_
  rintro e w7 ⟨rfl, hB7⟩
  have kN_k := heap_alloc_new w6 (.cells #[.int .i64 c, .int .i64 n, .int .i64 d, .int .i64 (l - z), .int .i64 a] 23)
  have kk_q : w7.heap[w3.heap.size]? = some (.cells #[.int .i64 c, .int .i64 n, .int .i64 d, .int .i64 L, .int .i64 u] 23 (0, 0)) := blk_below (blk_alloc K_q.out _) hB7
  have HB7 : Hid (Below w.heap.size w w7) := below_then (HB6.out.alloc (by first | omega | (simp; done) | (simp; omega)) _) (by first | omega | (simp; done) | (simp; omega)) hB7
  have hL7 : w.heap.size ≤ w7.heap.size := HB7.out.size
  clear hB7 K_b K_x K_y K_q kN_k hL6
  have K_q : Hid (w7.heap[w3.heap.size]? = some (.cells #[.int .i64 c, .int .i64 n, .int .i64 d, .int .i64 L, .int .i64 u] 23 (0, 0))) := kk_q
  have hy_q : w3.heap.size < w7.heap.size := (Array.getElem?_eq_some_iff.1 kk_q).1
  have hq_0 : w7.cell? ⟨w3.heap.size, 0, none⟩ = some (.int .i64 c) := (cell_of_row w7 (w3.heap.size) 0 _ _ _ kk_q).trans rfl
  have hq_1 : w7.cell? ⟨w3.heap.size, 1, none⟩ = some (.int .i64 n) := (cell_of_row w7 (w3.heap.size) 1 _ _ _ kk_q).trans rfl
  have hq_2 : w7.cell? ⟨w3.heap.size, 2, none⟩ = some (.int .i64 d) := (cell_of_row w7 (w3.heap.size) 2 _ _ _ kk_q).trans rfl
  have hq_3 : w7.cell? ⟨w3.heap.size, 3, none⟩ = some (.int .i64 L) := (cell_of_row w7 (w3.heap.size) 3 _ _ _ kk_q).trans rfl
  have hq_4 : w7.cell? ⟨w3.heap.size, 4, none⟩ = some (.int .i64 u) := (cell_of_row w7 (w3.heap.size) 4 _ _ _ kk_q).trans rfl
  clear kk_q
  go_wp2_with fail
  go_at_call 19
  refine (sanity_any _).mono ?_
  rintro e w8 ⟨rfl, hB8⟩
  have kN_v := heap_alloc_new w7 (.cells #[.int .i64 c, .int .i64 n, .int .i64 d, .int .i64 L2, .int .i64 u] 23)
  have kk_q : w8.heap[w3.heap.size]? = some (.cells #[.int .i64 c, .int .i64 n, .int .i64 d, .int .i64 L, .int .i64 u] 23 (0, 0)) := blk_below (blk_alloc K_q.out _) hB8
  have kk_v : w8.heap[w7.heap.size]? = some (.cells #[.int .i64 c, .int .i64 n, .int .i64 d, .int .i64 L2, .int .i64 u] 23 (0, 0)) := blk_below kN_v hB8
  have HB8 : Hid (Below w.heap.size w w8) := below_then (HB7.out.alloc (by first | omega | (simp; done) | (simp; omega)) _) (by first | omega | (simp; done) | (simp; omega)) hB8
  have hL8 : w.heap.size ≤ w8.heap.size := HB8.out.size
  clear hB8 K_q hy_q hq_0 hq_1 hq_2 hq_3 hq_4 kN_v hL7
  have K_q : Hid (w8.heap[w3.heap.size]? = some (.cells #[.int .i64 c, .int .i64 n, .int .i64 d, .int .i64 L, .int .i64 u] 23 (0, 0))) := kk_q
  have hy_q : w3.heap.size < w8.heap.size := (Array.getElem?_eq_some_iff.1 kk_q).1
  have hq_0 : w8.cell? ⟨w3.heap.size, 0, none⟩ = some (.int .i64 c) := (cell_of_row w8 (w3.heap.size) 0 _ _ _ kk_q).trans rfl
  have hq_1 : w8.cell? ⟨w3.heap.size, 1, none⟩ = some (.int .i64 n) := (cell_of_row w8 (w3.heap.size) 1 _ _ _ kk_q).trans rfl
  have hq_2 : w8.cell? ⟨w3.heap.size, 2, none⟩ = some (.int .i64 d) := (cell_of_row w8 (w3.heap.size) 2 _ _ _ kk_q).trans rfl
  have hq_3 : w8.cell? ⟨w3.heap.size, 3, none⟩ = some (.int .i64 L) := (cell_of_row w8 (w3.heap.size) 3 _ _ _ kk_q).trans rfl
  have hq_4 : w8.cell? ⟨w3.heap.size, 4, none⟩ = some (.int .i64 u) := (cell_of_row w8 (w3.heap.size) 4 _ _ _ kk_q).trans rfl
  clear kk_q
  have K_v : Hid (w8.heap[w7.heap.size]? = some (.cells #[.int .i64 c, .int .i64 n, .int .i64 d, .int .i64 L2, .int .i64 u] 23 (0, 0))) := kk_v
  have hy_v : w7.heap.size < w8.heap.size := (Array.getElem?_eq_some_iff.1 kk_v).1
  have hv_0 : w8.cell? ⟨w7.heap.size, 0, none⟩ = some (.int .i64 c) := (cell_of_row w8 (w7.heap.size) 0 _ _ _ kk_v).trans rfl
  have hv_1 : w8.cell? ⟨w7.heap.size, 1, none⟩ = some (.int .i64 n) := (cell_of_row w8 (w7.heap.size) 1 _ _ _ kk_v).trans rfl
  have hv_2 : w8.cell? ⟨w7.heap.size, 2, none⟩ = some (.int .i64 d) := (cell_of_row w8 (w7.heap.size) 2 _ _ _ kk_v).trans rfl
  have hv_3 : w8.cell? ⟨w7.heap.size, 3, none⟩ = some (.int .i64 L2) := (cell_of_row w8 (w7.heap.size) 3 _ _ _ kk_v).trans rfl
  have hv_4 : w8.cell? ⟨w7.heap.size, 4, none⟩ = some (.int .i64 u) := (cell_of_row w8 (w7.heap.size) 4 _ _ _ kk_v).trans rfl
  clear kk_v
  go_wp2_with fail
  go_ret
  exact ⟨rfl, HB8.out⟩
theorem lev_steps {c n d l a t u : Int} (hv : V c n d l a) (h1 : a ≤ t) (h2 : t ≤ u) (h3 : u ≤ 1099511627776) :
    V c n d (lev c n d l a t) t ∧ lev c n d (lev c n d l a t) t u = lev c n d l a u ∧ lev c n d l a t ≤ lev c n d l a u := by
  have hl := lev_le hv h1 (by omega)
  have a9 := hv.2.2.2.2.2.2.2.2.1
  have a3 := hv.2.2.1
  have hV : V c n d (lev c n d l a t) t := ⟨hv.1, hv.2.1, a3, hv.2.2.2.1, hv.2.2.2.2.1, hv.2.2.2.2.2.1, hl.2.2.2, hl.2.1, by omega, by omega⟩
  have e : n * (u - a) = n * (t - a) + n * (u - t) := by rw [← Int.mul_add]; congr 1; omega
  have hp : 0 ≤ n * (u - t) := Int.mul_nonneg a3 (by omega)
  refine ⟨hV, ?_, ?_⟩
  · unfold lev
    rw [e]
    split <;> split <;> split <;> omega
  · unfold lev
    rw [e]
    split <;> split <;> omega
theorem lev_less {c n d l a u z : Int} (hv : V c n d l a) (h1 : a ≤ u) (h2 : u ≤ 1099511627776) (h4 : 0 ≤ z) (h5 : z ≤ l) :
    V c n d (l - z) a ∧ lev c n d (l - z) a u ≤ lev c n d l a u ∧ lev c n d l a u - lev c n d (l - z) a u ≤ z ∧ 0 ≤ lev c n d (l - z) a u ∧ lev c n d l a u ≤ 1125899906842624 := by
  have hV : V c n d (l - z) a := ⟨hv.1, hv.2.1, hv.2.2.1, hv.2.2.2.1, hv.2.2.2.2.1, hv.2.2.2.2.2.1, by omega, by have := hv.2.2.2.2.2.2.2.1; omega, hv.2.2.2.2.2.2.2.2⟩
  have x := lev_le hv h1 h2
  have y := lev_le hV h1 h2
  have b := lev_bd hv h1 h2
  refine ⟨hV, ?_, ?_, y.2.2.2, by omega⟩
  · unfold lev
    split <;> split <;> omega
  · unfold lev
    split <;> split <;> omega
theorem law6 (c n d l a t u z : Int) (w : World) : Calls Try.prog 6 #[bk c n d l a, .int .i64 t, .int .i64 u, .int .i64 z] w fun e w' => e = .returned (.bool true) ∧ Below w.heap.size w w' := by
  by_cases hv : V c n d l a
  · by_cases h1 : t < a
    · exact w6_1 _ _ _ _ _ _ _ _ w hv h1
    · have h1 : a ≤ t := by omega
      by_cases h2 : u < t
      · exact w6_2 _ _ _ _ _ _ _ _ w hv h1 h2
      · have h2 : t ≤ u := by omega
        by_cases h3 : 1099511627776 < u
        · exact w6_3 _ _ _ _ _ _ _ _ w hv h1 h2 h3
        · have h3 : u ≤ 1099511627776 := by omega
          obtain ⟨hV, e1, e2⟩ := lev_steps hv h1 h2 h3
          have hr1 := fun w => refill10_ok c n d l a t _ w hv h1 (by omega) rfl
          have hr2 := fun w => refill10_ok c n d _ t u (lev c n d l a u) w hV h2 h3 e1.symm
          have hr3 := fun w => refill10_ok c n d l a u _ w hv (by omega) h3 rfl
          have ht1 := fun w => tokens22_ok c n d _ t w hV
          have hV2 : V c n d (lev c n d l a u) u := (lev_steps hv (show a ≤ u by omega) (Int.le_refl u) h3).1
          have ht2 := fun w => tokens22_ok c n d _ u w hV2
          have hT : lev c n d l a t / d ≤ lev c n d l a u / d := Int.ediv_le_ediv (by have := hv.2.2.2.2.1; omega) e2
          by_cases h4 : z < 0
          · exact w6_less c n d l a t u z _ _ 0 _ _ w hv h1 h2 h3 hr1 hr2 hr3 ht1 ht2 hT h4
          · by_cases h5 : l < z
            · exact w6_more c n d l a t u z _ _ 0 _ _ w hv h1 h2 h3 hr1 hr2 hr3 ht1 ht2 hT (by omega) h5
            · obtain ⟨hV3, f1, f2, f3, f4⟩ := lev_less hv (show a ≤ u by omega) h3 (show 0 ≤ z by omega) (show z ≤ l by omega)
              have hr4 := fun w => refill10_ok c n d (l - z) a u _ w hV3 (by omega) h3 rfl
              exact w6_fit c n d l a t u z _ _ _ _ _ w hv h1 h2 h3 hr1 hr2 hr3 ht1 ht2 hT (by omega) (by omega) hr4 f1 f2 f3 f4
  · exact w6_v _ _ _ _ _ _ _ _ w hv

end Go.Proofs.Ytcikmloklbdddaa
