/- The examples of the document: sanity returns true, in whatever memory. No condition. -/
import Derived.Test.YtcikmloklbdddaaWWords
import Derived.Test.YtcikmloklbdddaaBuck
import Derived.Test.YtcikmloklbdddaaSplit
set_option linter.unusedVariables false
set_option linter.unusedSimpArgs false
namespace Go.Proofs.Ytcikmloklbdddaa
open Go.RowKit
open Go.Proofs.YtcikmloklbdddaaW.PrintWords (ReadsInt rd own_nil blk_frozen own_weaken own_setCell own_base blk_set add_block blk_alloc blk_below)
/-! ### the examples -/
theorem s_new (w : World) : Calls Try.prog 9 #[.int .i64 10, .int .i64 3, .int .i64 2, .int .i64 100] w fun e w' => e = .returned (.tuple #[bk 10 3 2 20 100, .int .i64 0]) ∧ Below w.heap.size w w' :=
  new9_ok 10 3 2 100 w (by decide) (by decide) (by decide) (by decide) (by decide)
theorem s_take1 (w : World) : Calls Try.prog 11 #[bk 10 3 2 20 100, .int .i64 100, .int .i64 10] w fun e w' => e = .returned (.tuple #[bk 10 3 2 0 100, .int .i64 0]) ∧ Below w.heap.size w w' :=
  take11_fine 10 3 2 20 100 100 10 20 w (by decide) (by decide) (by decide) (by decide) (by decide) (by decide) (by decide)
theorem s_refill1 (w : World) : Calls Try.prog 10 #[bk 10 3 2 0 100, .int .i64 101] w fun e w' => e = .returned (.tuple #[bk 10 3 2 3 101, .int .i64 0]) ∧ Below w.heap.size w w' :=
  refill10_ok 10 3 2 0 100 101 3 w (by decide) (by decide) (by decide) (by decide)
theorem s_refill2 (w : World) : Calls Try.prog 10 #[bk 10 3 2 0 100, .int .i64 102] w fun e w' => e = .returned (.tuple #[bk 10 3 2 6 102, .int .i64 0]) ∧ Below w.heap.size w w' :=
  refill10_ok 10 3 2 0 100 102 6 w (by decide) (by decide) (by decide) (by decide)
theorem s_take2 (w : World) : Calls Try.prog 11 #[bk 10 3 2 3 101, .int .i64 101, .int .i64 2] w fun e w' => e = .returned (.tuple #[bk 0 0 0 0 0, .int .i64 4]) ∧ Below w.heap.size w w' :=
  take11_short 10 3 2 3 101 101 2 3 w (by decide) (by decide) (by decide) (by decide) (by decide) (by decide) (by decide)
theorem s_wait1 (w : World) : Calls Try.prog 12 #[bk 10 3 2 0 100, .int .i64 2] w fun e w' => e = .returned (.tuple #[.int .i64 102, .int .i64 0]) ∧ Below w.heap.size w w' :=
  wait12_later 10 3 2 0 100 2 w (by decide) (by decide) (by decide) (by decide) (by decide) (by decide) (by decide)
theorem s_wait2 (w : World) : Calls Try.prog 12 #[bk 10 3 2 0 100, .int .i64 11] w fun e w' => e = .returned (.tuple #[.int .i64 0, .int .i64 2]) ∧ Below w.heap.size w w' :=
  wait12_limit 10 3 2 0 100 11 w (by decide) (by decide) (by decide) (by decide)
theorem s_most1 (w : World) : Calls Try.prog 13 #[bk 10 3 2 20 100, .int .i64 100, .int .i64 103] w fun e w' => e = .returned (.tuple #[.int .i64 13, .int .i64 0]) ∧ Below w.heap.size w w' :=
  most13_ok 10 3 2 20 100 100 103 20 w (by decide) (by decide) (by decide) (by decide) (by decide) (by decide)
theorem s_most2 (w : World) : Calls Try.prog 13 #[bk 10 3 2 20 100, .int .i64 100, .int .i64 100] w fun e w' => e = .returned (.tuple #[.int .i64 0, .int .i64 0]) ∧ Below w.heap.size w w' :=
  most13_same 10 3 2 20 100 100 20 w (by decide) (by decide) (by decide) (by decide)
theorem s_tokens1 (w : World) : Calls Try.prog 22 #[bk 10 3 2 3 101] w fun e w' => e = .returned (.int .i64 1) ∧ Below w.heap.size w w' := tokens22_ok 10 3 2 3 101 w (by decide)
theorem s_tokens2 (w : World) : Calls Try.prog 22 #[bk 10 3 2 6 102] w fun e w' => e = .returned (.int .i64 3) ∧ Below w.heap.size w w' := tokens22_ok 10 3 2 6 102 w (by decide)
theorem cell_below {w w1 : World} (h : Below w.heap.size w w1) {a : Addr} {v : Value} (hc : w.cell? a = some v) : w1.cell? a = some v := (h.cell (World.block_lt_of_cell? w a hc)).trans hc
theorem cell_alloc {w : World} {a : Addr} {v : Value} (hc : w.cell? a = some v) (o : Obj) : (w.alloc o).cell? a = some v := (World.cell?_alloc_lt w o a (World.block_lt_of_cell? w a hc)).trans hc
theorem Hid.mk' {p : Prop} (h : p) : Hid p := h
theorem kb_ {w w1 : World} (hb : Below w.heap.size w w1) {g : Nat} {o : Obj} (h : w.heap[g]? = some o) : w1.heap[g]? = some o := blk_below h hb
theorem heap2 (w : World) (o o' : Obj) : ((w.alloc o).alloc o').heap[w.heap.size + 1]? = some o' := by have := heap_alloc_new (w.alloc o) o'; rwa [World.size_alloc] at this
theorem lit_reads (w : World) (x y : Int) (g : Nat) (h : w.heap[g]? = some (.cells #[.int .i64 x, .int .i64 y] 3 (0, 0))) : ReadsInt w .i64 (some ⟨g, 0, none⟩) [x, y].length [x, y] :=
  ⟨rfl, by simp, fun _ => ⟨_, rfl, fun j hj => by
    have hj' : j = 0 ∨ j = 1 := by simp at hj; omega
    rcases hj' with rfl | rfl
    · exact (cell_of_row w g 0 _ _ _ h).trans rfl
    · exact (cell_of_row w g 1 _ _ _ h).trans rfl⟩⟩
theorem s_split (w : World) (g1 g2 : Nat) (h1 : w.heap[g1]? = some (.cells #[.int .i64 4, .int .i64 6] 3 (0, 0))) (h2 : w.heap[g2]? = some (.cells #[.int .i64 1, .int .i64 2] 3 (0, 0))) :
    Calls Try.prog 24 #[bk 10 3 2 20 100, .slice (some ⟨g1, 0, none⟩) 2 2, .slice (some ⟨g2, 0, none⟩) 2 2] w fun e w' => ∃ g cap, e = .returned (.tuple #[.slice (some ⟨g, 0, none⟩) 2 cap, .int .i64 0]) ∧ w'.cell? ⟨g, 3, none⟩ = some (.int .i64 8) ∧ w'.cell? ⟨g, 8, none⟩ = some (.int .i64 12) ∧ Below w.heap.size w w' := by
  refine (split_ok 10 3 2 20 100 (some ⟨g1, 0, none⟩) (some ⟨g2, 0, none⟩) 2 2 [4, 6] [1, 2] w (by decide) (lit_reads w 4 6 g1 h1) (lit_reads w 1 2 g2 h2) (by decide) (by decide) (by decide) (by decide) (by decide) (by decide) (by decide)).mono ?_
  rintro e w' ⟨v, rfl, ho, hb⟩
  obtain ⟨g, cap, rfl, _, _⟩ := ho.form (by decide)
  refine ⟨g, cap, rfl, ?_, ?_, hb⟩
  · exact ho.cells (g := g) rfl 3 _ rfl
  · exact ho.cells (g := g) rfl 8 _ rfl

set_option maxHeartbeats 2000000 in
set_option maxRecDepth 100000 in
theorem sanity_any (w : World) : Calls Try.prog 19 #[] w fun e w' => e = .returned (.bool true) ∧ Below w.heap.size w w' := by
  go_enter Try.func19, Try.ntmps19
  have HB0 : Hid (Below w.heap.size w w) := Below.refl _ _
  have hL0 : w.heap.size ≤ w.heap.size := Nat.le_refl _
  go_wp2_with fail
  go_at_call 9
  refine (s_new _).mono ?_
  rintro e w1 ⟨rfl, hB1⟩
  have HB1 : Hid (Below w.heap.size w w1) := below_then HB0.out (by first | omega | (simp; done) | (simp; omega)) hB1
  have hL1 : w.heap.size ≤ w1.heap.size := HB1.out.size
  clear hB1
  go_wp2_with fail
  go_at_call 11
  refine (s_take1 _).mono ?_
  rintro e w2 ⟨rfl, hB2⟩
  have kN_b := heap_alloc_new w1 (.cells #[.int .i64 10, .int .i64 3, .int .i64 2, .int .i64 20, .int .i64 100] 23)
  have kk_b : w2.heap[w1.heap.size]? = some (.cells #[.int .i64 10, .int .i64 3, .int .i64 2, .int .i64 20, .int .i64 100] 23 (0, 0)) := blk_below kN_b hB2
  have HB2 : Hid (Below w.heap.size w w2) := below_then (HB1.out.alloc (by first | omega | (simp; done) | (simp; omega)) _) (by first | omega | (simp; done) | (simp; omega)) hB2
  have hL2 : w.heap.size ≤ w2.heap.size := HB2.out.size
  clear hB2 kN_b hL1
  have K_b : Hid (w2.heap[w1.heap.size]? = some (.cells #[.int .i64 10, .int .i64 3, .int .i64 2, .int .i64 20, .int .i64 100] 23 (0, 0))) := kk_b
  have hy_b : w1.heap.size < w2.heap.size := (Array.getElem?_eq_some_iff.1 kk_b).1
  have hb_0 : w2.cell? ⟨w1.heap.size, 0, none⟩ = some (.int .i64 10) := (cell_of_row w2 (w1.heap.size) 0 _ _ _ kk_b).trans rfl
  have hb_1 : w2.cell? ⟨w1.heap.size, 1, none⟩ = some (.int .i64 3) := (cell_of_row w2 (w1.heap.size) 1 _ _ _ kk_b).trans rfl
  have hb_2 : w2.cell? ⟨w1.heap.size, 2, none⟩ = some (.int .i64 2) := (cell_of_row w2 (w1.heap.size) 2 _ _ _ kk_b).trans rfl
  have hb_3 : w2.cell? ⟨w1.heap.size, 3, none⟩ = some (.int .i64 20) := (cell_of_row w2 (w1.heap.size) 3 _ _ _ kk_b).trans rfl
  have hb_4 : w2.cell? ⟨w1.heap.size, 4, none⟩ = some (.int .i64 100) := (cell_of_row w2 (w1.heap.size) 4 _ _ _ kk_b).trans rfl
  clear kk_b
  go_wp2_with fail
  go_at_call 10
  refine (s_refill1 _).mono ?_
  rintro e w3 ⟨rfl, hB3⟩
  have kN_c := heap_alloc_new w2 (.cells #[.int .i64 10, .int .i64 3, .int .i64 2, .int .i64 0, .int .i64 100] 23)
  have kk_b : w3.heap[w1.heap.size]? = some (.cells #[.int .i64 10, .int .i64 3, .int .i64 2, .int .i64 20, .int .i64 100] 23 (0, 0)) := blk_below (blk_alloc K_b.out _) hB3
  have kk_c : w3.heap[w2.heap.size]? = some (.cells #[.int .i64 10, .int .i64 3, .int .i64 2, .int .i64 0, .int .i64 100] 23 (0, 0)) := blk_below kN_c hB3
  have HB3 : Hid (Below w.heap.size w w3) := below_then (HB2.out.alloc (by first | omega | (simp; done) | (simp; omega)) _) (by first | omega | (simp; done) | (simp; omega)) hB3
  have hL3 : w.heap.size ≤ w3.heap.size := HB3.out.size
  clear hB3 K_b hy_b hb_0 hb_1 hb_2 hb_3 hb_4 kN_c hL2
  have K_b : Hid (w3.heap[w1.heap.size]? = some (.cells #[.int .i64 10, .int .i64 3, .int .i64 2, .int .i64 20, .int .i64 100] 23 (0, 0))) := kk_b
  have hy_b : w1.heap.size < w3.heap.size := (Array.getElem?_eq_some_iff.1 kk_b).1
  have hb_0 : w3.cell? ⟨w1.heap.size, 0, none⟩ = some (.int .i64 10) := (cell_of_row w3 (w1.heap.size) 0 _ _ _ kk_b).trans rfl
  have hb_1 : w3.cell? ⟨w1.heap.size, 1, none⟩ = some (.int .i64 3) := (cell_of_row w3 (w1.heap.size) 1 _ _ _ kk_b).trans rfl
  have hb_2 : w3.cell? ⟨w1.heap.size, 2, none⟩ = some (.int .i64 2) := (cell_of_row w3 (w1.heap.size) 2 _ _ _ kk_b).trans rfl
  have hb_3 : w3.cell? ⟨w1.heap.size, 3, none⟩ = some (.int .i64 20) := (cell_of_row w3 (w1.heap.size) 3 _ _ _ kk_b).trans rfl
  have hb_4 : w3.cell? ⟨w1.heap.size, 4, none⟩ = some (.int .i64 100) := (cell_of_row w3 (w1.heap.size) 4 _ _ _ kk_b).trans rfl
  clear kk_b
  have K_c : Hid (w3.heap[w2.heap.size]? = some (.cells #[.int .i64 10, .int .i64 3, .int .i64 2, .int .i64 0, .int .i64 100] 23 (0, 0))) := kk_c
  have hy_c : w2.heap.size < w3.heap.size := (Array.getElem?_eq_some_iff.1 kk_c).1
  have hc_0 : w3.cell? ⟨w2.heap.size, 0, none⟩ = some (.int .i64 10) := (cell_of_row w3 (w2.heap.size) 0 _ _ _ kk_c).trans rfl
  have hc_1 : w3.cell? ⟨w2.heap.size, 1, none⟩ = some (.int .i64 3) := (cell_of_row w3 (w2.heap.size) 1 _ _ _ kk_c).trans rfl
  have hc_2 : w3.cell? ⟨w2.heap.size, 2, none⟩ = some (.int .i64 2) := (cell_of_row w3 (w2.heap.size) 2 _ _ _ kk_c).trans rfl
  have hc_3 : w3.cell? ⟨w2.heap.size, 3, none⟩ = some (.int .i64 0) := (cell_of_row w3 (w2.heap.size) 3 _ _ _ kk_c).trans rfl
  have hc_4 : w3.cell? ⟨w2.heap.size, 4, none⟩ = some (.int .i64 100) := (cell_of_row w3 (w2.heap.size) 4 _ _ _ kk_c).trans rfl
  clear kk_c
  go_wp2_with fail
  go_at_call 10
  refine (s_refill2 _).mono ?_
  rintro e w4 ⟨rfl, hB4⟩
  have kN_d := heap_alloc_new w3 (.cells #[.int .i64 10, .int .i64 3, .int .i64 2, .int .i64 3, .int .i64 101] 23)
  have kk_b : w4.heap[w1.heap.size]? = some (.cells #[.int .i64 10, .int .i64 3, .int .i64 2, .int .i64 20, .int .i64 100] 23 (0, 0)) := blk_below (blk_alloc K_b.out _) hB4
  have kk_c : w4.heap[w2.heap.size]? = some (.cells #[.int .i64 10, .int .i64 3, .int .i64 2, .int .i64 0, .int .i64 100] 23 (0, 0)) := blk_below (blk_alloc K_c.out _) hB4
  have kk_d : w4.heap[w3.heap.size]? = some (.cells #[.int .i64 10, .int .i64 3, .int .i64 2, .int .i64 3, .int .i64 101] 23 (0, 0)) := blk_below kN_d hB4
  have HB4 : Hid (Below w.heap.size w w4) := below_then (HB3.out.alloc (by first | omega | (simp; done) | (simp; omega)) _) (by first | omega | (simp; done) | (simp; omega)) hB4
  have hL4 : w.heap.size ≤ w4.heap.size := HB4.out.size
  clear hB4 K_b hy_b hb_0 hb_1 hb_2 hb_3 hb_4 K_c hy_c hc_0 hc_1 hc_2 hc_3 hc_4 kN_d hL3
  have K_b : Hid (w4.heap[w1.heap.size]? = some (.cells #[.int .i64 10, .int .i64 3, .int .i64 2, .int .i64 20, .int .i64 100] 23 (0, 0))) := kk_b
  have hy_b : w1.heap.size < w4.heap.size := (Array.getElem?_eq_some_iff.1 kk_b).1
  have hb_0 : w4.cell? ⟨w1.heap.size, 0, none⟩ = some (.int .i64 10) := (cell_of_row w4 (w1.heap.size) 0 _ _ _ kk_b).trans rfl
  have hb_1 : w4.cell? ⟨w1.heap.size, 1, none⟩ = some (.int .i64 3) := (cell_of_row w4 (w1.heap.size) 1 _ _ _ kk_b).trans rfl
  have hb_2 : w4.cell? ⟨w1.heap.size, 2, none⟩ = some (.int .i64 2) := (cell_of_row w4 (w1.heap.size) 2 _ _ _ kk_b).trans rfl
  have hb_3 : w4.cell? ⟨w1.heap.size, 3, none⟩ = some (.int .i64 20) := (cell_of_row w4 (w1.heap.size) 3 _ _ _ kk_b).trans rfl
  have hb_4 : w4.cell? ⟨w1.heap.size, 4, none⟩ = some (.int .i64 100) := (cell_of_row w4 (w1.heap.size) 4 _ _ _ kk_b).trans rfl
  clear kk_b
  have K_c : Hid (w4.heap[w2.heap.size]? = some (.cells #[.int .i64 10, .int .i64 3, .int .i64 2, .int .i64 0, .int .i64 100] 23 (0, 0))) := kk_c
  have hy_c : w2.heap.size < w4.heap.size := (Array.getElem?_eq_some_iff.1 kk_c).1
  have hc_0 : w4.cell? ⟨w2.heap.size, 0, none⟩ = some (.int .i64 10) := (cell_of_row w4 (w2.heap.size) 0 _ _ _ kk_c).trans rfl
  have hc_1 : w4.cell? ⟨w2.heap.size, 1, none⟩ = some (.int .i64 3) := (cell_of_row w4 (w2.heap.size) 1 _ _ _ kk_c).trans rfl
  have hc_2 : w4.cell? ⟨w2.heap.size, 2, none⟩ = some (.int .i64 2) := (cell_of_row w4 (w2.heap.size) 2 _ _ _ kk_c).trans rfl
  have hc_3 : w4.cell? ⟨w2.heap.size, 3, none⟩ = some (.int .i64 0) := (cell_of_row w4 (w2.heap.size) 3 _ _ _ kk_c).trans rfl
  have hc_4 : w4.cell? ⟨w2.heap.size, 4, none⟩ = some (.int .i64 100) := (cell_of_row w4 (w2.heap.size) 4 _ _ _ kk_c).trans rfl
  clear kk_c
  have K_d : Hid (w4.heap[w3.heap.size]? = some (.cells #[.int .i64 10, .int .i64 3, .int .i64 2, .int .i64 3, .int .i64 101] 23 (0, 0))) := kk_d
  have hy_d : w3.heap.size < w4.heap.size := (Array.getElem?_eq_some_iff.1 kk_d).1
  have hd_0 : w4.cell? ⟨w3.heap.size, 0, none⟩ = some (.int .i64 10) := (cell_of_row w4 (w3.heap.size) 0 _ _ _ kk_d).trans rfl
  have hd_1 : w4.cell? ⟨w3.heap.size, 1, none⟩ = some (.int .i64 3) := (cell_of_row w4 (w3.heap.size) 1 _ _ _ kk_d).trans rfl
  have hd_2 : w4.cell? ⟨w3.heap.size, 2, none⟩ = some (.int .i64 2) := (cell_of_row w4 (w3.heap.size) 2 _ _ _ kk_d).trans rfl
  have hd_3 : w4.cell? ⟨w3.heap.size, 3, none⟩ = some (.int .i64 3) := (cell_of_row w4 (w3.heap.size) 3 _ _ _ kk_d).trans rfl
  have hd_4 : w4.cell? ⟨w3.heap.size, 4, none⟩ = some (.int .i64 101) := (cell_of_row w4 (w3.heap.size) 4 _ _ _ kk_d).trans rfl
  clear kk_d
  go_wp2_with fail
  go_at_call 11
  refine (s_take2 _).mono ?_
  rintro e w5 ⟨rfl, hB5⟩
  have kN_x := heap_alloc_new w4 (.cells #[.int .i64 10, .int .i64 3, .int .i64 2, .int .i64 6, .int .i64 102] 23)
  have kk_b : w5.heap[w1.heap.size]? = some (.cells #[.int .i64 10, .int .i64 3, .int .i64 2, .int .i64 20, .int .i64 100] 23 (0, 0)) := blk_below (blk_alloc K_b.out _) hB5
  have kk_c : w5.heap[w2.heap.size]? = some (.cells #[.int .i64 10, .int .i64 3, .int .i64 2, .int .i64 0, .int .i64 100] 23 (0, 0)) := blk_below (blk_alloc K_c.out _) hB5
  have kk_d : w5.heap[w3.heap.size]? = some (.cells #[.int .i64 10, .int .i64 3, .int .i64 2, .int .i64 3, .int .i64 101] 23 (0, 0)) := blk_below (blk_alloc K_d.out _) hB5
  have kk_x : w5.heap[w4.heap.size]? = some (.cells #[.int .i64 10, .int .i64 3, .int .i64 2, .int .i64 6, .int .i64 102] 23 (0, 0)) := blk_below kN_x hB5
  have HB5 : Hid (Below w.heap.size w w5) := below_then (HB4.out.alloc (by first | omega | (simp; done) | (simp; omega)) _) (by first | omega | (simp; done) | (simp; omega)) hB5
  have hL5 : w.heap.size ≤ w5.heap.size := HB5.out.size
  clear hB5 K_b hy_b hb_0 hb_1 hb_2 hb_3 hb_4 K_c hy_c hc_0 hc_1 hc_2 hc_3 hc_4 K_d hy_d hd_0 hd_1 hd_2 hd_3 hd_4 kN_x hL4
  have K_b : Hid (w5.heap[w1.heap.size]? = some (.cells #[.int .i64 10, .int .i64 3, .int .i64 2, .int .i64 20, .int .i64 100] 23 (0, 0))) := kk_b
  have hy_b : w1.heap.size < w5.heap.size := (Array.getElem?_eq_some_iff.1 kk_b).1
  have hb_0 : w5.cell? ⟨w1.heap.size, 0, none⟩ = some (.int .i64 10) := (cell_of_row w5 (w1.heap.size) 0 _ _ _ kk_b).trans rfl
  have hb_1 : w5.cell? ⟨w1.heap.size, 1, none⟩ = some (.int .i64 3) := (cell_of_row w5 (w1.heap.size) 1 _ _ _ kk_b).trans rfl
  have hb_2 : w5.cell? ⟨w1.heap.size, 2, none⟩ = some (.int .i64 2) := (cell_of_row w5 (w1.heap.size) 2 _ _ _ kk_b).trans rfl
  have hb_3 : w5.cell? ⟨w1.heap.size, 3, none⟩ = some (.int .i64 20) := (cell_of_row w5 (w1.heap.size) 3 _ _ _ kk_b).trans rfl
  have hb_4 : w5.cell? ⟨w1.heap.size, 4, none⟩ = some (.int .i64 100) := (cell_of_row w5 (w1.heap.size) 4 _ _ _ kk_b).trans rfl
  clear kk_b
  have K_c : Hid (w5.heap[w2.heap.size]? = some (.cells #[.int .i64 10, .int .i64 3, .int .i64 2, .int .i64 0, .int .i64 100] 23 (0, 0))) := kk_c
  have hy_c : w2.heap.size < w5.heap.size := (Array.getElem?_eq_some_iff.1 kk_c).1
  have hc_0 : w5.cell? ⟨w2.heap.size, 0, none⟩ = some (.int .i64 10) := (cell_of_row w5 (w2.heap.size) 0 _ _ _ kk_c).trans rfl
  have hc_1 : w5.cell? ⟨w2.heap.size, 1, none⟩ = some (.int .i64 3) := (cell_of_row w5 (w2.heap.size) 1 _ _ _ kk_c).trans rfl
  have hc_2 : w5.cell? ⟨w2.heap.size, 2, none⟩ = some (.int .i64 2) := (cell_of_row w5 (w2.heap.size) 2 _ _ _ kk_c).trans rfl
  have hc_3 : w5.cell? ⟨w2.heap.size, 3, none⟩ = some (.int .i64 0) := (cell_of_row w5 (w2.heap.size) 3 _ _ _ kk_c).trans rfl
  have hc_4 : w5.cell? ⟨w2.heap.size, 4, none⟩ = some (.int .i64 100) := (cell_of_row w5 (w2.heap.size) 4 _ _ _ kk_c).trans rfl
  clear kk_c
  have K_d : Hid (w5.heap[w3.heap.size]? = some (.cells #[.int .i64 10, .int .i64 3, .int .i64 2, .int .i64 3, .int .i64 101] 23 (0, 0))) := kk_d
  have hy_d : w3.heap.size < w5.heap.size := (Array.getElem?_eq_some_iff.1 kk_d).1
  have hd_0 : w5.cell? ⟨w3.heap.size, 0, none⟩ = some (.int .i64 10) := (cell_of_row w5 (w3.heap.size) 0 _ _ _ kk_d).trans rfl
  have hd_1 : w5.cell? ⟨w3.heap.size, 1, none⟩ = some (.int .i64 3) := (cell_of_row w5 (w3.heap.size) 1 _ _ _ kk_d).trans rfl
  have hd_2 : w5.cell? ⟨w3.heap.size, 2, none⟩ = some (.int .i64 2) := (cell_of_row w5 (w3.heap.size) 2 _ _ _ kk_d).trans rfl
  have hd_3 : w5.cell? ⟨w3.heap.size, 3, none⟩ = some (.int .i64 3) := (cell_of_row w5 (w3.heap.size) 3 _ _ _ kk_d).trans rfl
  have hd_4 : w5.cell? ⟨w3.heap.size, 4, none⟩ = some (.int .i64 101) := (cell_of_row w5 (w3.heap.size) 4 _ _ _ kk_d).trans rfl
  clear kk_d
  have K_x : Hid (w5.heap[w4.heap.size]? = some (.cells #[.int .i64 10, .int .i64 3, .int .i64 2, .int .i64 6, .int .i64 102] 23 (0, 0))) := kk_x
  have hy_x : w4.heap.size < w5.heap.size := (Array.getElem?_eq_some_iff.1 kk_x).1
  have hx_0 : w5.cell? ⟨w4.heap.size, 0, none⟩ = some (.int .i64 10) := (cell_of_row w5 (w4.heap.size) 0 _ _ _ kk_x).trans rfl
  have hx_1 : w5.cell? ⟨w4.heap.size, 1, none⟩ = some (.int .i64 3) := (cell_of_row w5 (w4.heap.size) 1 _ _ _ kk_x).trans rfl
  have hx_2 : w5.cell? ⟨w4.heap.size, 2, none⟩ = some (.int .i64 2) := (cell_of_row w5 (w4.heap.size) 2 _ _ _ kk_x).trans rfl
  have hx_3 : w5.cell? ⟨w4.heap.size, 3, none⟩ = some (.int .i64 6) := (cell_of_row w5 (w4.heap.size) 3 _ _ _ kk_x).trans rfl
  have hx_4 : w5.cell? ⟨w4.heap.size, 4, none⟩ = some (.int .i64 102) := (cell_of_row w5 (w4.heap.size) 4 _ _ _ kk_x).trans rfl
  clear kk_x
  go_wp2_with fail
  go_at_call 12
  refine (s_wait1 _).mono ?_
  rintro e w6 ⟨rfl, hB6⟩
  have kN_z := heap_alloc_new w5 (.cells #[.int .i64 0, .int .i64 0, .int .i64 0, .int .i64 0, .int .i64 0] 23)
  have kk_b : w6.heap[w1.heap.size]? = some (.cells #[.int .i64 10, .int .i64 3, .int .i64 2, .int .i64 20, .int .i64 100] 23 (0, 0)) := blk_below (blk_alloc K_b.out _) hB6
  have kk_c : w6.heap[w2.heap.size]? = some (.cells #[.int .i64 10, .int .i64 3, .int .i64 2, .int .i64 0, .int .i64 100] 23 (0, 0)) := blk_below (blk_alloc K_c.out _) hB6
  have kk_d : w6.heap[w3.heap.size]? = some (.cells #[.int .i64 10, .int .i64 3, .int .i64 2, .int .i64 3, .int .i64 101] 23 (0, 0)) := blk_below (blk_alloc K_d.out _) hB6
  have kk_x : w6.heap[w4.heap.size]? = some (.cells #[.int .i64 10, .int .i64 3, .int .i64 2, .int .i64 6, .int .i64 102] 23 (0, 0)) := blk_below (blk_alloc K_x.out _) hB6
  have HB6 : Hid (Below w.heap.size w w6) := below_then (HB5.out.alloc (by first | omega | (simp; done) | (simp; omega)) _) (by first | omega | (simp; done) | (simp; omega)) hB6
  have hL6 : w.heap.size ≤ w6.heap.size := HB6.out.size
  clear hB6 K_b hy_b hb_0 hb_1 hb_2 hb_3 hb_4 K_c hy_c hc_0 hc_1 hc_2 hc_3 hc_4 K_d hy_d hd_0 hd_1 hd_2 hd_3 hd_4 K_x hy_x hx_0 hx_1 hx_2 hx_3 hx_4 kN_z hL5
  have K_b : Hid (w6.heap[w1.heap.size]? = some (.cells #[.int .i64 10, .int .i64 3, .int .i64 2, .int .i64 20, .int .i64 100] 23 (0, 0))) := kk_b
  have hy_b : w1.heap.size < w6.heap.size := (Array.getElem?_eq_some_iff.1 kk_b).1
  have hb_0 : w6.cell? ⟨w1.heap.size, 0, none⟩ = some (.int .i64 10) := (cell_of_row w6 (w1.heap.size) 0 _ _ _ kk_b).trans rfl
  have hb_1 : w6.cell? ⟨w1.heap.size, 1, none⟩ = some (.int .i64 3) := (cell_of_row w6 (w1.heap.size) 1 _ _ _ kk_b).trans rfl
  have hb_2 : w6.cell? ⟨w1.heap.size, 2, none⟩ = some (.int .i64 2) := (cell_of_row w6 (w1.heap.size) 2 _ _ _ kk_b).trans rfl
  have hb_3 : w6.cell? ⟨w1.heap.size, 3, none⟩ = some (.int .i64 20) := (cell_of_row w6 (w1.heap.size) 3 _ _ _ kk_b).trans rfl
  have hb_4 : w6.cell? ⟨w1.heap.size, 4, none⟩ = some (.int .i64 100) := (cell_of_row w6 (w1.heap.size) 4 _ _ _ kk_b).trans rfl
  clear kk_b
  have K_c : Hid (w6.heap[w2.heap.size]? = some (.cells #[.int .i64 10, .int .i64 3, .int .i64 2, .int .i64 0, .int .i64 100] 23 (0, 0))) := kk_c
  have hy_c : w2.heap.size < w6.heap.size := (Array.getElem?_eq_some_iff.1 kk_c).1
  have hc_0 : w6.cell? ⟨w2.heap.size, 0, none⟩ = some (.int .i64 10) := (cell_of_row w6 (w2.heap.size) 0 _ _ _ kk_c).trans rfl
  have hc_1 : w6.cell? ⟨w2.heap.size, 1, none⟩ = some (.int .i64 3) := (cell_of_row w6 (w2.heap.size) 1 _ _ _ kk_c).trans rfl
  have hc_2 : w6.cell? ⟨w2.heap.size, 2, none⟩ = some (.int .i64 2) := (cell_of_row w6 (w2.heap.size) 2 _ _ _ kk_c).trans rfl
  have hc_3 : w6.cell? ⟨w2.heap.size, 3, none⟩ = some (.int .i64 0) := (cell_of_row w6 (w2.heap.size) 3 _ _ _ kk_c).trans rfl
  have hc_4 : w6.cell? ⟨w2.heap.size, 4, none⟩ = some (.int .i64 100) := (cell_of_row w6 (w2.heap.size) 4 _ _ _ kk_c).trans rfl
  clear kk_c
  have K_d : Hid (w6.heap[w3.heap.size]? = some (.cells #[.int .i64 10, .int .i64 3, .int .i64 2, .int .i64 3, .int .i64 101] 23 (0, 0))) := kk_d
  have hy_d : w3.heap.size < w6.heap.size := (Array.getElem?_eq_some_iff.1 kk_d).1
  have hd_0 : w6.cell? ⟨w3.heap.size, 0, none⟩ = some (.int .i64 10) := (cell_of_row w6 (w3.heap.size) 0 _ _ _ kk_d).trans rfl
  have hd_1 : w6.cell? ⟨w3.heap.size, 1, none⟩ = some (.int .i64 3) := (cell_of_row w6 (w3.heap.size) 1 _ _ _ kk_d).trans rfl
  have hd_2 : w6.cell? ⟨w3.heap.size, 2, none⟩ = some (.int .i64 2) := (cell_of_row w6 (w3.heap.size) 2 _ _ _ kk_d).trans rfl
  have hd_3 : w6.cell? ⟨w3.heap.size, 3, none⟩ = some (.int .i64 3) := (cell_of_row w6 (w3.heap.size) 3 _ _ _ kk_d).trans rfl
  have hd_4 : w6.cell? ⟨w3.heap.size, 4, none⟩ = some (.int .i64 101) := (cell_of_row w6 (w3.heap.size) 4 _ _ _ kk_d).trans rfl
  clear kk_d
  have K_x : Hid (w6.heap[w4.heap.size]? = some (.cells #[.int .i64 10, .int .i64 3, .int .i64 2, .int .i64 6, .int .i64 102] 23 (0, 0))) := kk_x
  have hy_x : w4.heap.size < w6.heap.size := (Array.getElem?_eq_some_iff.1 kk_x).1
  have hx_0 : w6.cell? ⟨w4.heap.size, 0, none⟩ = some (.int .i64 10) := (cell_of_row w6 (w4.heap.size) 0 _ _ _ kk_x).trans rfl
  have hx_1 : w6.cell? ⟨w4.heap.size, 1, none⟩ = some (.int .i64 3) := (cell_of_row w6 (w4.heap.size) 1 _ _ _ kk_x).trans rfl
  have hx_2 : w6.cell? ⟨w4.heap.size, 2, none⟩ = some (.int .i64 2) := (cell_of_row w6 (w4.heap.size) 2 _ _ _ kk_x).trans rfl
  have hx_3 : w6.cell? ⟨w4.heap.size, 3, none⟩ = some (.int .i64 6) := (cell_of_row w6 (w4.heap.size) 3 _ _ _ kk_x).trans rfl
  have hx_4 : w6.cell? ⟨w4.heap.size, 4, none⟩ = some (.int .i64 102) := (cell_of_row w6 (w4.heap.size) 4 _ _ _ kk_x).trans rfl
  clear kk_x
  go_wp2_with fail
  go_at_call 12
  refine (s_wait2 _).mono ?_
  rintro e w7 ⟨rfl, hB7⟩
  have kk_b : w7.heap[w1.heap.size]? = some (.cells #[.int .i64 10, .int .i64 3, .int .i64 2, .int .i64 20, .int .i64 100] 23 (0, 0)) := blk_below K_b.out hB7
  have kk_c : w7.heap[w2.heap.size]? = some (.cells #[.int .i64 10, .int .i64 3, .int .i64 2, .int .i64 0, .int .i64 100] 23 (0, 0)) := blk_below K_c.out hB7
  have kk_d : w7.heap[w3.heap.size]? = some (.cells #[.int .i64 10, .int .i64 3, .int .i64 2, .int .i64 3, .int .i64 101] 23 (0, 0)) := blk_below K_d.out hB7
  have kk_x : w7.heap[w4.heap.size]? = some (.cells #[.int .i64 10, .int .i64 3, .int .i64 2, .int .i64 6, .int .i64 102] 23 (0, 0)) := blk_below K_x.out hB7
  have HB7 : Hid (Below w.heap.size w w7) := below_then HB6.out (by first | omega | (simp; done) | (simp; omega)) hB7
  have hL7 : w.heap.size ≤ w7.heap.size := HB7.out.size
  clear hB7 K_b hy_b hb_0 hb_1 hb_2 hb_3 hb_4 K_c hy_c hc_0 hc_1 hc_2 hc_3 hc_4 K_d hy_d hd_0 hd_1 hd_2 hd_3 hd_4 K_x hy_x hx_0 hx_1 hx_2 hx_3 hx_4 hL6
  have K_b : Hid (w7.heap[w1.heap.size]? = some (.cells #[.int .i64 10, .int .i64 3, .int .i64 2, .int .i64 20, .int .i64 100] 23 (0, 0))) := kk_b
  have hy_b : w1.heap.size < w7.heap.size := (Array.getElem?_eq_some_iff.1 kk_b).1
  have hb_0 : w7.cell? ⟨w1.heap.size, 0, none⟩ = some (.int .i64 10) := (cell_of_row w7 (w1.heap.size) 0 _ _ _ kk_b).trans rfl
  have hb_1 : w7.cell? ⟨w1.heap.size, 1, none⟩ = some (.int .i64 3) := (cell_of_row w7 (w1.heap.size) 1 _ _ _ kk_b).trans rfl
  have hb_2 : w7.cell? ⟨w1.heap.size, 2, none⟩ = some (.int .i64 2) := (cell_of_row w7 (w1.heap.size) 2 _ _ _ kk_b).trans rfl
  have hb_3 : w7.cell? ⟨w1.heap.size, 3, none⟩ = some (.int .i64 20) := (cell_of_row w7 (w1.heap.size) 3 _ _ _ kk_b).trans rfl
  have hb_4 : w7.cell? ⟨w1.heap.size, 4, none⟩ = some (.int .i64 100) := (cell_of_row w7 (w1.heap.size) 4 _ _ _ kk_b).trans rfl
  clear kk_b
  have K_c : Hid (w7.heap[w2.heap.size]? = some (.cells #[.int .i64 10, .int .i64 3, .int .i64 2, .int .i64 0, .int .i64 100] 23 (0, 0))) := kk_c
  have hy_c : w2.heap.size < w7.heap.size := (Array.getElem?_eq_some_iff.1 kk_c).1
  have hc_0 : w7.cell? ⟨w2.heap.size, 0, none⟩ = some (.int .i64 10) := (cell_of_row w7 (w2.heap.size) 0 _ _ _ kk_c).trans rfl
  have hc_1 : w7.cell? ⟨w2.heap.size, 1, none⟩ = some (.int .i64 3) := (cell_of_row w7 (w2.heap.size) 1 _ _ _ kk_c).trans rfl
  have hc_2 : w7.cell? ⟨w2.heap.size, 2, none⟩ = some (.int .i64 2) := (cell_of_row w7 (w2.heap.size) 2 _ _ _ kk_c).trans rfl
  have hc_3 : w7.cell? ⟨w2.heap.size, 3, none⟩ = some (.int .i64 0) := (cell_of_row w7 (w2.heap.size) 3 _ _ _ kk_c).trans rfl
  have hc_4 : w7.cell? ⟨w2.heap.size, 4, none⟩ = some (.int .i64 100) := (cell_of_row w7 (w2.heap.size) 4 _ _ _ kk_c).trans rfl
  clear kk_c
  have K_d : Hid (w7.heap[w3.heap.size]? = some (.cells #[.int .i64 10, .int .i64 3, .int .i64 2, .int .i64 3, .int .i64 101] 23 (0, 0))) := kk_d
  have hy_d : w3.heap.size < w7.heap.size := (Array.getElem?_eq_some_iff.1 kk_d).1
  have hd_0 : w7.cell? ⟨w3.heap.size, 0, none⟩ = some (.int .i64 10) := (cell_of_row w7 (w3.heap.size) 0 _ _ _ kk_d).trans rfl
  have hd_1 : w7.cell? ⟨w3.heap.size, 1, none⟩ = some (.int .i64 3) := (cell_of_row w7 (w3.heap.size) 1 _ _ _ kk_d).trans rfl
  have hd_2 : w7.cell? ⟨w3.heap.size, 2, none⟩ = some (.int .i64 2) := (cell_of_row w7 (w3.heap.size) 2 _ _ _ kk_d).trans rfl
  have hd_3 : w7.cell? ⟨w3.heap.size, 3, none⟩ = some (.int .i64 3) := (cell_of_row w7 (w3.heap.size) 3 _ _ _ kk_d).trans rfl
  have hd_4 : w7.cell? ⟨w3.heap.size, 4, none⟩ = some (.int .i64 101) := (cell_of_row w7 (w3.heap.size) 4 _ _ _ kk_d).trans rfl
  clear kk_d
  have K_x : Hid (w7.heap[w4.heap.size]? = some (.cells #[.int .i64 10, .int .i64 3, .int .i64 2, .int .i64 6, .int .i64 102] 23 (0, 0))) := kk_x
  have hy_x : w4.heap.size < w7.heap.size := (Array.getElem?_eq_some_iff.1 kk_x).1
  have hx_0 : w7.cell? ⟨w4.heap.size, 0, none⟩ = some (.int .i64 10) := (cell_of_row w7 (w4.heap.size) 0 _ _ _ kk_x).trans rfl
  have hx_1 : w7.cell? ⟨w4.heap.size, 1, none⟩ = some (.int .i64 3) := (cell_of_row w7 (w4.heap.size) 1 _ _ _ kk_x).trans rfl
  have hx_2 : w7.cell? ⟨w4.heap.size, 2, none⟩ = some (.int .i64 2) := (cell_of_row w7 (w4.heap.size) 2 _ _ _ kk_x).trans rfl
  have hx_3 : w7.cell? ⟨w4.heap.size, 3, none⟩ = some (.int .i64 6) := (cell_of_row w7 (w4.heap.size) 3 _ _ _ kk_x).trans rfl
  have hx_4 : w7.cell? ⟨w4.heap.size, 4, none⟩ = some (.int .i64 102) := (cell_of_row w7 (w4.heap.size) 4 _ _ _ kk_x).trans rfl
  clear kk_x
  go_wp2_with fail
  go_at_call 13
  refine (s_most1 _).mono ?_
  rintro e w8 ⟨rfl, hB8⟩
  have kk_b : w8.heap[w1.heap.size]? = some (.cells #[.int .i64 10, .int .i64 3, .int .i64 2, .int .i64 20, .int .i64 100] 23 (0, 0)) := blk_below K_b.out hB8
  have kk_c : w8.heap[w2.heap.size]? = some (.cells #[.int .i64 10, .int .i64 3, .int .i64 2, .int .i64 0, .int .i64 100] 23 (0, 0)) := blk_below K_c.out hB8
  have kk_d : w8.heap[w3.heap.size]? = some (.cells #[.int .i64 10, .int .i64 3, .int .i64 2, .int .i64 3, .int .i64 101] 23 (0, 0)) := blk_below K_d.out hB8
  have kk_x : w8.heap[w4.heap.size]? = some (.cells #[.int .i64 10, .int .i64 3, .int .i64 2, .int .i64 6, .int .i64 102] 23 (0, 0)) := blk_below K_x.out hB8
  have HB8 : Hid (Below w.heap.size w w8) := below_then HB7.out (by first | omega | (simp; done) | (simp; omega)) hB8
  have hL8 : w.heap.size ≤ w8.heap.size := HB8.out.size
  clear hB8 K_b hy_b hb_0 hb_1 hb_2 hb_3 hb_4 K_c hy_c hc_0 hc_1 hc_2 hc_3 hc_4 K_d hy_d hd_0 hd_1 hd_2 hd_3 hd_4 K_x hy_x hx_0 hx_1 hx_2 hx_3 hx_4 hL7
  have K_b : Hid (w8.heap[w1.heap.size]? = some (.cells #[.int .i64 10, .int .i64 3, .int .i64 2, .int .i64 20, .int .i64 100] 23 (0, 0))) := kk_b
  have hy_b : w1.heap.size < w8.heap.size := (Array.getElem?_eq_some_iff.1 kk_b).1
  have hb_0 : w8.cell? ⟨w1.heap.size, 0, none⟩ = some (.int .i64 10) := (cell_of_row w8 (w1.heap.size) 0 _ _ _ kk_b).trans rfl
  have hb_1 : w8.cell? ⟨w1.heap.size, 1, none⟩ = some (.int .i64 3) := (cell_of_row w8 (w1.heap.size) 1 _ _ _ kk_b).trans rfl
  have hb_2 : w8.cell? ⟨w1.heap.size, 2, none⟩ = some (.int .i64 2) := (cell_of_row w8 (w1.heap.size) 2 _ _ _ kk_b).trans rfl
  have hb_3 : w8.cell? ⟨w1.heap.size, 3, none⟩ = some (.int .i64 20) := (cell_of_row w8 (w1.heap.size) 3 _ _ _ kk_b).trans rfl
  have hb_4 : w8.cell? ⟨w1.heap.size, 4, none⟩ = some (.int .i64 100) := (cell_of_row w8 (w1.heap.size) 4 _ _ _ kk_b).trans rfl
  clear kk_b
  have K_c : Hid (w8.heap[w2.heap.size]? = some (.cells #[.int .i64 10, .int .i64 3, .int .i64 2, .int .i64 0, .int .i64 100] 23 (0, 0))) := kk_c
  have hy_c : w2.heap.size < w8.heap.size := (Array.getElem?_eq_some_iff.1 kk_c).1
  have hc_0 : w8.cell? ⟨w2.heap.size, 0, none⟩ = some (.int .i64 10) := (cell_of_row w8 (w2.heap.size) 0 _ _ _ kk_c).trans rfl
  have hc_1 : w8.cell? ⟨w2.heap.size, 1, none⟩ = some (.int .i64 3) := (cell_of_row w8 (w2.heap.size) 1 _ _ _ kk_c).trans rfl
  have hc_2 : w8.cell? ⟨w2.heap.size, 2, none⟩ = some (.int .i64 2) := (cell_of_row w8 (w2.heap.size) 2 _ _ _ kk_c).trans rfl
  have hc_3 : w8.cell? ⟨w2.heap.size, 3, none⟩ = some (.int .i64 0) := (cell_of_row w8 (w2.heap.size) 3 _ _ _ kk_c).trans rfl
  have hc_4 : w8.cell? ⟨w2.heap.size, 4, none⟩ = some (.int .i64 100) := (cell_of_row w8 (w2.heap.size) 4 _ _ _ kk_c).trans rfl
  clear kk_c
  have K_d : Hid (w8.heap[w3.heap.size]? = some (.cells #[.int .i64 10, .int .i64 3, .int .i64 2, .int .i64 3, .int .i64 101] 23 (0, 0))) := kk_d
  have hy_d : w3.heap.size < w8.heap.size := (Array.getElem?_eq_some_iff.1 kk_d).1
  have hd_0 : w8.cell? ⟨w3.heap.size, 0, none⟩ = some (.int .i64 10) := (cell_of_row w8 (w3.heap.size) 0 _ _ _ kk_d).trans rfl
  have hd_1 : w8.cell? ⟨w3.heap.size, 1, none⟩ = some (.int .i64 3) := (cell_of_row w8 (w3.heap.size) 1 _ _ _ kk_d).trans rfl
  have hd_2 : w8.cell? ⟨w3.heap.size, 2, none⟩ = some (.int .i64 2) := (cell_of_row w8 (w3.heap.size) 2 _ _ _ kk_d).trans rfl
  have hd_3 : w8.cell? ⟨w3.heap.size, 3, none⟩ = some (.int .i64 3) := (cell_of_row w8 (w3.heap.size) 3 _ _ _ kk_d).trans rfl
  have hd_4 : w8.cell? ⟨w3.heap.size, 4, none⟩ = some (.int .i64 101) := (cell_of_row w8 (w3.heap.size) 4 _ _ _ kk_d).trans rfl
  clear kk_d
  have K_x : Hid (w8.heap[w4.heap.size]? = some (.cells #[.int .i64 10, .int .i64 3, .int .i64 2, .int .i64 6, .int .i64 102] 23 (0, 0))) := kk_x
  have hy_x : w4.heap.size < w8.heap.size := (Array.getElem?_eq_some_iff.1 kk_x).1
  have hx_0 : w8.cell? ⟨w4.heap.size, 0, none⟩ = some (.int .i64 10) := (cell_of_row w8 (w4.heap.size) 0 _ _ _ kk_x).trans rfl
  have hx_1 : w8.cell? ⟨w4.heap.size, 1, none⟩ = some (.int .i64 3) := (cell_of_row w8 (w4.heap.size) 1 _ _ _ kk_x).trans rfl
  have hx_2 : w8.cell? ⟨w4.heap.size, 2, none⟩ = some (.int .i64 2) := (cell_of_row w8 (w4.heap.size) 2 _ _ _ kk_x).trans rfl
  have hx_3 : w8.cell? ⟨w4.heap.size, 3, none⟩ = some (.int .i64 6) := (cell_of_row w8 (w4.heap.size) 3 _ _ _ kk_x).trans rfl
  have hx_4 : w8.cell? ⟨w4.heap.size, 4, none⟩ = some (.int .i64 102) := (cell_of_row w8 (w4.heap.size) 4 _ _ _ kk_x).trans rfl
  clear kk_x
  go_wp2_with fail
  go_at_call 13
  refine (s_most2 _).mono ?_
  rintro e w9 ⟨rfl, hB9⟩
  have kk_b : w9.heap[w1.heap.size]? = some (.cells #[.int .i64 10, .int .i64 3, .int .i64 2, .int .i64 20, .int .i64 100] 23 (0, 0)) := blk_below K_b.out hB9
  have kk_c : w9.heap[w2.heap.size]? = some (.cells #[.int .i64 10, .int .i64 3, .int .i64 2, .int .i64 0, .int .i64 100] 23 (0, 0)) := blk_below K_c.out hB9
  have kk_d : w9.heap[w3.heap.size]? = some (.cells #[.int .i64 10, .int .i64 3, .int .i64 2, .int .i64 3, .int .i64 101] 23 (0, 0)) := blk_below K_d.out hB9
  have kk_x : w9.heap[w4.heap.size]? = some (.cells #[.int .i64 10, .int .i64 3, .int .i64 2, .int .i64 6, .int .i64 102] 23 (0, 0)) := blk_below K_x.out hB9
  have HB9 : Hid (Below w.heap.size w w9) := below_then HB8.out (by first | omega | (simp; done) | (simp; omega)) hB9
  have hL9 : w.heap.size ≤ w9.heap.size := HB9.out.size
  clear hB9 K_b hy_b hb_0 hb_1 hb_2 hb_3 hb_4 K_c hy_c hc_0 hc_1 hc_2 hc_3 hc_4 K_d hy_d hd_0 hd_1 hd_2 hd_3 hd_4 K_x hy_x hx_0 hx_1 hx_2 hx_3 hx_4 hL8
  have K_b : Hid (w9.heap[w1.heap.size]? = some (.cells #[.int .i64 10, .int .i64 3, .int .i64 2, .int .i64 20, .int .i64 100] 23 (0, 0))) := kk_b
  have hy_b : w1.heap.size < w9.heap.size := (Array.getElem?_eq_some_iff.1 kk_b).1
  have hb_0 : w9.cell? ⟨w1.heap.size, 0, none⟩ = some (.int .i64 10) := (cell_of_row w9 (w1.heap.size) 0 _ _ _ kk_b).trans rfl
  have hb_1 : w9.cell? ⟨w1.heap.size, 1, none⟩ = some (.int .i64 3) := (cell_of_row w9 (w1.heap.size) 1 _ _ _ kk_b).trans rfl
  have hb_2 : w9.cell? ⟨w1.heap.size, 2, none⟩ = some (.int .i64 2) := (cell_of_row w9 (w1.heap.size) 2 _ _ _ kk_b).trans rfl
  have hb_3 : w9.cell? ⟨w1.heap.size, 3, none⟩ = some (.int .i64 20) := (cell_of_row w9 (w1.heap.size) 3 _ _ _ kk_b).trans rfl
  have hb_4 : w9.cell? ⟨w1.heap.size, 4, none⟩ = some (.int .i64 100) := (cell_of_row w9 (w1.heap.size) 4 _ _ _ kk_b).trans rfl
  clear kk_b
  have K_c : Hid (w9.heap[w2.heap.size]? = some (.cells #[.int .i64 10, .int .i64 3, .int .i64 2, .int .i64 0, .int .i64 100] 23 (0, 0))) := kk_c
  have hy_c : w2.heap.size < w9.heap.size := (Array.getElem?_eq_some_iff.1 kk_c).1
  have hc_0 : w9.cell? ⟨w2.heap.size, 0, none⟩ = some (.int .i64 10) := (cell_of_row w9 (w2.heap.size) 0 _ _ _ kk_c).trans rfl
  have hc_1 : w9.cell? ⟨w2.heap.size, 1, none⟩ = some (.int .i64 3) := (cell_of_row w9 (w2.heap.size) 1 _ _ _ kk_c).trans rfl
  have hc_2 : w9.cell? ⟨w2.heap.size, 2, none⟩ = some (.int .i64 2) := (cell_of_row w9 (w2.heap.size) 2 _ _ _ kk_c).trans rfl
  have hc_3 : w9.cell? ⟨w2.heap.size, 3, none⟩ = some (.int .i64 0) := (cell_of_row w9 (w2.heap.size) 3 _ _ _ kk_c).trans rfl
  have hc_4 : w9.cell? ⟨w2.heap.size, 4, none⟩ = some (.int .i64 100) := (cell_of_row w9 (w2.heap.size) 4 _ _ _ kk_c).trans rfl
  clear kk_c
  have K_d : Hid (w9.heap[w3.heap.size]? = some (.cells #[.int .i64 10, .int .i64 3, .int .i64 2, .int .i64 3, .int .i64 101] 23 (0, 0))) := kk_d
  have hy_d : w3.heap.size < w9.heap.size := (Array.getElem?_eq_some_iff.1 kk_d).1
  have hd_0 : w9.cell? ⟨w3.heap.size, 0, none⟩ = some (.int .i64 10) := (cell_of_row w9 (w3.heap.size) 0 _ _ _ kk_d).trans rfl
  have hd_1 : w9.cell? ⟨w3.heap.size, 1, none⟩ = some (.int .i64 3) := (cell_of_row w9 (w3.heap.size) 1 _ _ _ kk_d).trans rfl
  have hd_2 : w9.cell? ⟨w3.heap.size, 2, none⟩ = some (.int .i64 2) := (cell_of_row w9 (w3.heap.size) 2 _ _ _ kk_d).trans rfl
  have hd_3 : w9.cell? ⟨w3.heap.size, 3, none⟩ = some (.int .i64 3) := (cell_of_row w9 (w3.heap.size) 3 _ _ _ kk_d).trans rfl
  have hd_4 : w9.cell? ⟨w3.heap.size, 4, none⟩ = some (.int .i64 101) := (cell_of_row w9 (w3.heap.size) 4 _ _ _ kk_d).trans rfl
  clear kk_d
  have K_x : Hid (w9.heap[w4.heap.size]? = some (.cells #[.int .i64 10, .int .i64 3, .int .i64 2, .int .i64 6, .int .i64 102] 23 (0, 0))) := kk_x
  have hy_x : w4.heap.size < w9.heap.size := (Array.getElem?_eq_some_iff.1 kk_x).1
  have hx_0 : w9.cell? ⟨w4.heap.size, 0, none⟩ = some (.int .i64 10) := (cell_of_row w9 (w4.heap.size) 0 _ _ _ kk_x).trans rfl
  have hx_1 : w9.cell? ⟨w4.heap.size, 1, none⟩ = some (.int .i64 3) := (cell_of_row w9 (w4.heap.size) 1 _ _ _ kk_x).trans rfl
  have hx_2 : w9.cell? ⟨w4.heap.size, 2, none⟩ = some (.int .i64 2) := (cell_of_row w9 (w4.heap.size) 2 _ _ _ kk_x).trans rfl
  have hx_3 : w9.cell? ⟨w4.heap.size, 3, none⟩ = some (.int .i64 6) := (cell_of_row w9 (w4.heap.size) 3 _ _ _ kk_x).trans rfl
  have hx_4 : w9.cell? ⟨w4.heap.size, 4, none⟩ = some (.int .i64 102) := (cell_of_row w9 (w4.heap.size) 4 _ _ _ kk_x).trans rfl
  clear kk_x
  go_wp2_with fail
  go_at_call 24
  refine (s_split _ _ _ (blk_alloc (heap_alloc_new _ _) _) (heap2 _ _ _)).mono ?_
  rintro e w10 ⟨g, cap, rfl, hp1, hp2, hB10⟩
  have kN_p := heap_alloc_new w9 (.cells #[.int .i64 4, .int .i64 6] 3)
  have kN_q := heap_alloc_new (w9.alloc (.cells #[.int .i64 4, .int .i64 6] 3)) (.cells #[.int .i64 1, .int .i64 2] 3)
  simp only [World.size_alloc] at kN_q
  have kk_c : w10.heap[w2.heap.size]? = some (.cells #[.int .i64 10, .int .i64 3, .int .i64 2, .int .i64 0, .int .i64 100] 23 (0, 0)) := blk_below (blk_alloc (blk_alloc K_c.out _) _) hB10
  have kk_d : w10.heap[w3.heap.size]? = some (.cells #[.int .i64 10, .int .i64 3, .int .i64 2, .int .i64 3, .int .i64 101] 23 (0, 0)) := blk_below (blk_alloc (blk_alloc K_d.out _) _) hB10
  have kk_x : w10.heap[w4.heap.size]? = some (.cells #[.int .i64 10, .int .i64 3, .int .i64 2, .int .i64 6, .int .i64 102] 23 (0, 0)) := blk_below (blk_alloc (blk_alloc K_x.out _) _) hB10
  have HB10 : Hid (Below w.heap.size w w10) := below_then ((HB9.out.alloc (by first | omega | (simp; done) | (simp; omega)) _).alloc (by first | omega | (simp; done) | (simp; omega)) _) (by first | omega | (simp; done) | (simp; omega)) hB10
  have hL10 : w.heap.size ≤ w10.heap.size := HB10.out.size
  clear hB10 K_b hy_b hb_0 hb_1 hb_2 hb_3 hb_4 K_c hy_c hc_0 hc_1 hc_2 hc_3 hc_4 K_d hy_d hd_0 hd_1 hd_2 hd_3 hd_4 K_x hy_x hx_0 hx_1 hx_2 hx_3 hx_4 kN_p kN_q hL9
  have K_c : Hid (w10.heap[w2.heap.size]? = some (.cells #[.int .i64 10, .int .i64 3, .int .i64 2, .int .i64 0, .int .i64 100] 23 (0, 0))) := kk_c
  have hy_c : w2.heap.size < w10.heap.size := (Array.getElem?_eq_some_iff.1 kk_c).1
  have hc_0 : w10.cell? ⟨w2.heap.size, 0, none⟩ = some (.int .i64 10) := (cell_of_row w10 (w2.heap.size) 0 _ _ _ kk_c).trans rfl
  have hc_1 : w10.cell? ⟨w2.heap.size, 1, none⟩ = some (.int .i64 3) := (cell_of_row w10 (w2.heap.size) 1 _ _ _ kk_c).trans rfl
  have hc_2 : w10.cell? ⟨w2.heap.size, 2, none⟩ = some (.int .i64 2) := (cell_of_row w10 (w2.heap.size) 2 _ _ _ kk_c).trans rfl
  have hc_3 : w10.cell? ⟨w2.heap.size, 3, none⟩ = some (.int .i64 0) := (cell_of_row w10 (w2.heap.size) 3 _ _ _ kk_c).trans rfl
  have hc_4 : w10.cell? ⟨w2.heap.size, 4, none⟩ = some (.int .i64 100) := (cell_of_row w10 (w2.heap.size) 4 _ _ _ kk_c).trans rfl
  clear kk_c
  have K_d : Hid (w10.heap[w3.heap.size]? = some (.cells #[.int .i64 10, .int .i64 3, .int .i64 2, .int .i64 3, .int .i64 101] 23 (0, 0))) := kk_d
  have hy_d : w3.heap.size < w10.heap.size := (Array.getElem?_eq_some_iff.1 kk_d).1
  have hd_0 : w10.cell? ⟨w3.heap.size, 0, none⟩ = some (.int .i64 10) := (cell_of_row w10 (w3.heap.size) 0 _ _ _ kk_d).trans rfl
  have hd_1 : w10.cell? ⟨w3.heap.size, 1, none⟩ = some (.int .i64 3) := (cell_of_row w10 (w3.heap.size) 1 _ _ _ kk_d).trans rfl
  have hd_2 : w10.cell? ⟨w3.heap.size, 2, none⟩ = some (.int .i64 2) := (cell_of_row w10 (w3.heap.size) 2 _ _ _ kk_d).trans rfl
  have hd_3 : w10.cell? ⟨w3.heap.size, 3, none⟩ = some (.int .i64 3) := (cell_of_row w10 (w3.heap.size) 3 _ _ _ kk_d).trans rfl
  have hd_4 : w10.cell? ⟨w3.heap.size, 4, none⟩ = some (.int .i64 101) := (cell_of_row w10 (w3.heap.size) 4 _ _ _ kk_d).trans rfl
  clear kk_d
  have K_x : Hid (w10.heap[w4.heap.size]? = some (.cells #[.int .i64 10, .int .i64 3, .int .i64 2, .int .i64 6, .int .i64 102] 23 (0, 0))) := kk_x
  have hy_x : w4.heap.size < w10.heap.size := (Array.getElem?_eq_some_iff.1 kk_x).1
  have hx_0 : w10.cell? ⟨w4.heap.size, 0, none⟩ = some (.int .i64 10) := (cell_of_row w10 (w4.heap.size) 0 _ _ _ kk_x).trans rfl
  have hx_1 : w10.cell? ⟨w4.heap.size, 1, none⟩ = some (.int .i64 3) := (cell_of_row w10 (w4.heap.size) 1 _ _ _ kk_x).trans rfl
  have hx_2 : w10.cell? ⟨w4.heap.size, 2, none⟩ = some (.int .i64 2) := (cell_of_row w10 (w4.heap.size) 2 _ _ _ kk_x).trans rfl
  have hx_3 : w10.cell? ⟨w4.heap.size, 3, none⟩ = some (.int .i64 6) := (cell_of_row w10 (w4.heap.size) 3 _ _ _ kk_x).trans rfl
  have hx_4 : w10.cell? ⟨w4.heap.size, 4, none⟩ = some (.int .i64 102) := (cell_of_row w10 (w4.heap.size) 4 _ _ _ kk_x).trans rfl
  clear kk_x
  go_wp2_with fail
  go_at_call 22
  refine (s_tokens1 _).mono ?_
  rintro e w11 ⟨rfl, hB11⟩
  have kk_c : w11.heap[w2.heap.size]? = some (.cells #[.int .i64 10, .int .i64 3, .int .i64 2, .int .i64 0, .int .i64 100] 23 (0, 0)) := blk_below K_c.out hB11
  have kk_x : w11.heap[w4.heap.size]? = some (.cells #[.int .i64 10, .int .i64 3, .int .i64 2, .int .i64 6, .int .i64 102] 23 (0, 0)) := blk_below K_x.out hB11
  have hp1 : w11.cell? ⟨g, 3, none⟩ = some (.int .i64 8) := cell_below hB11 hp1
  have hp2 : w11.cell? ⟨g, 8, none⟩ = some (.int .i64 12) := cell_below hB11 hp2
  have HB11 : Hid (Below w.heap.size w w11) := below_then HB10.out (by first | omega | (simp; done) | (simp; omega)) hB11
  have hL11 : w.heap.size ≤ w11.heap.size := HB11.out.size
  clear hB11 K_c hy_c hc_0 hc_1 hc_2 hc_3 hc_4 K_d hy_d hd_0 hd_1 hd_2 hd_3 hd_4 K_x hy_x hx_0 hx_1 hx_2 hx_3 hx_4 hL10
  have K_c : Hid (w11.heap[w2.heap.size]? = some (.cells #[.int .i64 10, .int .i64 3, .int .i64 2, .int .i64 0, .int .i64 100] 23 (0, 0))) := kk_c
  have hy_c : w2.heap.size < w11.heap.size := (Array.getElem?_eq_some_iff.1 kk_c).1
  have hc_0 : w11.cell? ⟨w2.heap.size, 0, none⟩ = some (.int .i64 10) := (cell_of_row w11 (w2.heap.size) 0 _ _ _ kk_c).trans rfl
  have hc_1 : w11.cell? ⟨w2.heap.size, 1, none⟩ = some (.int .i64 3) := (cell_of_row w11 (w2.heap.size) 1 _ _ _ kk_c).trans rfl
  have hc_2 : w11.cell? ⟨w2.heap.size, 2, none⟩ = some (.int .i64 2) := (cell_of_row w11 (w2.heap.size) 2 _ _ _ kk_c).trans rfl
  have hc_3 : w11.cell? ⟨w2.heap.size, 3, none⟩ = some (.int .i64 0) := (cell_of_row w11 (w2.heap.size) 3 _ _ _ kk_c).trans rfl
  have hc_4 : w11.cell? ⟨w2.heap.size, 4, none⟩ = some (.int .i64 100) := (cell_of_row w11 (w2.heap.size) 4 _ _ _ kk_c).trans rfl
  clear kk_c
  have K_x : Hid (w11.heap[w4.heap.size]? = some (.cells #[.int .i64 10, .int .i64 3, .int .i64 2, .int .i64 6, .int .i64 102] 23 (0, 0))) := kk_x
  have hy_x : w4.heap.size < w11.heap.size := (Array.getElem?_eq_some_iff.1 kk_x).1
  have hx_0 : w11.cell? ⟨w4.heap.size, 0, none⟩ = some (.int .i64 10) := (cell_of_row w11 (w4.heap.size) 0 _ _ _ kk_x).trans rfl
  have hx_1 : w11.cell? ⟨w4.heap.size, 1, none⟩ = some (.int .i64 3) := (cell_of_row w11 (w4.heap.size) 1 _ _ _ kk_x).trans rfl
  have hx_2 : w11.cell? ⟨w4.heap.size, 2, none⟩ = some (.int .i64 2) := (cell_of_row w11 (w4.heap.size) 2 _ _ _ kk_x).trans rfl
  have hx_3 : w11.cell? ⟨w4.heap.size, 3, none⟩ = some (.int .i64 6) := (cell_of_row w11 (w4.heap.size) 3 _ _ _ kk_x).trans rfl
  have hx_4 : w11.cell? ⟨w4.heap.size, 4, none⟩ = some (.int .i64 102) := (cell_of_row w11 (w4.heap.size) 4 _ _ _ kk_x).trans rfl
  clear kk_x
  go_wp2_with fail
  go_at_call 22
  refine (s_tokens2 _).mono ?_
  rintro e w12 ⟨rfl, hB12⟩
  have kk_c : w12.heap[w2.heap.size]? = some (.cells #[.int .i64 10, .int .i64 3, .int .i64 2, .int .i64 0, .int .i64 100] 23 (0, 0)) := blk_below K_c.out hB12
  have hp1 : w12.cell? ⟨g, 3, none⟩ = some (.int .i64 8) := cell_below hB12 hp1
  have hp2 : w12.cell? ⟨g, 8, none⟩ = some (.int .i64 12) := cell_below hB12 hp2
  have HB12 : Hid (Below w.heap.size w w12) := below_then HB11.out (by first | omega | (simp; done) | (simp; omega)) hB12
  have hL12 : w.heap.size ≤ w12.heap.size := HB12.out.size
  clear hB12 K_c hy_c hc_0 hc_1 hc_2 hc_3 hc_4 K_x hy_x hx_0 hx_1 hx_2 hx_3 hx_4 hL11
  have K_c : Hid (w12.heap[w2.heap.size]? = some (.cells #[.int .i64 10, .int .i64 3, .int .i64 2, .int .i64 0, .int .i64 100] 23 (0, 0))) := kk_c
  have hy_c : w2.heap.size < w12.heap.size := (Array.getElem?_eq_some_iff.1 kk_c).1
  have hc_0 : w12.cell? ⟨w2.heap.size, 0, none⟩ = some (.int .i64 10) := (cell_of_row w12 (w2.heap.size) 0 _ _ _ kk_c).trans rfl
  have hc_1 : w12.cell? ⟨w2.heap.size, 1, none⟩ = some (.int .i64 3) := (cell_of_row w12 (w2.heap.size) 1 _ _ _ kk_c).trans rfl
  have hc_2 : w12.cell? ⟨w2.heap.size, 2, none⟩ = some (.int .i64 2) := (cell_of_row w12 (w2.heap.size) 2 _ _ _ kk_c).trans rfl
  have hc_3 : w12.cell? ⟨w2.heap.size, 3, none⟩ = some (.int .i64 0) := (cell_of_row w12 (w2.heap.size) 3 _ _ _ kk_c).trans rfl
  have hc_4 : w12.cell? ⟨w2.heap.size, 4, none⟩ = some (.int .i64 100) := (cell_of_row w12 (w2.heap.size) 4 _ _ _ kk_c).trans rfl
  clear kk_c
  go_wp2_with fail
  go_ret
  exact ⟨rfl, HB12.out⟩

end Go.Proofs.Ytcikmloklbdddaa
