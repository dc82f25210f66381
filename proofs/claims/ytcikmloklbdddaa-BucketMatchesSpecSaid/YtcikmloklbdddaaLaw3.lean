/- The walk of BucketMatchesSpec. No condition. -/
import Derived.Test.YtcikmloklbdddaaWWords
import Derived.Test.YtcikmloklbdddaaSane
set_option linter.unusedVariables false
set_option linter.unusedSimpArgs false
namespace Go.Proofs.Ytcikmloklbdddaa
open Go.RowKit
open Go.Proofs.YtcikmloklbdddaaW.PrintWords (ReadsInt rd own_nil blk_frozen own_weaken own_setCell own_base blk_set add_block blk_alloc blk_below)
/-! ### program and reference answer alike -/
def Both {α : Type} (P Q : α → Prop) : Prop := ∃ x : α, P x ∧ Q x
theorem new_both (c n d a : Int) : ∃ (x : BK) (e : Int), (∀ w : World, Calls Try.prog 9 #[.int .i64 c, .int .i64 n, .int .i64 d, .int .i64 a] w fun r w' => r = .returned (.tuple #[bk x.c x.n x.d x.l x.a, .int .i64 e]) ∧ Below w.heap.size w w') ∧
    (∀ w : World, Calls Try.prog 14 #[.int .i64 c, .int .i64 n, .int .i64 d, .int .i64 a] w fun r w' => r = .returned (.agg #[.int .i64 x.c, .int .i64 x.n, .int .i64 x.d, .int .i64 x.l, .int .i64 x.a, .int .i64 e]) ∧ Below w.heap.size w w') := by
  by_cases h1 : wi c 0 1073741824 = true
  · have g1 : 0 ≤ c ∧ c ≤ 1073741824 := of_decide_eq_true h1
    by_cases h2 : wi d 1 1048576 = true
    · have g2 : 1 ≤ d ∧ d ≤ 1048576 := of_decide_eq_true h2
      by_cases hv : V c n d (c * d) a
      · exact ⟨⟨c, n, d, c * d, a⟩, 0, fun w => new9_ok c n d a w g1.1 g1.2 g2.1 g2.2 hv, fun w => new14_ok c n d a w g1.1 g1.2 g2.1 g2.2 hv⟩
      · exact ⟨⟨0, 0, 0, 0, 0⟩, 1, fun w => new9_no c n d a w g1.1 g1.2 g2.1 g2.2 hv, fun w => new14_no c n d a w g1.1 g1.2 g2.1 g2.2 hv⟩
    · have h2' : wi d 1 1048576 = false := by simpa using h2
      have g2 : ¬ (1 ≤ d ∧ d ≤ 1048576) := of_decide_eq_false h2'
      exact ⟨⟨0, 0, 0, 0, 0⟩, 1, fun w => new9_n2 c n d a w h1 h2', fun w => new14_n c n d a w (by omega)⟩
  · have h1' : wi c 0 1073741824 = false := by simpa using h1
    have g1 : ¬ (0 ≤ c ∧ c ≤ 1073741824) := of_decide_eq_false h1'
    exact ⟨⟨0, 0, 0, 0, 0⟩, 1, fun w => new9_n1 c n d a w h1', fun w => new14_n c n d a w (by omega)⟩
theorem refill_both (c n d l a t : Int) : ∃ (x : BK) (e : Int), (∀ w : World, Calls Try.prog 10 #[bk c n d l a, .int .i64 t] w fun r w' => r = .returned (.tuple #[bk x.c x.n x.d x.l x.a, .int .i64 e]) ∧ Below w.heap.size w w') ∧
    (∀ w : World, Calls Try.prog 15 #[bk c n d l a, .int .i64 t] w fun r w' => r = .returned (.agg #[.int .i64 x.c, .int .i64 x.n, .int .i64 x.d, .int .i64 x.l, .int .i64 x.a, .int .i64 e]) ∧ Below w.heap.size w w') := by
  by_cases hv : V c n d l a
  · by_cases ht : wi t a 1099511627776 = true
    · have g := of_decide_eq_true (p := a ≤ t ∧ t ≤ 1099511627776) ht
      exact ⟨⟨c, n, d, lev c n d l a t, t⟩, 0, fun w => refill10_ok c n d l a t _ w hv g.1 g.2 rfl, fun w => refill15_ok c n d l a t _ w hv g.1 g.2 rfl⟩
    · have ht' : wi t a 1099511627776 = false := by simpa using ht
      exact ⟨⟨0, 0, 0, 0, 0⟩, 9, fun w => refill10_time c n d l a t w hv ht', fun w => refill15_time c n d l a t w hv ht'⟩
  · exact ⟨⟨0, 0, 0, 0, 0⟩, 1, fun w => refill10_arg c n d l a t w hv, fun w => refill15_arg c n d l a t w hv⟩
theorem take_both (c n d l a t m : Int) : ∃ (x : BK) (e : Int), (∀ w : World, Calls Try.prog 11 #[bk c n d l a, .int .i64 t, .int .i64 m] w fun r w' => r = .returned (.tuple #[bk x.c x.n x.d x.l x.a, .int .i64 e]) ∧ Below w.heap.size w w') ∧
    (∀ w : World, Calls Try.prog 16 #[bk c n d l a, .int .i64 t, .int .i64 m] w fun r w' => r = .returned (.agg #[.int .i64 x.c, .int .i64 x.n, .int .i64 x.d, .int .i64 x.l, .int .i64 x.a, .int .i64 e]) ∧ Below w.heap.size w w') := by
  by_cases hv : V c n d l a
  · by_cases hm : wi m 1 1073741824 = true
    · have gm := of_decide_eq_true (p := 1 ≤ m ∧ m ≤ 1073741824) hm
      by_cases ht : wi t a 1099511627776 = true
      · have g := of_decide_eq_true (p := a ≤ t ∧ t ≤ 1099511627776) ht
        by_cases hx : lev c n d l a t < m * d
        · exact ⟨⟨0, 0, 0, 0, 0⟩, 4, fun w => take11_short c n d l a t m _ w hv gm.1 gm.2 g.1 g.2 rfl hx, fun w => take16_short c n d l a t m _ w hv gm.1 gm.2 g.1 g.2 rfl hx⟩
        · exact ⟨⟨c, n, d, lev c n d l a t - m * d, t⟩, 0, fun w => take11_fine c n d l a t m _ w hv gm.1 gm.2 g.1 g.2 rfl (by omega), fun w => take16_fine c n d l a t m _ w hv gm.1 gm.2 g.1 g.2 rfl (by omega)⟩
      · have ht' : wi t a 1099511627776 = false := by simpa using ht
        exact ⟨⟨0, 0, 0, 0, 0⟩, 9, fun w => take11_time c n d l a t m w hv gm.1 gm.2 ht', fun w => take16_time c n d l a t m w hv gm.1 gm.2 ht'⟩
    · have hm' : wi m 1 1073741824 = false := by simpa using hm
      exact ⟨⟨0, 0, 0, 0, 0⟩, 1, fun w => take11_arg2 c n d l a t m w hv hm', fun w => take16_arg2 c n d l a t m w hv hm'⟩
  · exact ⟨⟨0, 0, 0, 0, 0⟩, 1, fun w => take11_arg1 c n d l a t m w hv, fun w => take16_arg1 c n d l a t m w hv⟩
theorem ceil_eq {x n : Int} (hn : 0 < n) : (x + n - 1) / n = (x - 1) / n + 1 := by
  rw [show x + n - 1 = (x - 1) + n * 1 by omega, Int.add_mul_ediv_left _ _ (by omega)]
theorem wait_both (c n d l a m : Int) : ∃ (r e : Int), (∀ w : World, Calls Try.prog 12 #[bk c n d l a, .int .i64 m] w fun x w' => x = .returned (.tuple #[.int .i64 r, .int .i64 e]) ∧ Below w.heap.size w w') ∧
    (∀ w : World, Calls Try.prog 17 #[bk c n d l a, .int .i64 m] w fun x w' => x = .returned (.agg #[.int .i64 r, .int .i64 e]) ∧ Below w.heap.size w w') := by
  by_cases hv : V c n d l a
  · by_cases hm : wi m 1 1073741824 = true
    · have gm := of_decide_eq_true (p := 1 ≤ m ∧ m ≤ 1073741824) hm
      by_cases hc : c < m
      · exact ⟨0, 2, fun w => wait12_limit c n d l a m w hv gm.1 gm.2 hc, fun w => wait17_limit c n d l a m w hv gm.1 gm.2 hc⟩
      · have hc : m ≤ c := by omega
        by_cases hl : m * d ≤ l
        · exact ⟨a, 0, fun w => wait12_now c n d l a m w hv gm.1 gm.2 hc hl, fun w => wait17_now c n d l a m w hv gm.1 gm.2 hc hl⟩
        · have hl : l < m * d := by omega
          by_cases hn : n = 0
          · subst hn
            exact ⟨0, 4, fun w => wait12_never1 c d l a m w hv gm.1 gm.2 hc hl, fun w => wait17_never1 c d l a m w hv gm.1 gm.2 hc hl⟩
          · have hn1 : 1 ≤ n := by have := hv.2.2.1; omega
            have e1 : (m * d - l + n - 1) / n = (m * d - l - 1) / n + 1 := ceil_eq (by omega)
            by_cases hE : n * (1099511627776 - a) < m * d - l
            · refine ⟨0, 4, fun w => wait12_never2 c n d l a m w hv gm.1 gm.2 hc hl hn1 hE, fun w => wait17_never2 c n d l a m w hv gm.1 gm.2 hc hl hn1 ?_⟩
              rw [e1]
              have h1 : 1099511627776 - a ≤ (m * d - l - 1) / n := (Int.le_ediv_iff_mul_le (by omega)).2 (by have := Int.mul_comm n (1099511627776 - a); omega)
              omega
            · refine ⟨a + (m * d - l - 1) / n + 1, 0, fun w => wait12_later c n d l a m w hv gm.1 gm.2 hc hl hn1 (by omega), fun w => ?_⟩
              have h1 : (m * d - l - 1) / n < 1099511627776 - a := (Int.ediv_lt_iff_lt_mul (by omega)).2 (by have := Int.mul_comm n (1099511627776 - a); omega)
              have := wait17_later c n d l a m w hv gm.1 gm.2 hc hl hn1 (by rw [e1]; omega)
              rw [e1, ← Int.add_assoc] at this
              exact this
    · have hm' : wi m 1 1073741824 = false := by simpa using hm
      exact ⟨0, 1, fun w => wait12_arg2 c n d l a m w hv hm', fun w => wait17_arg2 c n d l a m w hv hm'⟩
  · exact ⟨0, 1, fun w => wait12_arg1 c n d l a m w hv, fun w => wait17_arg1 c n d l a m w hv⟩
theorem most_both (c n d l a t u : Int) : ∃ (r e : Int), (∀ w : World, Calls Try.prog 13 #[bk c n d l a, .int .i64 t, .int .i64 u] w fun x w' => x = .returned (.tuple #[.int .i64 r, .int .i64 e]) ∧ Below w.heap.size w w') ∧
    (∀ w : World, Calls Try.prog 18 #[bk c n d l a, .int .i64 t, .int .i64 u] w fun x w' => x = .returned (.agg #[.int .i64 r, .int .i64 e]) ∧ Below w.heap.size w w') := by
  by_cases hv : V c n d l a
  · by_cases h : u < t
    · exact ⟨0, 1, fun w => most13_arg2 c n d l a t u w hv h, fun w => most18_arg2 c n d l a t u w hv h⟩
    · have h : t ≤ u := by omega
      by_cases ht : wi t a 1099511627776 = true
      · have g := of_decide_eq_true (p := a ≤ t ∧ t ≤ 1099511627776) ht
        by_cases h1 : t = u
        · subst h1
          exact ⟨0, 0, fun w => most13_same c n d l a t _ w hv g.1 g.2 rfl, fun w => most18_same c n d l a t _ w hv g.1 g.2 rfl⟩
        · have h2 : t < u := by omega
          by_cases h3 : 1099511627776 < u
          · exact ⟨0, 9, fun w => most13_time2 c n d l a t u _ w hv g.1 g.2 rfl h2 h3, fun w => most18_time2 c n d l a t u _ w hv g.1 g.2 rfl h2 h3⟩
          · exact ⟨_, 0, fun w => most13_ok c n d l a t u _ w hv g.1 g.2 rfl h2 (by omega), fun w => most18_ok c n d l a t u _ w hv g.1 g.2 rfl h2 (by omega)⟩
      · have ht' : wi t a 1099511627776 = false := by simpa using ht
        exact ⟨0, 9, fun w => most13_time1 c n d l a t u w hv h ht', fun w => most18_time1 c n d l a t u w hv h ht'⟩
  · exact ⟨0, 1, fun w => most13_arg1 c n d l a t u w hv, fun w => most18_arg1 c n d l a t u w hv⟩
theorem tokens_both (c n d l a : Int) : ∃ r : Int, (∀ w : World, Calls Try.prog 22 #[bk c n d l a] w fun x w' => x = .returned (.int .i64 r) ∧ Below w.heap.size w w') ∧
    (∀ w : World, Calls Try.prog 23 #[bk c n d l a] w fun x w' => x = .returned (.int .i64 r) ∧ Below w.heap.size w w') := by
  by_cases hv : V c n d l a
  · exact ⟨_, fun w => tokens22_ok c n d l a w hv, fun w => tokens23_ok c n d l a w hv⟩
  · exact ⟨_, fun w => tokens22_no c n d l a w hv, fun w => tokens23_no c n d l a w hv⟩
theorem valid_both (c n d l a : Int) : ∃ b : Bool, (∀ w : World, Calls Try.prog 20 #[bk c n d l a] w fun x w' => x = .returned (.bool b) ∧ Below w.heap.size w w') ∧
    (∀ w : World, Calls Try.prog 21 #[bk c n d l a] w fun x w' => x = .returned (.bool b) ∧ Below w.heap.size w w') := by
  refine ⟨decide (V c n d l a), fun w => (valid20_any c n d l a w _ rfl).mono ?_, fun w => (valid21_any c n d l a w _ rfl).mono ?_⟩
  all_goals
    rintro e w' ⟨he, rfl⟩
    exact ⟨he, (Below.refl _ _).alloc (Nat.le_refl _) _⟩

set_option maxHeartbeats 1000000 in
set_option maxRecDepth 100000 in
theorem law3_walk (c n d l a t m u e1 e2 e3 r4 e4 r5 e5 k : Int) (b : Bool) (x1 x2 x3 : BK) (w : World) (hN1 : ∀ w : World, Calls Try.prog 9 #[.int .i64 c, .int .i64 n, .int .i64 d, .int .i64 a] w fun r w' => r = .returned (.tuple #[bk x1.c x1.n x1.d x1.l x1.a, .int .i64 e1]) ∧ Below w.heap.size w w') (hN2 : ∀ w : World, Calls Try.prog 14 #[.int .i64 c, .int .i64 n, .int .i64 d, .int .i64 a] w fun r w' => r = .returned (.agg #[.int .i64 x1.c, .int .i64 x1.n, .int .i64 x1.d, .int .i64 x1.l, .int .i64 x1.a, .int .i64 e1]) ∧ Below w.heap.size w w') (hR1 : ∀ w : World, Calls Try.prog 10 #[bk c n d l a, .int .i64 t] w fun r w' => r = .returned (.tuple #[bk x2.c x2.n x2.d x2.l x2.a, .int .i64 e2]) ∧ Below w.heap.size w w') (hR2 : ∀ w : World, Calls Try.prog 15 #[bk c n d l a, .int .i64 t] w fun r w' => r = .returned (.agg #[.int .i64 x2.c, .int .i64 x2.n, .int .i64 x2.d, .int .i64 x2.l, .int .i64 x2.a, .int .i64 e2]) ∧ Below w.heap.size w w') (hT1 : ∀ w : World, Calls Try.prog 11 #[bk c n d l a, .int .i64 t, .int .i64 m] w fun r w' => r = .returned (.tuple #[bk x3.c x3.n x3.d x3.l x3.a, .int .i64 e3]) ∧ Below w.heap.size w w') (hT2 : ∀ w : World, Calls Try.prog 16 #[bk c n d l a, .int .i64 t, .int .i64 m] w fun r w' => r = .returned (.agg #[.int .i64 x3.c, .int .i64 x3.n, .int .i64 x3.d, .int .i64 x3.l, .int .i64 x3.a, .int .i64 e3]) ∧ Below w.heap.size w w') (hW1 : ∀ w : World, Calls Try.prog 12 #[bk c n d l a, .int .i64 m] w fun r w' => r = .returned (.tuple #[.int .i64 r4, .int .i64 e4]) ∧ Below w.heap.size w w') (hW2 : ∀ w : World, Calls Try.prog 17 #[bk c n d l a, .int .i64 m] w fun r w' => r = .returned (.agg #[.int .i64 r4, .int .i64 e4]) ∧ Below w.heap.size w w') (hM1 : ∀ w : World, Calls Try.prog 13 #[bk c n d l a, .int .i64 t, .int .i64 u] w fun r w' => r = .returned (.tuple #[.int .i64 r5, .int .i64 e5]) ∧ Below w.heap.size w w') (hM2 : ∀ w : World, Calls Try.prog 18 #[bk c n d l a, .int .i64 t, .int .i64 u] w fun r w' => r = .returned (.agg #[.int .i64 r5, .int .i64 e5]) ∧ Below w.heap.size w w') (hV1 : ∀ w : World, Calls Try.prog 20 #[bk c n d l a] w fun r w' => r = .returned (.bool b) ∧ Below w.heap.size w w') (hV2 : ∀ w : World, Calls Try.prog 21 #[bk c n d l a] w fun r w' => r = .returned (.bool b) ∧ Below w.heap.size w w') (hK1 : ∀ w : World, Calls Try.prog 22 #[bk c n d l a] w fun r w' => r = .returned (.int .i64 k) ∧ Below w.heap.size w w') (hK2 : ∀ w : World, Calls Try.prog 23 #[bk c n d l a] w fun r w' => r = .returned (.int .i64 k) ∧ Below w.heap.size w w') :
    Calls Try.prog 3 #[bk c n d l a, .int .i64 t, .int .i64 m, .int .i64 u] w fun e w' => e = .returned (.bool true) ∧ Below w.heap.size w w' := by
  have HN1 : Hid (∀ w : World, Calls Try.prog 9 #[.int .i64 c, .int .i64 n, .int .i64 d, .int .i64 a] w fun r w' => r = .returned (.tuple #[bk x1.c x1.n x1.d x1.l x1.a, .int .i64 e1]) ∧ Below w.heap.size w w') := hN1
  have HN2 : Hid (∀ w : World, Calls Try.prog 14 #[.int .i64 c, .int .i64 n, .int .i64 d, .int .i64 a] w fun r w' => r = .returned (.agg #[.int .i64 x1.c, .int .i64 x1.n, .int .i64 x1.d, .int .i64 x1.l, .int .i64 x1.a, .int .i64 e1]) ∧ Below w.heap.size w w') := hN2
  have HR1 : Hid (∀ w : World, Calls Try.prog 10 #[bk c n d l a, .int .i64 t] w fun r w' => r = .returned (.tuple #[bk x2.c x2.n x2.d x2.l x2.a, .int .i64 e2]) ∧ Below w.heap.size w w') := hR1
  have HR2 : Hid (∀ w : World, Calls Try.prog 15 #[bk c n d l a, .int .i64 t] w fun r w' => r = .returned (.agg #[.int .i64 x2.c, .int .i64 x2.n, .int .i64 x2.d, .int .i64 x2.l, .int .i64 x2.a, .int .i64 e2]) ∧ Below w.heap.size w w') := hR2
  have HT1 : Hid (∀ w : World, Calls Try.prog 11 #[bk c n d l a, .int .i64 t, .int .i64 m] w fun r w' => r = .returned (.tuple #[bk x3.c x3.n x3.d x3.l x3.a, .int .i64 e3]) ∧ Below w.heap.size w w') := hT1
  have HT2 : Hid (∀ w : World, Calls Try.prog 16 #[bk c n d l a, .int .i64 t, .int .i64 m] w fun r w' => r = .returned (.agg #[.int .i64 x3.c, .int .i64 x3.n, .int .i64 x3.d, .int .i64 x3.l, .int .i64 x3.a, .int .i64 e3]) ∧ Below w.heap.size w w') := hT2
  have HW1 : Hid (∀ w : World, Calls Try.prog 12 #[bk c n d l a, .int .i64 m] w fun r w' => r = .returned (.tuple #[.int .i64 r4, .int .i64 e4]) ∧ Below w.heap.size w w') := hW1
  have HW2 : Hid (∀ w : World, Calls Try.prog 17 #[bk c n d l a, .int .i64 m] w fun r w' => r = .returned (.agg #[.int .i64 r4, .int .i64 e4]) ∧ Below w.heap.size w w') := hW2
  have HM1 : Hid (∀ w : World, Calls Try.prog 13 #[bk c n d l a, .int .i64 t, .int .i64 u] w fun r w' => r = .returned (.tuple #[.int .i64 r5, .int .i64 e5]) ∧ Below w.heap.size w w') := hM1
  have HM2 : Hid (∀ w : World, Calls Try.prog 18 #[bk c n d l a, .int .i64 t, .int .i64 u] w fun r w' => r = .returned (.agg #[.int .i64 r5, .int .i64 e5]) ∧ Below w.heap.size w w') := hM2
  have HV1 : Hid (∀ w : World, Calls Try.prog 20 #[bk c n d l a] w fun r w' => r = .returned (.bool b) ∧ Below w.heap.size w w') := hV1
  have HV2 : Hid (∀ w : World, Calls Try.prog 21 #[bk c n d l a] w fun r w' => r = .returned (.bool b) ∧ Below w.heap.size w w') := hV2
  have HK1 : Hid (∀ w : World, Calls Try.prog 22 #[bk c n d l a] w fun r w' => r = .returned (.int .i64 k) ∧ Below w.heap.size w w') := hK1
  have HK2 : Hid (∀ w : World, Calls Try.prog 23 #[bk c n d l a] w fun r w' => r = .returned (.int .i64 k) ∧ Below w.heap.size w w') := hK2
  clear hN1 hN2 hR1 hR2 hT1 hT2 hW1 hW2 hM1 hM2 hV1 hV2 hK1 hK2
  have HB0 : Hid (Below w.heap.size w w) := Below.refl _ _
  have hL0 : w.heap.size ≤ w.heap.size := Nat.le_refl _
  go_enter Try.func3, Try.ntmps3
  go_wp2_with fail
  go_at_call 9
  refine (HN1.out _).mono ?_
  rintro e w1 ⟨rfl, hB1⟩
  have kN_b := heap_alloc_new w (.cells #[.int .i64 c, .int .i64 n, .int .i64 d, .int .i64 l, .int .i64 a] 23)
  have kk_b : w1.heap[w.heap.size]? = some (.cells #[.int .i64 c, .int .i64 n, .int .i64 d, .int .i64 l, .int .i64 a] 23 (0, 0)) := blk_below kN_b hB1
  have HB1 : Hid (Below w.heap.size w w1) := below_then (HB0.out.alloc (by first | omega | (simp; done) | (simp; omega)) _) (by first | omega | (simp; done) | (simp; omega)) hB1
  have hL1 : w.heap.size ≤ w1.heap.size := HB1.out.size
  clear hB1 kN_b
  have K_b : Hid (w1.heap[w.heap.size]? = some (.cells #[.int .i64 c, .int .i64 n, .int .i64 d, .int .i64 l, .int .i64 a] 23 (0, 0))) := kk_b
  have hy_b : w.heap.size < w1.heap.size := (Array.getElem?_eq_some_iff.1 kk_b).1
  have hb_0 : w1.cell? ⟨w.heap.size, 0, none⟩ = some (.int .i64 c) := (cell_of_row w1 (w.heap.size) 0 _ _ _ kk_b).trans rfl
  have hb_1 : w1.cell? ⟨w.heap.size, 1, none⟩ = some (.int .i64 n) := (cell_of_row w1 (w.heap.size) 1 _ _ _ kk_b).trans rfl
  have hb_2 : w1.cell? ⟨w.heap.size, 2, none⟩ = some (.int .i64 d) := (cell_of_row w1 (w.heap.size) 2 _ _ _ kk_b).trans rfl
  have hb_3 : w1.cell? ⟨w.heap.size, 3, none⟩ = some (.int .i64 l) := (cell_of_row w1 (w.heap.size) 3 _ _ _ kk_b).trans rfl
  have hb_4 : w1.cell? ⟨w.heap.size, 4, none⟩ = some (.int .i64 a) := (cell_of_row w1 (w.heap.size) 4 _ _ _ kk_b).trans rfl
  clear kk_b
  go_wp2_with fail
  go_at_call 10
  refine (HR1.out _).mono ?_
  rintro e w2 ⟨rfl, hB2⟩
  have kN_p1 := heap_alloc_new w1 (.cells #[.int .i64 x1.c, .int .i64 x1.n, .int .i64 x1.d, .int .i64 x1.l, .int .i64 x1.a] 23)
  have kk_b : w2.heap[w.heap.size]? = some (.cells #[.int .i64 c, .int .i64 n, .int .i64 d, .int .i64 l, .int .i64 a] 23 (0, 0)) := blk_below (blk_alloc K_b.out _) hB2
  have kk_p1 : w2.heap[w1.heap.size]? = some (.cells #[.int .i64 x1.c, .int .i64 x1.n, .int .i64 x1.d, .int .i64 x1.l, .int .i64 x1.a] 23 (0, 0)) := blk_below kN_p1 hB2
  have HB2 : Hid (Below w.heap.size w w2) := below_then (HB1.out.alloc (by first | omega | (simp; done) | (simp; omega)) _) (by first | omega | (simp; done) | (simp; omega)) hB2
  have hL2 : w.heap.size ≤ w2.heap.size := HB2.out.size
  clear hB2 K_b hy_b hb_0 hb_1 hb_2 hb_3 hb_4 kN_p1 hL1
  have K_b : Hid (w2.heap[w.heap.size]? = some (.cells #[.int .i64 c, .int .i64 n, .int .i64 d, .int .i64 l, .int .i64 a] 23 (0, 0))) := kk_b
  have hy_b : w.heap.size < w2.heap.size := (Array.getElem?_eq_some_iff.1 kk_b).1
  have hb_0 : w2.cell? ⟨w.heap.size, 0, none⟩ = some (.int .i64 c) := (cell_of_row w2 (w.heap.size) 0 _ _ _ kk_b).trans rfl
  have hb_1 : w2.cell? ⟨w.heap.size, 1, none⟩ = some (.int .i64 n) := (cell_of_row w2 (w.heap.size) 1 _ _ _ kk_b).trans rfl
  have hb_2 : w2.cell? ⟨w.heap.size, 2, none⟩ = some (.int .i64 d) := (cell_of_row w2 (w.heap.size) 2 _ _ _ kk_b).trans rfl
  have hb_3 : w2.cell? ⟨w.heap.size, 3, none⟩ = some (.int .i64 l) := (cell_of_row w2 (w.heap.size) 3 _ _ _ kk_b).trans rfl
  have hb_4 : w2.cell? ⟨w.heap.size, 4, none⟩ = some (.int .i64 a) := (cell_of_row w2 (w.heap.size) 4 _ _ _ kk_b).trans rfl
  clear kk_b
  have K_p1 : Hid (w2.heap[w1.heap.size]? = some (.cells #[.int .i64 x1.c, .int .i64 x1.n, .int .i64 x1.d, .int .i64 x1.l, .int .i64 x1.a] 23 (0, 0))) := kk_p1
  have hy_p1 : w1.heap.size < w2.heap.size := (Array.getElem?_eq_some_iff.1 kk_p1).1
  have hp1_0 : w2.cell? ⟨w1.heap.size, 0, none⟩ = some (.int .i64 x1.c) := (cell_of_row w2 (w1.heap.size) 0 _ _ _ kk_p1).trans rfl
  have hp1_1 : w2.cell? ⟨w1.heap.size, 1, none⟩ = some (.int .i64 x1.n) := (cell_of_row w2 (w1.heap.size) 1 _ _ _ kk_p1).trans rfl
  have hp1_2 : w2.cell? ⟨w1.heap.size, 2, none⟩ = some (.int .i64 x1.d) := (cell_of_row w2 (w1.heap.size) 2 _ _ _ kk_p1).trans rfl
  have hp1_3 : w2.cell? ⟨w1.heap.size, 3, none⟩ = some (.int .i64 x1.l) := (cell_of_row w2 (w1.heap.size) 3 _ _ _ kk_p1).trans rfl
  have hp1_4 : w2.cell? ⟨w1.heap.size, 4, none⟩ = some (.int .i64 x1.a) := (cell_of_row w2 (w1.heap.size) 4 _ _ _ kk_p1).trans rfl
  clear kk_p1
  go_wp2_with fail
  go_at_call 11
  refine (HT1.out _).mono ?_
  rintro e w3 ⟨rfl, hB3⟩
  have kN_p2 := heap_alloc_new w2 (.cells #[.int .i64 x2.c, .int .i64 x2.n, .int .i64 x2.d, .int .i64 x2.l, .int .i64 x2.a] 23)
  have kk_b : w3.heap[w.heap.size]? = some (.cells #[.int .i64 c, .int .i64 n, .int .i64 d, .int .i64 l, .int .i64 a] 23 (0, 0)) := blk_below (blk_alloc K_b.out _) hB3
  have kk_p1 : w3.heap[w1.heap.size]? = some (.cells #[.int .i64 x1.c, .int .i64 x1.n, .int .i64 x1.d, .int .i64 x1.l, .int .i64 x1.a] 23 (0, 0)) := blk_below (blk_alloc K_p1.out _) hB3
  have kk_p2 : w3.heap[w2.heap.size]? = some (.cells #[.int .i64 x2.c, .int .i64 x2.n, .int .i64 x2.d, .int .i64 x2.l, .int .i64 x2.a] 23 (0, 0)) := blk_below kN_p2 hB3
  have HB3 : Hid (Below w.heap.size w w3) := below_then (HB2.out.alloc (by first | omega | (simp; done) | (simp; omega)) _) (by first | omega | (simp; done) | (simp; omega)) hB3
  have hL3 : w.heap.size ≤ w3.heap.size := HB3.out.size
  clear hB3 K_b hy_b hb_0 hb_1 hb_2 hb_3 hb_4 K_p1 hy_p1 hp1_0 hp1_1 hp1_2 hp1_3 hp1_4 kN_p2 hL2
  have K_b : Hid (w3.heap[w.heap.size]? = some (.cells #[.int .i64 c, .int .i64 n, .int .i64 d, .int .i64 l, .int .i64 a] 23 (0, 0))) := kk_b
  have hy_b : w.heap.size < w3.heap.size := (Array.getElem?_eq_some_iff.1 kk_b).1
  have hb_0 : w3.cell? ⟨w.heap.size, 0, none⟩ = some (.int .i64 c) := (cell_of_row w3 (w.heap.size) 0 _ _ _ kk_b).trans rfl
  have hb_1 : w3.cell? ⟨w.heap.size, 1, none⟩ = some (.int .i64 n) := (cell_of_row w3 (w.heap.size) 1 _ _ _ kk_b).trans rfl
  have hb_2 : w3.cell? ⟨w.heap.size, 2, none⟩ = some (.int .i64 d) := (cell_of_row w3 (w.heap.size) 2 _ _ _ kk_b).trans rfl
  have hb_3 : w3.cell? ⟨w.heap.size, 3, none⟩ = some (.int .i64 l) := (cell_of_row w3 (w.heap.size) 3 _ _ _ kk_b).trans rfl
  have hb_4 : w3.cell? ⟨w.heap.size, 4, none⟩ = some (.int .i64 a) := (cell_of_row w3 (w.heap.size) 4 _ _ _ kk_b).trans rfl
  clear kk_b
  have K_p1 : Hid (w3.heap[w1.heap.size]? = some (.cells #[.int .i64 x1.c, .int .i64 x1.n, .int .i64 x1.d, .int .i64 x1.l, .int .i64 x1.a] 23 (0, 0))) := kk_p1
  have hy_p1 : w1.heap.size < w3.heap.size := (Array.getElem?_eq_some_iff.1 kk_p1).1
  have hp1_0 : w3.cell? ⟨w1.heap.size, 0, none⟩ = some (.int .i64 x1.c) := (cell_of_row w3 (w1.heap.size) 0 _ _ _ kk_p1).trans rfl
  have hp1_1 : w3.cell? ⟨w1.heap.size, 1, none⟩ = some (.int .i64 x1.n) := (cell_of_row w3 (w1.heap.size) 1 _ _ _ kk_p1).trans rfl
  have hp1_2 : w3.cell? ⟨w1.heap.size, 2, none⟩ = some (.int .i64 x1.d) := (cell_of_row w3 (w1.heap.size) 2 _ _ _ kk_p1).trans rfl
  have hp1_3 : w3.cell? ⟨w1.heap.size, 3, none⟩ = some (.int .i64 x1.l) := (cell_of_row w3 (w1.heap.size) 3 _ _ _ kk_p1).trans rfl
  have hp1_4 : w3.cell? ⟨w1.heap.size, 4, none⟩ = some (.int .i64 x1.a) := (cell_of_row w3 (w1.heap.size) 4 _ _ _ kk_p1).trans rfl
  clear kk_p1
  have K_p2 : Hid (w3.heap[w2.heap.size]? = some (.cells #[.int .i64 x2.c, .int .i64 x2.n, .int .i64 x2.d, .int .i64 x2.l, .int .i64 x2.a] 23 (0, 0))) := kk_p2
  have hy_p2 : w2.heap.size < w3.heap.size := (Array.getElem?_eq_some_iff.1 kk_p2).1
  have hp2_0 : w3.cell? ⟨w2.heap.size, 0, none⟩ = some (.int .i64 x2.c) := (cell_of_row w3 (w2.heap.size) 0 _ _ _ kk_p2).trans rfl
  have hp2_1 : w3.cell? ⟨w2.heap.size, 1, none⟩ = some (.int .i64 x2.n) := (cell_of_row w3 (w2.heap.size) 1 _ _ _ kk_p2).trans rfl
  have hp2_2 : w3.cell? ⟨w2.heap.size, 2, none⟩ = some (.int .i64 x2.d) := (cell_of_row w3 (w2.heap.size) 2 _ _ _ kk_p2).trans rfl
  have hp2_3 : w3.cell? ⟨w2.heap.size, 3, none⟩ = some (.int .i64 x2.l) := (cell_of_row w3 (w2.heap.size) 3 _ _ _ kk_p2).trans rfl
  have hp2_4 : w3.cell? ⟨w2.heap.size, 4, none⟩ = some (.int .i64 x2.a) := (cell_of_row w3 (w2.heap.size) 4 _ _ _ kk_p2).trans rfl
  clear kk_p2
  go_wp2_with fail
  go_at_call 12
  refine (HW1.out _).mono ?_
  rintro e w4 ⟨rfl, hB4⟩
  have kN_p3 := heap_alloc_new w3 (.cells #[.int .i64 x3.c, .int .i64 x3.n, .int .i64 x3.d, .int .i64 x3.l, .int .i64 x3.a] 23)
  have kk_b : w4.heap[w.heap.size]? = some (.cells #[.int .i64 c, .int .i64 n, .int .i64 d, .int .i64 l, .int .i64 a] 23 (0, 0)) := blk_below (blk_alloc K_b.out _) hB4
  have kk_p1 : w4.heap[w1.heap.size]? = some (.cells #[.int .i64 x1.c, .int .i64 x1.n, .int .i64 x1.d, .int .i64 x1.l, .int .i64 x1.a] 23 (0, 0)) := blk_below (blk_alloc K_p1.out _) hB4
  have kk_p2 : w4.heap[w2.heap.size]? = some (.cells #[.int .i64 x2.c, .int .i64 x2.n, .int .i64 x2.d, .int .i64 x2.l, .int .i64 x2.a] 23 (0, 0)) := blk_below (blk_alloc K_p2.out _) hB4
  have kk_p3 : w4.heap[w3.heap.size]? = some (.cells #[.int .i64 x3.c, .int .i64 x3.n, .int .i64 x3.d, .int .i64 x3.l, .int .i64 x3.a] 23 (0, 0)) := blk_below kN_p3 hB4
  have HB4 : Hid (Below w.heap.size w w4) := below_then (HB3.out.alloc (by first | omega | (simp; done) | (simp; omega)) _) (by first | omega | (simp; done) | (simp; omega)) hB4
  have hL4 : w.heap.size ≤ w4.heap.size := HB4.out.size
  clear hB4 K_b hy_b hb_0 hb_1 hb_2 hb_3 hb_4 K_p1 hy_p1 hp1_0 hp1_1 hp1_2 hp1_3 hp1_4 K_p2 hy_p2 hp2_0 hp2_1 hp2_2 hp2_3 hp2_4 kN_p3 hL3
  have K_b : Hid (w4.heap[w.heap.size]? = some (.cells #[.int .i64 c, .int .i64 n, .int .i64 d, .int .i64 l, .int .i64 a] 23 (0, 0))) := kk_b
  have hy_b : w.heap.size < w4.heap.size := (Array.getElem?_eq_some_iff.1 kk_b).1
  have hb_0 : w4.cell? ⟨w.heap.size, 0, none⟩ = some (.int .i64 c) := (cell_of_row w4 (w.heap.size) 0 _ _ _ kk_b).trans rfl
  have hb_1 : w4.cell? ⟨w.heap.size, 1, none⟩ = some (.int .i64 n) := (cell_of_row w4 (w.heap.size) 1 _ _ _ kk_b).trans rfl
  have hb_2 : w4.cell? ⟨w.heap.size, 2, none⟩ = some (.int .i64 d) := (cell_of_row w4 (w.heap.size) 2 _ _ _ kk_b).trans rfl
  have hb_3 : w4.cell? ⟨w.heap.size, 3, none⟩ = some (.int .i64 l) := (cell_of_row w4 (w.heap.size) 3 _ _ _ kk_b).trans rfl
  have hb_4 : w4.cell? ⟨w.heap.size, 4, none⟩ = some (.int .i64 a) := (cell_of_row w4 (w.heap.size) 4 _ _ _ kk_b).trans rfl
  clear kk_b
  have K_p1 : Hid (w4.heap[w1.heap.size]? = some (.cells #[.int .i64 x1.c, .int .i64 x1.n, .int .i64 x1.d, .int .i64 x1.l, .int .i64 x1.a] 23 (0, 0))) := kk_p1
  have hy_p1 : w1.heap.size < w4.heap.size := (Array.getElem?_eq_some_iff.1 kk_p1).1
  have hp1_0 : w4.cell? ⟨w1.heap.size, 0, none⟩ = some (.int .i64 x1.c) := (cell_of_row w4 (w1.heap.size) 0 _ _ _ kk_p1).trans rfl
  have hp1_1 : w4.cell? ⟨w1.heap.size, 1, none⟩ = some (.int .i64 x1.n) := (cell_of_row w4 (w1.heap.size) 1 _ _ _ kk_p1).trans rfl
  have hp1_2 : w4.cell? ⟨w1.heap.size, 2, none⟩ = some (.int .i64 x1.d) := (cell_of_row w4 (w1.heap.size) 2 _ _ _ kk_p1).trans rfl
  have hp1_3 : w4.cell? ⟨w1.heap.size, 3, none⟩ = some (.int .i64 x1.l) := (cell_of_row w4 (w1.heap.size) 3 _ _ _ kk_p1).trans rfl
  have hp1_4 : w4.cell? ⟨w1.heap.size, 4, none⟩ = some (.int .i64 x1.a) := (cell_of_row w4 (w1.heap.size) 4 _ _ _ kk_p1).trans rfl
  clear kk_p1
  have K_p2 : Hid (w4.heap[w2.heap.size]? = some (.cells #[.int .i64 x2.c, .int .i64 x2.n, .int .i64 x2.d, .int .i64 x2.l, .int .i64 x2.a] 23 (0, 0))) := kk_p2
  have hy_p2 : w2.heap.size < w4.heap.size := (Array.getElem?_eq_some_iff.1 kk_p2).1
  have hp2_0 : w4.cell? ⟨w2.heap.size, 0, none⟩ = some (.int .i64 x2.c) := (cell_of_row w4 (w2.heap.size) 0 _ _ _ kk_p2).trans rfl
  have hp2_1 : w4.cell? ⟨w2.heap.size, 1, none⟩ = some (.int .i64 x2.n) := (cell_of_row w4 (w2.heap.size) 1 _ _ _ kk_p2).trans rfl
  have hp2_2 : w4.cell? ⟨w2.heap.size, 2, none⟩ = some (.int .i64 x2.d) := (cell_of_row w4 (w2.heap.size) 2 _ _ _ kk_p2).trans rfl
  have hp2_3 : w4.cell? ⟨w2.heap.size, 3, none⟩ = some (.int .i64 x2.l) := (cell_of_row w4 (w2.heap.size) 3 _ _ _ kk_p2).trans rfl
  have hp2_4 : w4.cell? ⟨w2.heap.size, 4, none⟩ = some (.int .i64 x2.a) := (cell_of_row w4 (w2.heap.size) 4 _ _ _ kk_p2).trans rfl
  clear kk_p2
  have K_p3 : Hid (w4.heap[w3.heap.size]? = some (.cells #[.int .i64 x3.c, .int .i64 x3.n, .int .i64 x3.d, .int .i64 x3.l, .int .i64 x3.a] 23 (0, 0))) := kk_p3
  have hy_p3 : w3.heap.size < w4.heap.size := (Array.getElem?_eq_some_iff.1 kk_p3).1
  have hp3_0 : w4.cell? ⟨w3.heap.size, 0, none⟩ = some (.int .i64 x3.c) := (cell_of_row w4 (w3.heap.size) 0 _ _ _ kk_p3).trans rfl
  have hp3_1 : w4.cell? ⟨w3.heap.size, 1, none⟩ = some (.int .i64 x3.n) := (cell_of_row w4 (w3.heap.size) 1 _ _ _ kk_p3).trans rfl
  have hp3_2 : w4.cell? ⟨w3.heap.size, 2, none⟩ = some (.int .i64 x3.d) := (cell_of_row w4 (w3.heap.size) 2 _ _ _ kk_p3).trans rfl
  have hp3_3 : w4.cell? ⟨w3.heap.size, 3, none⟩ = some (.int .i64 x3.l) := (cell_of_row w4 (w3.heap.size) 3 _ _ _ kk_p3).trans rfl
  have hp3_4 : w4.cell? ⟨w3.heap.size, 4, none⟩ = some (.int .i64 x3.a) := (cell_of_row w4 (w3.heap.size) 4 _ _ _ kk_p3).trans rfl
  clear kk_p3
  go_wp2_with fail
  go_at_call 13
  refine (HM1.out _).mono ?_
  rintro e w5 ⟨rfl, hB5⟩
  have kk_b : w5.heap[w.heap.size]? = some (.cells #[.int .i64 c, .int .i64 n, .int .i64 d, .int .i64 l, .int .i64 a] 23 (0, 0)) := blk_below K_b.out hB5
  have kk_p1 : w5.heap[w1.heap.size]? = some (.cells #[.int .i64 x1.c, .int .i64 x1.n, .int .i64 x1.d, .int .i64 x1.l, .int .i64 x1.a] 23 (0, 0)) := blk_below K_p1.out hB5
  have kk_p2 : w5.heap[w2.heap.size]? = some (.cells #[.int .i64 x2.c, .int .i64 x2.n, .int .i64 x2.d, .int .i64 x2.l, .int .i64 x2.a] 23 (0, 0)) := blk_below K_p2.out hB5
  have kk_p3 : w5.heap[w3.heap.size]? = some (.cells #[.int .i64 x3.c, .int .i64 x3.n, .int .i64 x3.d, .int .i64 x3.l, .int .i64 x3.a] 23 (0, 0)) := blk_below K_p3.out hB5
  have HB5 : Hid (Below w.heap.size w w5) := below_then HB4.out (by first | omega | (simp; done) | (simp; omega)) hB5
  have hL5 : w.heap.size ≤ w5.heap.size := HB5.out.size
  clear hB5 K_b hy_b hb_0 hb_1 hb_2 hb_3 hb_4 K_p1 hy_p1 hp1_0 hp1_1 hp1_2 hp1_3 hp1_4 K_p2 hy_p2 hp2_0 hp2_1 hp2_2 hp2_3 hp2_4 K_p3 hy_p3 hp3_0 hp3_1 hp3_2 hp3_3 hp3_4 hL4
  have K_b : Hid (w5.heap[w.heap.size]? = some (.cells #[.int .i64 c, .int .i64 n, .int .i64 d, .int .i64 l, .int .i64 a] 23 (0, 0))) := kk_b
  have hy_b : w.heap.size < w5.heap.size := (Array.getElem?_eq_some_iff.1 kk_b).1
  have hb_0 : w5.cell? ⟨w.heap.size, 0, none⟩ = some (.int .i64 c) := (cell_of_row w5 (w.heap.size) 0 _ _ _ kk_b).trans rfl
  have hb_1 : w5.cell? ⟨w.heap.size, 1, none⟩ = some (.int .i64 n) := (cell_of_row w5 (w.heap.size) 1 _ _ _ kk_b).trans rfl
  have hb_2 : w5.cell? ⟨w.heap.size, 2, none⟩ = some (.int .i64 d) := (cell_of_row w5 (w.heap.size) 2 _ _ _ kk_b).trans rfl
  have hb_3 : w5.cell? ⟨w.heap.size, 3, none⟩ = some (.int .i64 l) := (cell_of_row w5 (w.heap.size) 3 _ _ _ kk_b).trans rfl
  have hb_4 : w5.cell? ⟨w.heap.size, 4, none⟩ = some (.int .i64 a) := (cell_of_row w5 (w.heap.size) 4 _ _ _ kk_b).trans rfl
  clear kk_b
  have K_p1 : Hid (w5.heap[w1.heap.size]? = some (.cells #[.int .i64 x1.c, .int .i64 x1.n, .int .i64 x1.d, .int .i64 x1.l, .int .i64 x1.a] 23 (0, 0))) := kk_p1
  have hy_p1 : w1.heap.size < w5.heap.size := (Array.getElem?_eq_some_iff.1 kk_p1).1
  have hp1_0 : w5.cell? ⟨w1.heap.size, 0, none⟩ = some (.int .i64 x1.c) := (cell_of_row w5 (w1.heap.size) 0 _ _ _ kk_p1).trans rfl
  have hp1_1 : w5.cell? ⟨w1.heap.size, 1, none⟩ = some (.int .i64 x1.n) := (cell_of_row w5 (w1.heap.size) 1 _ _ _ kk_p1).trans rfl
  have hp1_2 : w5.cell? ⟨w1.heap.size, 2, none⟩ = some (.int .i64 x1.d) := (cell_of_row w5 (w1.heap.size) 2 _ _ _ kk_p1).trans rfl
  have hp1_3 : w5.cell? ⟨w1.heap.size, 3, none⟩ = some (.int .i64 x1.l) := (cell_of_row w5 (w1.heap.size) 3 _ _ _ kk_p1).trans rfl
  have hp1_4 : w5.cell? ⟨w1.heap.size, 4, none⟩ = some (.int .i64 x1.a) := (cell_of_row w5 (w1.heap.size) 4 _ _ _ kk_p1).trans rfl
  clear kk_p1
  have K_p2 : Hid (w5.heap[w2.heap.size]? = some (.cells #[.int .i64 x2.c, .int .i64 x2.n, .int .i64 x2.d, .int .i64 x2.l, .int .i64 x2.a] 23 (0, 0))) := kk_p2
  have hy_p2 : w2.heap.size < w5.heap.size := (Array.getElem?_eq_some_iff.1 kk_p2).1
  have hp2_0 : w5.cell? ⟨w2.heap.size, 0, none⟩ = some (.int .i64 x2.c) := (cell_of_row w5 (w2.heap.size) 0 _ _ _ kk_p2).trans rfl
  have hp2_1 : w5.cell? ⟨w2.heap.size, 1, none⟩ = some (.int .i64 x2.n) := (cell_of_row w5 (w2.heap.size) 1 _ _ _ kk_p2).trans rfl
  have hp2_2 : w5.cell? ⟨w2.heap.size, 2, none⟩ = some (.int .i64 x2.d) := (cell_of_row w5 (w2.heap.size) 2 _ _ _ kk_p2).trans rfl
  have hp2_3 : w5.cell? ⟨w2.heap.size, 3, none⟩ = some (.int .i64 x2.l) := (cell_of_row w5 (w2.heap.size) 3 _ _ _ kk_p2).trans rfl
  have hp2_4 : w5.cell? ⟨w2.heap.size, 4, none⟩ = some (.int .i64 x2.a) := (cell_of_row w5 (w2.heap.size) 4 _ _ _ kk_p2).trans rfl
  clear kk_p2
  have K_p3 : Hid (w5.heap[w3.heap.size]? = some (.cells #[.int .i64 x3.c, .int .i64 x3.n, .int .i64 x3.d, .int .i64 x3.l, .int .i64 x3.a] 23 (0, 0))) := kk_p3
  have hy_p3 : w3.heap.size < w5.heap.size := (Array.getElem?_eq_some_iff.1 kk_p3).1
  have hp3_0 : w5.cell? ⟨w3.heap.size, 0, none⟩ = some (.int .i64 x3.c) := (cell_of_row w5 (w3.heap.size) 0 _ _ _ kk_p3).trans rfl
  have hp3_1 : w5.cell? ⟨w3.heap.size, 1, none⟩ = some (.int .i64 x3.n) := (cell_of_row w5 (w3.heap.size) 1 _ _ _ kk_p3).trans rfl
  have hp3_2 : w5.cell? ⟨w3.heap.size, 2, none⟩ = some (.int .i64 x3.d) := (cell_of_row w5 (w3.heap.size) 2 _ _ _ kk_p3).trans rfl
  have hp3_3 : w5.cell? ⟨w3.heap.size, 3, none⟩ = some (.int .i64 x3.l) := (cell_of_row w5 (w3.heap.size) 3 _ _ _ kk_p3).trans rfl
  have hp3_4 : w5.cell? ⟨w3.heap.size, 4, none⟩ = some (.int .i64 x3.a) := (cell_of_row w5 (w3.heap.size) 4 _ _ _ kk_p3).trans rfl
  clear kk_p3
  go_wp2_with fail
  go_at_call 14
  refine (HN2.out _).mono ?_
  rintro e w6 ⟨rfl, hB6⟩
  have kk_b : w6.heap[w.heap.size]? = some (.cells #[.int .i64 c, .int .i64 n, .int .i64 d, .int .i64 l, .int .i64 a] 23 (0, 0)) := blk_below K_b.out hB6
  have kk_p1 : w6.heap[w1.heap.size]? = some (.cells #[.int .i64 x1.c, .int .i64 x1.n, .int .i64 x1.d, .int .i64 x1.l, .int .i64 x1.a] 23 (0, 0)) := blk_below K_p1.out hB6
  have kk_p2 : w6.heap[w2.heap.size]? = some (.cells #[.int .i64 x2.c, .int .i64 x2.n, .int .i64 x2.d, .int .i64 x2.l, .int .i64 x2.a] 23 (0, 0)) := blk_below K_p2.out hB6
  have kk_p3 : w6.heap[w3.heap.size]? = some (.cells #[.int .i64 x3.c, .int .i64 x3.n, .int .i64 x3.d, .int .i64 x3.l, .int .i64 x3.a] 23 (0, 0)) := blk_below K_p3.out hB6
  have HB6 : Hid (Below w.heap.size w w6) := below_then HB5.out (by first | omega | (simp; done) | (simp; omega)) hB6
  have hL6 : w.heap.size ≤ w6.heap.size := HB6.out.size
  clear hB6 K_b hy_b hb_0 hb_1 hb_2 hb_3 hb_4 K_p1 hy_p1 hp1_0 hp1_1 hp1_2 hp1_3 hp1_4 K_p2 hy_p2 hp2_0 hp2_1 hp2_2 hp2_3 hp2_4 K_p3 hy_p3 hp3_0 hp3_1 hp3_2 hp3_3 hp3_4 hL5
  have K_b : Hid (w6.heap[w.heap.size]? = some (.cells #[.int .i64 c, .int .i64 n, .int .i64 d, .int .i64 l, .int .i64 a] 23 (0, 0))) := kk_b
  have hy_b : w.heap.size < w6.heap.size := (Array.getElem?_eq_some_iff.1 kk_b).1
  have hb_0 : w6.cell? ⟨w.heap.size, 0, none⟩ = some (.int .i64 c) := (cell_of_row w6 (w.heap.size) 0 _ _ _ kk_b).trans rfl
  have hb_1 : w6.cell? ⟨w.heap.size, 1, none⟩ = some (.int .i64 n) := (cell_of_row w6 (w.heap.size) 1 _ _ _ kk_b).trans rfl
  have hb_2 : w6.cell? ⟨w.heap.size, 2, none⟩ = some (.int .i64 d) := (cell_of_row w6 (w.heap.size) 2 _ _ _ kk_b).trans rfl
  have hb_3 : w6.cell? ⟨w.heap.size, 3, none⟩ = some (.int .i64 l) := (cell_of_row w6 (w.heap.size) 3 _ _ _ kk_b).trans rfl
  have hb_4 : w6.cell? ⟨w.heap.size, 4, none⟩ = some (.int .i64 a) := (cell_of_row w6 (w.heap.size) 4 _ _ _ kk_b).trans rfl
  clear kk_b
  have K_p1 : Hid (w6.heap[w1.heap.size]? = some (.cells #[.int .i64 x1.c, .int .i64 x1.n, .int .i64 x1.d, .int .i64 x1.l, .int .i64 x1.a] 23 (0, 0))) := kk_p1
  have hy_p1 : w1.heap.size < w6.heap.size := (Array.getElem?_eq_some_iff.1 kk_p1).1
  have hp1_0 : w6.cell? ⟨w1.heap.size, 0, none⟩ = some (.int .i64 x1.c) := (cell_of_row w6 (w1.heap.size) 0 _ _ _ kk_p1).trans rfl
  have hp1_1 : w6.cell? ⟨w1.heap.size, 1, none⟩ = some (.int .i64 x1.n) := (cell_of_row w6 (w1.heap.size) 1 _ _ _ kk_p1).trans rfl
  have hp1_2 : w6.cell? ⟨w1.heap.size, 2, none⟩ = some (.int .i64 x1.d) := (cell_of_row w6 (w1.heap.size) 2 _ _ _ kk_p1).trans rfl
  have hp1_3 : w6.cell? ⟨w1.heap.size, 3, none⟩ = some (.int .i64 x1.l) := (cell_of_row w6 (w1.heap.size) 3 _ _ _ kk_p1).trans rfl
  have hp1_4 : w6.cell? ⟨w1.heap.size, 4, none⟩ = some (.int .i64 x1.a) := (cell_of_row w6 (w1.heap.size) 4 _ _ _ kk_p1).trans rfl
  clear kk_p1
  have K_p2 : Hid (w6.heap[w2.heap.size]? = some (.cells #[.int .i64 x2.c, .int .i64 x2.n, .int .i64 x2.d, .int .i64 x2.l, .int .i64 x2.a] 23 (0, 0))) := kk_p2
  have hy_p2 : w2.heap.size < w6.heap.size := (Array.getElem?_eq_some_iff.1 kk_p2).1
  have hp2_0 : w6.cell? ⟨w2.heap.size, 0, none⟩ = some (.int .i64 x2.c) := (cell_of_row w6 (w2.heap.size) 0 _ _ _ kk_p2).trans rfl
  have hp2_1 : w6.cell? ⟨w2.heap.size, 1, none⟩ = some (.int .i64 x2.n) := (cell_of_row w6 (w2.heap.size) 1 _ _ _ kk_p2).trans rfl
  have hp2_2 : w6.cell? ⟨w2.heap.size, 2, none⟩ = some (.int .i64 x2.d) := (cell_of_row w6 (w2.heap.size) 2 _ _ _ kk_p2).trans rfl
  have hp2_3 : w6.cell? ⟨w2.heap.size, 3, none⟩ = some (.int .i64 x2.l) := (cell_of_row w6 (w2.heap.size) 3 _ _ _ kk_p2).trans rfl
  have hp2_4 : w6.cell? ⟨w2.heap.size, 4, none⟩ = some (.int .i64 x2.a) := (cell_of_row w6 (w2.heap.size) 4 _ _ _ kk_p2).trans rfl
  clear kk_p2
  have K_p3 : Hid (w6.heap[w3.heap.size]? = some (.cells #[.int .i64 x3.c, .int .i64 x3.n, .int .i64 x3.d, .int .i64 x3.l, .int .i64 x3.a] 23 (0, 0))) := kk_p3
  have hy_p3 : w3.heap.size < w6.heap.size := (Array.getElem?_eq_some_iff.1 kk_p3).1
  have hp3_0 : w6.cell? ⟨w3.heap.size, 0, none⟩ = some (.int .i64 x3.c) := (cell_of_row w6 (w3.heap.size) 0 _ _ _ kk_p3).trans rfl
  have hp3_1 : w6.cell? ⟨w3.heap.size, 1, none⟩ = some (.int .i64 x3.n) := (cell_of_row w6 (w3.heap.size) 1 _ _ _ kk_p3).trans rfl
  have hp3_2 : w6.cell? ⟨w3.heap.size, 2, none⟩ = some (.int .i64 x3.d) := (cell_of_row w6 (w3.heap.size) 2 _ _ _ kk_p3).trans rfl
  have hp3_3 : w6.cell? ⟨w3.heap.size, 3, none⟩ = some (.int .i64 x3.l) := (cell_of_row w6 (w3.heap.size) 3 _ _ _ kk_p3).trans rfl
  have hp3_4 : w6.cell? ⟨w3.heap.size, 4, none⟩ = some (.int .i64 x3.a) := (cell_of_row w6 (w3.heap.size) 4 _ _ _ kk_p3).trans rfl
  clear kk_p3
  go_wp2_with fail
  go_at_call 15
  refine (HR2.out _).mono ?_
  rintro e w7 ⟨rfl, hB7⟩
  have kN_q1 := heap_alloc_new w6 (.cells #[.int .i64 x1.c, .int .i64 x1.n, .int .i64 x1.d, .int .i64 x1.l, .int .i64 x1.a, .int .i64 e1] 33)
  have kk_b : w7.heap[w.heap.size]? = some (.cells #[.int .i64 c, .int .i64 n, .int .i64 d, .int .i64 l, .int .i64 a] 23 (0, 0)) := blk_below (blk_alloc K_b.out _) hB7
  have kk_p1 : w7.heap[w1.heap.size]? = some (.cells #[.int .i64 x1.c, .int .i64 x1.n, .int .i64 x1.d, .int .i64 x1.l, .int .i64 x1.a] 23 (0, 0)) := blk_below (blk_alloc K_p1.out _) hB7
  have kk_p2 : w7.heap[w2.heap.size]? = some (.cells #[.int .i64 x2.c, .int .i64 x2.n, .int .i64 x2.d, .int .i64 x2.l, .int .i64 x2.a] 23 (0, 0)) := blk_below (blk_alloc K_p2.out _) hB7
  have kk_p3 : w7.heap[w3.heap.size]? = some (.cells #[.int .i64 x3.c, .int .i64 x3.n, .int .i64 x3.d, .int .i64 x3.l, .int .i64 x3.a] 23 (0, 0)) := blk_below (blk_alloc K_p3.out _) hB7
  have kk_q1 : w7.heap[w6.heap.size]? = some (.cells #[.int .i64 x1.c, .int .i64 x1.n, .int .i64 x1.d, .int .i64 x1.l, .int .i64 x1.a, .int .i64 e1] 33 (0, 0)) := blk_below kN_q1 hB7
  have HB7 : Hid (Below w.heap.size w w7) := below_then (HB6.out.alloc (by first | omega | (simp; done) | (simp; omega)) _) (by first | omega | (simp; done) | (simp; omega)) hB7
  have hL7 : w.heap.size ≤ w7.heap.size := HB7.out.size
  clear hB7 K_b hy_b hb_0 hb_1 hb_2 hb_3 hb_4 K_p1 hy_p1 hp1_0 hp1_1 hp1_2 hp1_3 hp1_4 K_p2 hy_p2 hp2_0 hp2_1 hp2_2 hp2_3 hp2_4 K_p3 hy_p3 hp3_0 hp3_1 hp3_2 hp3_3 hp3_4 kN_q1 hL6
  have K_b : Hid (w7.heap[w.heap.size]? = some (.cells #[.int .i64 c, .int .i64 n, .int .i64 d, .int .i64 l, .int .i64 a] 23 (0, 0))) := kk_b
  have hy_b : w.heap.size < w7.heap.size := (Array.getElem?_eq_some_iff.1 kk_b).1
  have hb_0 : w7.cell? ⟨w.heap.size, 0, none⟩ = some (.int .i64 c) := (cell_of_row w7 (w.heap.size) 0 _ _ _ kk_b).trans rfl
  have hb_1 : w7.cell? ⟨w.heap.size, 1, none⟩ = some (.int .i64 n) := (cell_of_row w7 (w.heap.size) 1 _ _ _ kk_b).trans rfl
  have hb_2 : w7.cell? ⟨w.heap.size, 2, none⟩ = some (.int .i64 d) := (cell_of_row w7 (w.heap.size) 2 _ _ _ kk_b).trans rfl
  have hb_3 : w7.cell? ⟨w.heap.size, 3, none⟩ = some (.int .i64 l) := (cell_of_row w7 (w.heap.size) 3 _ _ _ kk_b).trans rfl
  have hb_4 : w7.cell? ⟨w.heap.size, 4, none⟩ = some (.int .i64 a) := (cell_of_row w7 (w.heap.size) 4 _ _ _ kk_b).trans rfl
  clear kk_b
  have K_p1 : Hid (w7.heap[w1.heap.size]? = some (.cells #[.int .i64 x1.c, .int .i64 x1.n, .int .i64 x1.d, .int .i64 x1.l, .int .i64 x1.a] 23 (0, 0))) := kk_p1
  have hy_p1 : w1.heap.size < w7.heap.size := (Array.getElem?_eq_some_iff.1 kk_p1).1
  have hp1_0 : w7.cell? ⟨w1.heap.size, 0, none⟩ = some (.int .i64 x1.c) := (cell_of_row w7 (w1.heap.size) 0 _ _ _ kk_p1).trans rfl
  have hp1_1 : w7.cell? ⟨w1.heap.size, 1, none⟩ = some (.int .i64 x1.n) := (cell_of_row w7 (w1.heap.size) 1 _ _ _ kk_p1).trans rfl
  have hp1_2 : w7.cell? ⟨w1.heap.size, 2, none⟩ = some (.int .i64 x1.d) := (cell_of_row w7 (w1.heap.size) 2 _ _ _ kk_p1).trans rfl
  have hp1_3 : w7.cell? ⟨w1.heap.size, 3, none⟩ = some (.int .i64 x1.l) := (cell_of_row w7 (w1.heap.size) 3 _ _ _ kk_p1).trans rfl
  have hp1_4 : w7.cell? ⟨w1.heap.size, 4, none⟩ = some (.int .i64 x1.a) := (cell_of_row w7 (w1.heap.size) 4 _ _ _ kk_p1).trans rfl
  clear kk_p1
  have K_p2 : Hid (w7.heap[w2.heap.size]? = some (.cells #[.int .i64 x2.c, .int .i64 x2.n, .int .i64 x2.d, .int .i64 x2.l, .int .i64 x2.a] 23 (0, 0))) := kk_p2
  have hy_p2 : w2.heap.size < w7.heap.size := (Array.getElem?_eq_some_iff.1 kk_p2).1
  have hp2_0 : w7.cell? ⟨w2.heap.size, 0, none⟩ = some (.int .i64 x2.c) := (cell_of_row w7 (w2.heap.size) 0 _ _ _ kk_p2).trans rfl
  have hp2_1 : w7.cell? ⟨w2.heap.size, 1, none⟩ = some (.int .i64 x2.n) := (cell_of_row w7 (w2.heap.size) 1 _ _ _ kk_p2).trans rfl
  have hp2_2 : w7.cell? ⟨w2.heap.size, 2, none⟩ = some (.int .i64 x2.d) := (cell_of_row w7 (w2.heap.size) 2 _ _ _ kk_p2).trans rfl
  have hp2_3 : w7.cell? ⟨w2.heap.size, 3, none⟩ = some (.int .i64 x2.l) := (cell_of_row w7 (w2.heap.size) 3 _ _ _ kk_p2).trans rfl
  have hp2_4 : w7.cell? ⟨w2.heap.size, 4, none⟩ = some (.int .i64 x2.a) := (cell_of_row w7 (w2.heap.size) 4 _ _ _ kk_p2).trans rfl
  clear kk_p2
  have K_p3 : Hid (w7.heap[w3.heap.size]? = some (.cells #[.int .i64 x3.c, .int .i64 x3.n, .int .i64 x3.d, .int .i64 x3.l, .int .i64 x3.a] 23 (0, 0))) := kk_p3
  have hy_p3 : w3.heap.size < w7.heap.size := (Array.getElem?_eq_some_iff.1 kk_p3).1
  have hp3_0 : w7.cell? ⟨w3.heap.size, 0, none⟩ = some (.int .i64 x3.c) := (cell_of_row w7 (w3.heap.size) 0 _ _ _ kk_p3).trans rfl
  have hp3_1 : w7.cell? ⟨w3.heap.size, 1, none⟩ = some (.int .i64 x3.n) := (cell_of_row w7 (w3.heap.size) 1 _ _ _ kk_p3).trans rfl
  have hp3_2 : w7.cell? ⟨w3.heap.size, 2, none⟩ = some (.int .i64 x3.d) := (cell_of_row w7 (w3.heap.size) 2 _ _ _ kk_p3).trans rfl
  have hp3_3 : w7.cell? ⟨w3.heap.size, 3, none⟩ = some (.int .i64 x3.l) := (cell_of_row w7 (w3.heap.size) 3 _ _ _ kk_p3).trans rfl
  have hp3_4 : w7.cell? ⟨w3.heap.size, 4, none⟩ = some (.int .i64 x3.a) := (cell_of_row w7 (w3.heap.size) 4 _ _ _ kk_p3).trans rfl
  clear kk_p3
  have K_q1 : Hid (w7.heap[w6.heap.size]? = some (.cells #[.int .i64 x1.c, .int .i64 x1.n, .int .i64 x1.d, .int .i64 x1.l, .int .i64 x1.a, .int .i64 e1] 33 (0, 0))) := kk_q1
  have hy_q1 : w6.heap.size < w7.heap.size := (Array.getElem?_eq_some_iff.1 kk_q1).1
  have hq1_0 : w7.cell? ⟨w6.heap.size, 0, none⟩ = some (.int .i64 x1.c) := (cell_of_row w7 (w6.heap.size) 0 _ _ _ kk_q1).trans rfl
  have hq1_1 : w7.cell? ⟨w6.heap.size, 1, none⟩ = some (.int .i64 x1.n) := (cell_of_row w7 (w6.heap.size) 1 _ _ _ kk_q1).trans rfl
  have hq1_2 : w7.cell? ⟨w6.heap.size, 2, none⟩ = some (.int .i64 x1.d) := (cell_of_row w7 (w6.heap.size) 2 _ _ _ kk_q1).trans rfl
  have hq1_3 : w7.cell? ⟨w6.heap.size, 3, none⟩ = some (.int .i64 x1.l) := (cell_of_row w7 (w6.heap.size) 3 _ _ _ kk_q1).trans rfl
  have hq1_4 : w7.cell? ⟨w6.heap.size, 4, none⟩ = some (.int .i64 x1.a) := (cell_of_row w7 (w6.heap.size) 4 _ _ _ kk_q1).trans rfl
  have hq1_5 : w7.cell? ⟨w6.heap.size, 5, none⟩ = some (.int .i64 e1) := (cell_of_row w7 (w6.heap.size) 5 _ _ _ kk_q1).trans rfl
  clear kk_q1
  go_wp2_with fail
  go_at_call 16
  refine (HT2.out _).mono ?_
  rintro e w8 ⟨rfl, hB8⟩
  have kN_q2 := heap_alloc_new w7 (.cells #[.int .i64 x2.c, .int .i64 x2.n, .int .i64 x2.d, .int .i64 x2.l, .int .i64 x2.a, .int .i64 e2] 33)
  have kk_b : w8.heap[w.heap.size]? = some (.cells #[.int .i64 c, .int .i64 n, .int .i64 d, .int .i64 l, .int .i64 a] 23 (0, 0)) := blk_below (blk_alloc K_b.out _) hB8
  have kk_p1 : w8.heap[w1.heap.size]? = some (.cells #[.int .i64 x1.c, .int .i64 x1.n, .int .i64 x1.d, .int .i64 x1.l, .int .i64 x1.a] 23 (0, 0)) := blk_below (blk_alloc K_p1.out _) hB8
  have kk_p2 : w8.heap[w2.heap.size]? = some (.cells #[.int .i64 x2.c, .int .i64 x2.n, .int .i64 x2.d, .int .i64 x2.l, .int .i64 x2.a] 23 (0, 0)) := blk_below (blk_alloc K_p2.out _) hB8
  have kk_p3 : w8.heap[w3.heap.size]? = some (.cells #[.int .i64 x3.c, .int .i64 x3.n, .int .i64 x3.d, .int .i64 x3.l, .int .i64 x3.a] 23 (0, 0)) := blk_below (blk_alloc K_p3.out _) hB8
  have kk_q1 : w8.heap[w6.heap.size]? = some (.cells #[.int .i64 x1.c, .int .i64 x1.n, .int .i64 x1.d, .int .i64 x1.l, .int .i64 x1.a, .int .i64 e1] 33 (0, 0)) := blk_below (blk_alloc K_q1.out _) hB8
  have kk_q2 : w8.heap[w7.heap.size]? = some (.cells #[.int .i64 x2.c, .int .i64 x2.n, .int .i64 x2.d, .int .i64 x2.l, .int .i64 x2.a, .int .i64 e2] 33 (0, 0)) := blk_below kN_q2 hB8
  have HB8 : Hid (Below w.heap.size w w8) := below_then (HB7.out.alloc (by first | omega | (simp; done) | (simp; omega)) _) (by first | omega | (simp; done) | (simp; omega)) hB8
  have hL8 : w.heap.size ≤ w8.heap.size := HB8.out.size
  clear hB8 K_b hy_b hb_0 hb_1 hb_2 hb_3 hb_4 K_p1 hy_p1 hp1_0 hp1_1 hp1_2 hp1_3 hp1_4 K_p2 hy_p2 hp2_0 hp2_1 hp2_2 hp2_3 hp2_4 K_p3 hy_p3 hp3_0 hp3_1 hp3_2 hp3_3 hp3_4 K_q1 hy_q1 hq1_0 hq1_1 hq1_2 hq1_3 hq1_4 hq1_5 kN_q2 hL7
  have K_b : Hid (w8.heap[w.heap.size]? = some (.cells #[.int .i64 c, .int .i64 n, .int .i64 d, .int .i64 l, .int .i64 a] 23 (0, 0))) := kk_b
  have hy_b : w.heap.size < w8.heap.size := (Array.getElem?_eq_some_iff.1 kk_b).1
  have hb_0 : w8.cell? ⟨w.heap.size, 0, none⟩ = some (.int .i64 c) := (cell_of_row w8 (w.heap.size) 0 _ _ _ kk_b).trans rfl
  have hb_1 : w8.cell? ⟨w.heap.size, 1, none⟩ = some (.int .i64 n) := (cell_of_row w8 (w.heap.size) 1 _ _ _ kk_b).trans rfl
  have hb_2 : w8.cell? ⟨w.heap.size, 2, none⟩ = some (.int .i64 d) := (cell_of_row w8 (w.heap.size) 2 _ _ _ kk_b).trans rfl
  have hb_3 : w8.cell? ⟨w.heap.size, 3, none⟩ = some (.int .i64 l) := (cell_of_row w8 (w.heap.size) 3 _ _ _ kk_b).trans rfl
  have hb_4 : w8.cell? ⟨w.heap.size, 4, none⟩ = some (.int .i64 a) := (cell_of_row w8 (w.heap.size) 4 _ _ _ kk_b).trans rfl
  clear kk_b
  have K_p1 : Hid (w8.heap[w1.heap.size]? = some (.cells #[.int .i64 x1.c, .int .i64 x1.n, .int .i64 x1.d, .int .i64 x1.l, .int .i64 x1.a] 23 (0, 0))) := kk_p1
  have hy_p1 : w1.heap.size < w8.heap.size := (Array.getElem?_eq_some_iff.1 kk_p1).1
  have hp1_0 : w8.cell? ⟨w1.heap.size, 0, none⟩ = some (.int .i64 x1.c) := (cell_of_row w8 (w1.heap.size) 0 _ _ _ kk_p1).trans rfl
  have hp1_1 : w8.cell? ⟨w1.heap.size, 1, none⟩ = some (.int .i64 x1.n) := (cell_of_row w8 (w1.heap.size) 1 _ _ _ kk_p1).trans rfl
  have hp1_2 : w8.cell? ⟨w1.heap.size, 2, none⟩ = some (.int .i64 x1.d) := (cell_of_row w8 (w1.heap.size) 2 _ _ _ kk_p1).trans rfl
  have hp1_3 : w8.cell? ⟨w1.heap.size, 3, none⟩ = some (.int .i64 x1.l) := (cell_of_row w8 (w1.heap.size) 3 _ _ _ kk_p1).trans rfl
  have hp1_4 : w8.cell? ⟨w1.heap.size, 4, none⟩ = some (.int .i64 x1.a) := (cell_of_row w8 (w1.heap.size) 4 _ _ _ kk_p1).trans rfl
  clear kk_p1
  have K_p2 : Hid (w8.heap[w2.heap.size]? = some (.cells #[.int .i64 x2.c, .int .i64 x2.n, .int .i64 x2.d, .int .i64 x2.l, .int .i64 x2.a] 23 (0, 0))) := kk_p2
  have hy_p2 : w2.heap.size < w8.heap.size := (Array.getElem?_eq_some_iff.1 kk_p2).1
  have hp2_0 : w8.cell? ⟨w2.heap.size, 0, none⟩ = some (.int .i64 x2.c) := (cell_of_row w8 (w2.heap.size) 0 _ _ _ kk_p2).trans rfl
  have hp2_1 : w8.cell? ⟨w2.heap.size, 1, none⟩ = some (.int .i64 x2.n) := (cell_of_row w8 (w2.heap.size) 1 _ _ _ kk_p2).trans rfl
  have hp2_2 : w8.cell? ⟨w2.heap.size, 2, none⟩ = some (.int .i64 x2.d) := (cell_of_row w8 (w2.heap.size) 2 _ _ _ kk_p2).trans rfl
  have hp2_3 : w8.cell? ⟨w2.heap.size, 3, none⟩ = some (.int .i64 x2.l) := (cell_of_row w8 (w2.heap.size) 3 _ _ _ kk_p2).trans rfl
  have hp2_4 : w8.cell? ⟨w2.heap.size, 4, none⟩ = some (.int .i64 x2.a) := (cell_of_row w8 (w2.heap.size) 4 _ _ _ kk_p2).trans rfl
  clear kk_p2
  have K_p3 : Hid (w8.heap[w3.heap.size]? = some (.cells #[.int .i64 x3.c, .int .i64 x3.n, .int .i64 x3.d, .int .i64 x3.l, .int .i64 x3.a] 23 (0, 0))) := kk_p3
  have hy_p3 : w3.heap.size < w8.heap.size := (Array.getElem?_eq_some_iff.1 kk_p3).1
  have hp3_0 : w8.cell? ⟨w3.heap.size, 0, none⟩ = some (.int .i64 x3.c) := (cell_of_row w8 (w3.heap.size) 0 _ _ _ kk_p3).trans rfl
  have hp3_1 : w8.cell? ⟨w3.heap.size, 1, none⟩ = some (.int .i64 x3.n) := (cell_of_row w8 (w3.heap.size) 1 _ _ _ kk_p3).trans rfl
  have hp3_2 : w8.cell? ⟨w3.heap.size, 2, none⟩ = some (.int .i64 x3.d) := (cell_of_row w8 (w3.heap.size) 2 _ _ _ kk_p3).trans rfl
  have hp3_3 : w8.cell? ⟨w3.heap.size, 3, none⟩ = some (.int .i64 x3.l) := (cell_of_row w8 (w3.heap.size) 3 _ _ _ kk_p3).trans rfl
  have hp3_4 : w8.cell? ⟨w3.heap.size, 4, none⟩ = some (.int .i64 x3.a) := (cell_of_row w8 (w3.heap.size) 4 _ _ _ kk_p3).trans rfl
  clear kk_p3
  have K_q1 : Hid (w8.heap[w6.heap.size]? = some (.cells #[.int .i64 x1.c, .int .i64 x1.n, .int .i64 x1.d, .int .i64 x1.l, .int .i64 x1.a, .int .i64 e1] 33 (0, 0))) := kk_q1
  have hy_q1 : w6.heap.size < w8.heap.size := (Array.getElem?_eq_some_iff.1 kk_q1).1
  have hq1_0 : w8.cell? ⟨w6.heap.size, 0, none⟩ = some (.int .i64 x1.c) := (cell_of_row w8 (w6.heap.size) 0 _ _ _ kk_q1).trans rfl
  have hq1_1 : w8.cell? ⟨w6.heap.size, 1, none⟩ = some (.int .i64 x1.n) := (cell_of_row w8 (w6.heap.size) 1 _ _ _ kk_q1).trans rfl
  have hq1_2 : w8.cell? ⟨w6.heap.size, 2, none⟩ = some (.int .i64 x1.d) := (cell_of_row w8 (w6.heap.size) 2 _ _ _ kk_q1).trans rfl
  have hq1_3 : w8.cell? ⟨w6.heap.size, 3, none⟩ = some (.int .i64 x1.l) := (cell_of_row w8 (w6.heap.size) 3 _ _ _ kk_q1).trans rfl
  have hq1_4 : w8.cell? ⟨w6.heap.size, 4, none⟩ = some (.int .i64 x1.a) := (cell_of_row w8 (w6.heap.size) 4 _ _ _ kk_q1).trans rfl
  have hq1_5 : w8.cell? ⟨w6.heap.size, 5, none⟩ = some (.int .i64 e1) := (cell_of_row w8 (w6.heap.size) 5 _ _ _ kk_q1).trans rfl
  clear kk_q1
  have K_q2 : Hid (w8.heap[w7.heap.size]? = some (.cells #[.int .i64 x2.c, .int .i64 x2.n, .int .i64 x2.d, .int .i64 x2.l, .int .i64 x2.a, .int .i64 e2] 33 (0, 0))) := kk_q2
  have hy_q2 : w7.heap.size < w8.heap.size := (Array.getElem?_eq_some_iff.1 kk_q2).1
  have hq2_0 : w8.cell? ⟨w7.heap.size, 0, none⟩ = some (.int .i64 x2.c) := (cell_of_row w8 (w7.heap.size) 0 _ _ _ kk_q2).trans rfl
  have hq2_1 : w8.cell? ⟨w7.heap.size, 1, none⟩ = some (.int .i64 x2.n) := (cell_of_row w8 (w7.heap.size) 1 _ _ _ kk_q2).trans rfl
  have hq2_2 : w8.cell? ⟨w7.heap.size, 2, none⟩ = some (.int .i64 x2.d) := (cell_of_row w8 (w7.heap.size) 2 _ _ _ kk_q2).trans rfl
  have hq2_3 : w8.cell? ⟨w7.heap.size, 3, none⟩ = some (.int .i64 x2.l) := (cell_of_row w8 (w7.heap.size) 3 _ _ _ kk_q2).trans rfl
  have hq2_4 : w8.cell? ⟨w7.heap.size, 4, none⟩ = some (.int .i64 x2.a) := (cell_of_row w8 (w7.heap.size) 4 _ _ _ kk_q2).trans rfl
  have hq2_5 : w8.cell? ⟨w7.heap.size, 5, none⟩ = some (.int .i64 e2) := (cell_of_row w8 (w7.heap.size) 5 _ _ _ kk_q2).trans rfl
  clear kk_q2
  go_wp2_with fail
  go_at_call 17
  refine (HW2.out _).mono ?_
  rintro e w9 ⟨rfl, hB9⟩
  have kN_q3 := heap_alloc_new w8 (.cells #[.int .i64 x3.c, .int .i64 x3.n, .int .i64 x3.d, .int .i64 x3.l, .int .i64 x3.a, .int .i64 e3] 33)
  have kk_b : w9.heap[w.heap.size]? = some (.cells #[.int .i64 c, .int .i64 n, .int .i64 d, .int .i64 l, .int .i64 a] 23 (0, 0)) := blk_below (blk_alloc K_b.out _) hB9
  have kk_p1 : w9.heap[w1.heap.size]? = some (.cells #[.int .i64 x1.c, .int .i64 x1.n, .int .i64 x1.d, .int .i64 x1.l, .int .i64 x1.a] 23 (0, 0)) := blk_below (blk_alloc K_p1.out _) hB9
  have kk_p2 : w9.heap[w2.heap.size]? = some (.cells #[.int .i64 x2.c, .int .i64 x2.n, .int .i64 x2.d, .int .i64 x2.l, .int .i64 x2.a] 23 (0, 0)) := blk_below (blk_alloc K_p2.out _) hB9
  have kk_p3 : w9.heap[w3.heap.size]? = some (.cells #[.int .i64 x3.c, .int .i64 x3.n, .int .i64 x3.d, .int .i64 x3.l, .int .i64 x3.a] 23 (0, 0)) := blk_below (blk_alloc K_p3.out _) hB9
  have kk_q1 : w9.heap[w6.heap.size]? = some (.cells #[.int .i64 x1.c, .int .i64 x1.n, .int .i64 x1.d, .int .i64 x1.l, .int .i64 x1.a, .int .i64 e1] 33 (0, 0)) := blk_below (blk_alloc K_q1.out _) hB9
  have kk_q2 : w9.heap[w7.heap.size]? = some (.cells #[.int .i64 x2.c, .int .i64 x2.n, .int .i64 x2.d, .int .i64 x2.l, .int .i64 x2.a, .int .i64 e2] 33 (0, 0)) := blk_below (blk_alloc K_q2.out _) hB9
  have kk_q3 : w9.heap[w8.heap.size]? = some (.cells #[.int .i64 x3.c, .int .i64 x3.n, .int .i64 x3.d, .int .i64 x3.l, .int .i64 x3.a, .int .i64 e3] 33 (0, 0)) := blk_below kN_q3 hB9
  have HB9 : Hid (Below w.heap.size w w9) := below_then (HB8.out.alloc (by first | omega | (simp; done) | (simp; omega)) _) (by first | omega | (simp; done) | (simp; omega)) hB9
  have hL9 : w.heap.size ≤ w9.heap.size := HB9.out.size
  clear hB9 K_b hy_b hb_0 hb_1 hb_2 hb_3 hb_4 K_p1 hy_p1 hp1_0 hp1_1 hp1_2 hp1_3 hp1_4 K_p2 hy_p2 hp2_0 hp2_1 hp2_2 hp2_3 hp2_4 K_p3 hy_p3 hp3_0 hp3_1 hp3_2 hp3_3 hp3_4 K_q1 hy_q1 hq1_0 hq1_1 hq1_2 hq1_3 hq1_4 hq1_5 K_q2 hy_q2 hq2_0 hq2_1 hq2_2 hq2_3 hq2_4 hq2_5 kN_q3 hL8
  have K_b : Hid (w9.heap[w.heap.size]? = some (.cells #[.int .i64 c, .int .i64 n, .int .i64 d, .int .i64 l, .int .i64 a] 23 (0, 0))) := kk_b
  have hy_b : w.heap.size < w9.heap.size := (Array.getElem?_eq_some_iff.1 kk_b).1
  have hb_0 : w9.cell? ⟨w.heap.size, 0, none⟩ = some (.int .i64 c) := (cell_of_row w9 (w.heap.size) 0 _ _ _ kk_b).trans rfl
  have hb_1 : w9.cell? ⟨w.heap.size, 1, none⟩ = some (.int .i64 n) := (cell_of_row w9 (w.heap.size) 1 _ _ _ kk_b).trans rfl
  have hb_2 : w9.cell? ⟨w.heap.size, 2, none⟩ = some (.int .i64 d) := (cell_of_row w9 (w.heap.size) 2 _ _ _ kk_b).trans rfl
  have hb_3 : w9.cell? ⟨w.heap.size, 3, none⟩ = some (.int .i64 l) := (cell_of_row w9 (w.heap.size) 3 _ _ _ kk_b).trans rfl
  have hb_4 : w9.cell? ⟨w.heap.size, 4, none⟩ = some (.int .i64 a) := (cell_of_row w9 (w.heap.size) 4 _ _ _ kk_b).trans rfl
  clear kk_b
  have K_p1 : Hid (w9.heap[w1.heap.size]? = some (.cells #[.int .i64 x1.c, .int .i64 x1.n, .int .i64 x1.d, .int .i64 x1.l, .int .i64 x1.a] 23 (0, 0))) := kk_p1
  have hy_p1 : w1.heap.size < w9.heap.size := (Array.getElem?_eq_some_iff.1 kk_p1).1
  have hp1_0 : w9.cell? ⟨w1.heap.size, 0, none⟩ = some (.int .i64 x1.c) := (cell_of_row w9 (w1.heap.size) 0 _ _ _ kk_p1).trans rfl
  have hp1_1 : w9.cell? ⟨w1.heap.size, 1, none⟩ = some (.int .i64 x1.n) := (cell_of_row w9 (w1.heap.size) 1 _ _ _ kk_p1).trans rfl
  have hp1_2 : w9.cell? ⟨w1.heap.size, 2, none⟩ = some (.int .i64 x1.d) := (cell_of_row w9 (w1.heap.size) 2 _ _ _ kk_p1).trans rfl
  have hp1_3 : w9.cell? ⟨w1.heap.size, 3, none⟩ = some (.int .i64 x1.l) := (cell_of_row w9 (w1.heap.size) 3 _ _ _ kk_p1).trans rfl
  have hp1_4 : w9.cell? ⟨w1.heap.size, 4, none⟩ = some (.int .i64 x1.a) := (cell_of_row w9 (w1.heap.size) 4 _ _ _ kk_p1).trans rfl
  clear kk_p1
  have K_p2 : Hid (w9.heap[w2.heap.size]? = some (.cells #[.int .i64 x2.c, .int .i64 x2.n, .int .i64 x2.d, .int .i64 x2.l, .int .i64 x2.a] 23 (0, 0))) := kk_p2
  have hy_p2 : w2.heap.size < w9.heap.size := (Array.getElem?_eq_some_iff.1 kk_p2).1
  have hp2_0 : w9.cell? ⟨w2.heap.size, 0, none⟩ = some (.int .i64 x2.c) := (cell_of_row w9 (w2.heap.size) 0 _ _ _ kk_p2).trans rfl
  have hp2_1 : w9.cell? ⟨w2.heap.size, 1, none⟩ = some (.int .i64 x2.n) := (cell_of_row w9 (w2.heap.size) 1 _ _ _ kk_p2).trans rfl
  have hp2_2 : w9.cell? ⟨w2.heap.size, 2, none⟩ = some (.int .i64 x2.d) := (cell_of_row w9 (w2.heap.size) 2 _ _ _ kk_p2).trans rfl
  have hp2_3 : w9.cell? ⟨w2.heap.size, 3, none⟩ = some (.int .i64 x2.l) := (cell_of_row w9 (w2.heap.size) 3 _ _ _ kk_p2).trans rfl
  have hp2_4 : w9.cell? ⟨w2.heap.size, 4, none⟩ = some (.int .i64 x2.a) := (cell_of_row w9 (w2.heap.size) 4 _ _ _ kk_p2).trans rfl
  clear kk_p2
  have K_p3 : Hid (w9.heap[w3.heap.size]? = some (.cells #[.int .i64 x3.c, .int .i64 x3.n, .int .i64 x3.d, .int .i64 x3.l, .int .i64 x3.a] 23 (0, 0))) := kk_p3
  have hy_p3 : w3.heap.size < w9.heap.size := (Array.getElem?_eq_some_iff.1 kk_p3).1
  have hp3_0 : w9.cell? ⟨w3.heap.size, 0, none⟩ = some (.int .i64 x3.c) := (cell_of_row w9 (w3.heap.size) 0 _ _ _ kk_p3).trans rfl
  have hp3_1 : w9.cell? ⟨w3.heap.size, 1, none⟩ = some (.int .i64 x3.n) := (cell_of_row w9 (w3.heap.size) 1 _ _ _ kk_p3).trans rfl
  have hp3_2 : w9.cell? ⟨w3.heap.size, 2, none⟩ = some (.int .i64 x3.d) := (cell_of_row w9 (w3.heap.size) 2 _ _ _ kk_p3).trans rfl
  have hp3_3 : w9.cell? ⟨w3.heap.size, 3, none⟩ = some (.int .i64 x3.l) := (cell_of_row w9 (w3.heap.size) 3 _ _ _ kk_p3).trans rfl
  have hp3_4 : w9.cell? ⟨w3.heap.size, 4, none⟩ = some (.int .i64 x3.a) := (cell_of_row w9 (w3.heap.size) 4 _ _ _ kk_p3).trans rfl
  clear kk_p3
  have K_q1 : Hid (w9.heap[w6.heap.size]? = some (.cells #[.int .i64 x1.c, .int .i64 x1.n, .int .i64 x1.d, .int .i64 x1.l, .int .i64 x1.a, .int .i64 e1] 33 (0, 0))) := kk_q1
  have hy_q1 : w6.heap.size < w9.heap.size := (Array.getElem?_eq_some_iff.1 kk_q1).1
  have hq1_0 : w9.cell? ⟨w6.heap.size, 0, none⟩ = some (.int .i64 x1.c) := (cell_of_row w9 (w6.heap.size) 0 _ _ _ kk_q1).trans rfl
  have hq1_1 : w9.cell? ⟨w6.heap.size, 1, none⟩ = some (.int .i64 x1.n) := (cell_of_row w9 (w6.heap.size) 1 _ _ _ kk_q1).trans rfl
  have hq1_2 : w9.cell? ⟨w6.heap.size, 2, none⟩ = some (.int .i64 x1.d) := (cell_of_row w9 (w6.heap.size) 2 _ _ _ kk_q1).trans rfl
  have hq1_3 : w9.cell? ⟨w6.heap.size, 3, none⟩ = some (.int .i64 x1.l) := (cell_of_row w9 (w6.heap.size) 3 _ _ _ kk_q1).trans rfl
  have hq1_4 : w9.cell? ⟨w6.heap.size, 4, none⟩ = some (.int .i64 x1.a) := (cell_of_row w9 (w6.heap.size) 4 _ _ _ kk_q1).trans rfl
  have hq1_5 : w9.cell? ⟨w6.heap.size, 5, none⟩ = some (.int .i64 e1) := (cell_of_row w9 (w6.heap.size) 5 _ _ _ kk_q1).trans rfl
  clear kk_q1
  have K_q2 : Hid (w9.heap[w7.heap.size]? = some (.cells #[.int .i64 x2.c, .int .i64 x2.n, .int .i64 x2.d, .int .i64 x2.l, .int .i64 x2.a, .int .i64 e2] 33 (0, 0))) := kk_q2
  have hy_q2 : w7.heap.size < w9.heap.size := (Array.getElem?_eq_some_iff.1 kk_q2).1
  have hq2_0 : w9.cell? ⟨w7.heap.size, 0, none⟩ = some (.int .i64 x2.c) := (cell_of_row w9 (w7.heap.size) 0 _ _ _ kk_q2).trans rfl
  have hq2_1 : w9.cell? ⟨w7.heap.size, 1, none⟩ = some (.int .i64 x2.n) := (cell_of_row w9 (w7.heap.size) 1 _ _ _ kk_q2).trans rfl
  have hq2_2 : w9.cell? ⟨w7.heap.size, 2, none⟩ = some (.int .i64 x2.d) := (cell_of_row w9 (w7.heap.size) 2 _ _ _ kk_q2).trans rfl
  have hq2_3 : w9.cell? ⟨w7.heap.size, 3, none⟩ = some (.int .i64 x2.l) := (cell_of_row w9 (w7.heap.size) 3 _ _ _ kk_q2).trans rfl
  have hq2_4 : w9.cell? ⟨w7.heap.size, 4, none⟩ = some (.int .i64 x2.a) := (cell_of_row w9 (w7.heap.size) 4 _ _ _ kk_q2).trans rfl
  have hq2_5 : w9.cell? ⟨w7.heap.size, 5, none⟩ = some (.int .i64 e2) := (cell_of_row w9 (w7.heap.size) 5 _ _ _ kk_q2).trans rfl
  clear kk_q2
  have K_q3 : Hid (w9.heap[w8.heap.size]? = some (.cells #[.int .i64 x3.c, .int .i64 x3.n, .int .i64 x3.d, .int .i64 x3.l, .int .i64 x3.a, .int .i64 e3] 33 (0, 0))) := kk_q3
  have hy_q3 : w8.heap.size < w9.heap.size := (Array.getElem?_eq_some_iff.1 kk_q3).1
  have hq3_0 : w9.cell? ⟨w8.heap.size, 0, none⟩ = some (.int .i64 x3.c) := (cell_of_row w9 (w8.heap.size) 0 _ _ _ kk_q3).trans rfl
  have hq3_1 : w9.cell? ⟨w8.heap.size, 1, none⟩ = some (.int .i64 x3.n) := (cell_of_row w9 (w8.heap.size) 1 _ _ _ kk_q3).trans rfl
  have hq3_2 : w9.cell? ⟨w8.heap.size, 2, none⟩ = some (.int .i64 x3.d) := (cell_of_row w9 (w8.heap.size) 2 _ _ _ kk_q3).trans rfl
  have hq3_3 : w9.cell? ⟨w8.heap.size, 3, none⟩ = some (.int .i64 x3.l) := (cell_of_row w9 (w8.heap.size) 3 _ _ _ kk_q3).trans rfl
  have hq3_4 : w9.cell? ⟨w8.heap.size, 4, none⟩ = some (.int .i64 x3.a) := (cell_of_row w9 (w8.heap.size) 4 _ _ _ kk_q3).trans rfl
  have hq3_5 : w9.cell? ⟨w8.heap.size, 5, none⟩ = some (.int .i64 e3) := (cell_of_row w9 (w8.heap.size) 5 _ _ _ kk_q3).trans rfl
  clear kk_q3
  go_wp2_with fail
  go_at_call 18
  refine (HM2.out _).mono ?_
  rintro e w10 ⟨rfl, hB10⟩
  have kN_q4 := heap_alloc_new w9 (.cells #[.int .i64 r4, .int .i64 e4] 38)
  have kk_b : w10.heap[w.heap.size]? = some (.cells #[.int .i64 c, .int .i64 n, .int .i64 d, .int .i64 l, .int .i64 a] 23 (0, 0)) := blk_below (blk_alloc K_b.out _) hB10
  have kk_p1 : w10.heap[w1.heap.size]? = some (.cells #[.int .i64 x1.c, .int .i64 x1.n, .int .i64 x1.d, .int .i64 x1.l, .int .i64 x1.a] 23 (0, 0)) := blk_below (blk_alloc K_p1.out _) hB10
  have kk_p2 : w10.heap[w2.heap.size]? = some (.cells #[.int .i64 x2.c, .int .i64 x2.n, .int .i64 x2.d, .int .i64 x2.l, .int .i64 x2.a] 23 (0, 0)) := blk_below (blk_alloc K_p2.out _) hB10
  have kk_p3 : w10.heap[w3.heap.size]? = some (.cells #[.int .i64 x3.c, .int .i64 x3.n, .int .i64 x3.d, .int .i64 x3.l, .int .i64 x3.a] 23 (0, 0)) := blk_below (blk_alloc K_p3.out _) hB10
  have kk_q1 : w10.heap[w6.heap.size]? = some (.cells #[.int .i64 x1.c, .int .i64 x1.n, .int .i64 x1.d, .int .i64 x1.l, .int .i64 x1.a, .int .i64 e1] 33 (0, 0)) := blk_below (blk_alloc K_q1.out _) hB10
  have kk_q2 : w10.heap[w7.heap.size]? = some (.cells #[.int .i64 x2.c, .int .i64 x2.n, .int .i64 x2.d, .int .i64 x2.l, .int .i64 x2.a, .int .i64 e2] 33 (0, 0)) := blk_below (blk_alloc K_q2.out _) hB10
  have kk_q3 : w10.heap[w8.heap.size]? = some (.cells #[.int .i64 x3.c, .int .i64 x3.n, .int .i64 x3.d, .int .i64 x3.l, .int .i64 x3.a, .int .i64 e3] 33 (0, 0)) := blk_below (blk_alloc K_q3.out _) hB10
  have kk_q4 : w10.heap[w9.heap.size]? = some (.cells #[.int .i64 r4, .int .i64 e4] 38 (0, 0)) := blk_below kN_q4 hB10
  have HB10 : Hid (Below w.heap.size w w10) := below_then (HB9.out.alloc (by first | omega | (simp; done) | (simp; omega)) _) (by first | omega | (simp; done) | (simp; omega)) hB10
  have hL10 : w.heap.size ≤ w10.heap.size := HB10.out.size
  clear hB10 K_b hy_b hb_0 hb_1 hb_2 hb_3 hb_4 K_p1 hy_p1 hp1_0 hp1_1 hp1_2 hp1_3 hp1_4 K_p2 hy_p2 hp2_0 hp2_1 hp2_2 hp2_3 hp2_4 K_p3 hy_p3 hp3_0 hp3_1 hp3_2 hp3_3 hp3_4 K_q1 hy_q1 hq1_0 hq1_1 hq1_2 hq1_3 hq1_4 hq1_5 K_q2 hy_q2 hq2_0 hq2_1 hq2_2 hq2_3 hq2_4 hq2_5 K_q3 hy_q3 hq3_0 hq3_1 hq3_2 hq3_3 hq3_4 hq3_5 kN_q4 hL9
  have K_b : Hid (w10.heap[w.heap.size]? = some (.cells #[.int .i64 c, .int .i64 n, .int .i64 d, .int .i64 l, .int .i64 a] 23 (0, 0))) := kk_b
  have hy_b : w.heap.size < w10.heap.size := (Array.getElem?_eq_some_iff.1 kk_b).1
  have hb_0 : w10.cell? ⟨w.heap.size, 0, none⟩ = some (.int .i64 c) := (cell_of_row w10 (w.heap.size) 0 _ _ _ kk_b).trans rfl
  have hb_1 : w10.cell? ⟨w.heap.size, 1, none⟩ = some (.int .i64 n) := (cell_of_row w10 (w.heap.size) 1 _ _ _ kk_b).trans rfl
  have hb_2 : w10.cell? ⟨w.heap.size, 2, none⟩ = some (.int .i64 d) := (cell_of_row w10 (w.heap.size) 2 _ _ _ kk_b).trans rfl
  have hb_3 : w10.cell? ⟨w.heap.size, 3, none⟩ = some (.int .i64 l) := (cell_of_row w10 (w.heap.size) 3 _ _ _ kk_b).trans rfl
  have hb_4 : w10.cell? ⟨w.heap.size, 4, none⟩ = some (.int .i64 a) := (cell_of_row w10 (w.heap.size) 4 _ _ _ kk_b).trans rfl
  clear kk_b
  have K_p1 : Hid (w10.heap[w1.heap.size]? = some (.cells #[.int .i64 x1.c, .int .i64 x1.n, .int .i64 x1.d, .int .i64 x1.l, .int .i64 x1.a] 23 (0, 0))) := kk_p1
  have hy_p1 : w1.heap.size < w10.heap.size := (Array.getElem?_eq_some_iff.1 kk_p1).1
  have hp1_0 : w10.cell? ⟨w1.heap.size, 0, none⟩ = some (.int .i64 x1.c) := (cell_of_row w10 (w1.heap.size) 0 _ _ _ kk_p1).trans rfl
  have hp1_1 : w10.cell? ⟨w1.heap.size, 1, none⟩ = some (.int .i64 x1.n) := (cell_of_row w10 (w1.heap.size) 1 _ _ _ kk_p1).trans rfl
  have hp1_2 : w10.cell? ⟨w1.heap.size, 2, none⟩ = some (.int .i64 x1.d) := (cell_of_row w10 (w1.heap.size) 2 _ _ _ kk_p1).trans rfl
  have hp1_3 : w10.cell? ⟨w1.heap.size, 3, none⟩ = some (.int .i64 x1.l) := (cell_of_row w10 (w1.heap.size) 3 _ _ _ kk_p1).trans rfl
  have hp1_4 : w10.cell? ⟨w1.heap.size, 4, none⟩ = some (.int .i64 x1.a) := (cell_of_row w10 (w1.heap.size) 4 _ _ _ kk_p1).trans rfl
  clear kk_p1
  have K_p2 : Hid (w10.heap[w2.heap.size]? = some (.cells #[.int .i64 x2.c, .int .i64 x2.n, .int .i64 x2.d, .int .i64 x2.l, .int .i64 x2.a] 23 (0, 0))) := kk_p2
  have hy_p2 : w2.heap.size < w10.heap.size := (Array.getElem?_eq_some_iff.1 kk_p2).1
  have hp2_0 : w10.cell? ⟨w2.heap.size, 0, none⟩ = some (.int .i64 x2.c) := (cell_of_row w10 (w2.heap.size) 0 _ _ _ kk_p2).trans rfl
  have hp2_1 : w10.cell? ⟨w2.heap.size, 1, none⟩ = some (.int .i64 x2.n) := (cell_of_row w10 (w2.heap.size) 1 _ _ _ kk_p2).trans rfl
  have hp2_2 : w10.cell? ⟨w2.heap.size, 2, none⟩ = some (.int .i64 x2.d) := (cell_of_row w10 (w2.heap.size) 2 _ _ _ kk_p2).trans rfl
  have hp2_3 : w10.cell? ⟨w2.heap.size, 3, none⟩ = some (.int .i64 x2.l) := (cell_of_row w10 (w2.heap.size) 3 _ _ _ kk_p2).trans rfl
  have hp2_4 : w10.cell? ⟨w2.heap.size, 4, none⟩ = some (.int .i64 x2.a) := (cell_of_row w10 (w2.heap.size) 4 _ _ _ kk_p2).trans rfl
  clear kk_p2
  have K_p3 : Hid (w10.heap[w3.heap.size]? = some (.cells #[.int .i64 x3.c, .int .i64 x3.n, .int .i64 x3.d, .int .i64 x3.l, .int .i64 x3.a] 23 (0, 0))) := kk_p3
  have hy_p3 : w3.heap.size < w10.heap.size := (Array.getElem?_eq_some_iff.1 kk_p3).1
  have hp3_0 : w10.cell? ⟨w3.heap.size, 0, none⟩ = some (.int .i64 x3.c) := (cell_of_row w10 (w3.heap.size) 0 _ _ _ kk_p3).trans rfl
  have hp3_1 : w10.cell? ⟨w3.heap.size, 1, none⟩ = some (.int .i64 x3.n) := (cell_of_row w10 (w3.heap.size) 1 _ _ _ kk_p3).trans rfl
  have hp3_2 : w10.cell? ⟨w3.heap.size, 2, none⟩ = some (.int .i64 x3.d) := (cell_of_row w10 (w3.heap.size) 2 _ _ _ kk_p3).trans rfl
  have hp3_3 : w10.cell? ⟨w3.heap.size, 3, none⟩ = some (.int .i64 x3.l) := (cell_of_row w10 (w3.heap.size) 3 _ _ _ kk_p3).trans rfl
  have hp3_4 : w10.cell? ⟨w3.heap.size, 4, none⟩ = some (.int .i64 x3.a) := (cell_of_row w10 (w3.heap.size) 4 _ _ _ kk_p3).trans rfl
  clear kk_p3
  have K_q1 : Hid (w10.heap[w6.heap.size]? = some (.cells #[.int .i64 x1.c, .int .i64 x1.n, .int .i64 x1.d, .int .i64 x1.l, .int .i64 x1.a, .int .i64 e1] 33 (0, 0))) := kk_q1
  have hy_q1 : w6.heap.size < w10.heap.size := (Array.getElem?_eq_some_iff.1 kk_q1).1
  have hq1_0 : w10.cell? ⟨w6.heap.size, 0, none⟩ = some (.int .i64 x1.c) := (cell_of_row w10 (w6.heap.size) 0 _ _ _ kk_q1).trans rfl
  have hq1_1 : w10.cell? ⟨w6.heap.size, 1, none⟩ = some (.int .i64 x1.n) := (cell_of_row w10 (w6.heap.size) 1 _ _ _ kk_q1).trans rfl
  have hq1_2 : w10.cell? ⟨w6.heap.size, 2, none⟩ = some (.int .i64 x1.d) := (cell_of_row w10 (w6.heap.size) 2 _ _ _ kk_q1).trans rfl
  have hq1_3 : w10.cell? ⟨w6.heap.size, 3, none⟩ = some (.int .i64 x1.l) := (cell_of_row w10 (w6.heap.size) 3 _ _ _ kk_q1).trans rfl
  have hq1_4 : w10.cell? ⟨w6.heap.size, 4, none⟩ = some (.int .i64 x1.a) := (cell_of_row w10 (w6.heap.size) 4 _ _ _ kk_q1).trans rfl
  have hq1_5 : w10.cell? ⟨w6.heap.size, 5, none⟩ = some (.int .i64 e1) := (cell_of_row w10 (w6.heap.size) 5 _ _ _ kk_q1).trans rfl
  clear kk_q1
  have K_q2 : Hid (w10.heap[w7.heap.size]? = some (.cells #[.int .i64 x2.c, .int .i64 x2.n, .int .i64 x2.d, .int .i64 x2.l, .int .i64 x2.a, .int .i64 e2] 33 (0, 0))) := kk_q2
  have hy_q2 : w7.heap.size < w10.heap.size := (Array.getElem?_eq_some_iff.1 kk_q2).1
  have hq2_0 : w10.cell? ⟨w7.heap.size, 0, none⟩ = some (.int .i64 x2.c) := (cell_of_row w10 (w7.heap.size) 0 _ _ _ kk_q2).trans rfl
  have hq2_1 : w10.cell? ⟨w7.heap.size, 1, none⟩ = some (.int .i64 x2.n) := (cell_of_row w10 (w7.heap.size) 1 _ _ _ kk_q2).trans rfl
  have hq2_2 : w10.cell? ⟨w7.heap.size, 2, none⟩ = some (.int .i64 x2.d) := (cell_of_row w10 (w7.heap.size) 2 _ _ _ kk_q2).trans rfl
  have hq2_3 : w10.cell? ⟨w7.heap.size, 3, none⟩ = some (.int .i64 x2.l) := (cell_of_row w10 (w7.heap.size) 3 _ _ _ kk_q2).trans rfl
  have hq2_4 : w10.cell? ⟨w7.heap.size, 4, none⟩ = some (.int .i64 x2.a) := (cell_of_row w10 (w7.heap.size) 4 _ _ _ kk_q2).trans rfl
  have hq2_5 : w10.cell? ⟨w7.heap.size, 5, none⟩ = some (.int .i64 e2) := (cell_of_row w10 (w7.heap.size) 5 _ _ _ kk_q2).trans rfl
  clear kk_q2
  have K_q3 : Hid (w10.heap[w8.heap.size]? = some (.cells #[.int .i64 x3.c, .int .i64 x3.n, .int .i64 x3.d, .int .i64 x3.l, .int .i64 x3.a, .int .i64 e3] 33 (0, 0))) := kk_q3
  have hy_q3 : w8.heap.size < w10.heap.size := (Array.getElem?_eq_some_iff.1 kk_q3).1
  have hq3_0 : w10.cell? ⟨w8.heap.size, 0, none⟩ = some (.int .i64 x3.c) := (cell_of_row w10 (w8.heap.size) 0 _ _ _ kk_q3).trans rfl
  have hq3_1 : w10.cell? ⟨w8.heap.size, 1, none⟩ = some (.int .i64 x3.n) := (cell_of_row w10 (w8.heap.size) 1 _ _ _ kk_q3).trans rfl
  have hq3_2 : w10.cell? ⟨w8.heap.size, 2, none⟩ = some (.int .i64 x3.d) := (cell_of_row w10 (w8.heap.size) 2 _ _ _ kk_q3).trans rfl
  have hq3_3 : w10.cell? ⟨w8.heap.size, 3, none⟩ = some (.int .i64 x3.l) := (cell_of_row w10 (w8.heap.size) 3 _ _ _ kk_q3).trans rfl
  have hq3_4 : w10.cell? ⟨w8.heap.size, 4, none⟩ = some (.int .i64 x3.a) := (cell_of_row w10 (w8.heap.size) 4 _ _ _ kk_q3).trans rfl
  have hq3_5 : w10.cell? ⟨w8.heap.size, 5, none⟩ = some (.int .i64 e3) := (cell_of_row w10 (w8.heap.size) 5 _ _ _ kk_q3).trans rfl
  clear kk_q3
  have K_q4 : Hid (w10.heap[w9.heap.size]? = some (.cells #[.int .i64 r4, .int .i64 e4] 38 (0, 0))) := kk_q4
  have hy_q4 : w9.heap.size < w10.heap.size := (Array.getElem?_eq_some_iff.1 kk_q4).1
  have hq4_0 : w10.cell? ⟨w9.heap.size, 0, none⟩ = some (.int .i64 r4) := (cell_of_row w10 (w9.heap.size) 0 _ _ _ kk_q4).trans rfl
  have hq4_1 : w10.cell? ⟨w9.heap.size, 1, none⟩ = some (.int .i64 e4) := (cell_of_row w10 (w9.heap.size) 1 _ _ _ kk_q4).trans rfl
  clear kk_q4
  go_wp2_with fail
  obtain ⟨w11, hW_⟩ : ∃ W : World, (w10.alloc (.cells #[.int .i64 r5, .int .i64 e5] 38)) = W := ⟨_, rfl⟩
  rw [hW_]
  have kN_q5 := heap_alloc_new w10 (.cells #[.int .i64 r5, .int .i64 e5] 38)
  have kk_b : w11.heap[w.heap.size]? = some (.cells #[.int .i64 c, .int .i64 n, .int .i64 d, .int .i64 l, .int .i64 a] 23 (0, 0)) := by rw [← hW_]; exact (blk_alloc K_b.out _)
  have kk_q4 : w11.heap[w9.heap.size]? = some (.cells #[.int .i64 r4, .int .i64 e4] 38 (0, 0)) := by rw [← hW_]; exact (blk_alloc K_q4.out _)
  have kk_q5 : w11.heap[w10.heap.size]? = some (.cells #[.int .i64 r5, .int .i64 e5] 38 (0, 0)) := by rw [← hW_]; exact kN_q5
  have HB11 : Hid (Below w.heap.size w w11) := by rw [← hW_]; exact (HB10.out.alloc (by first | omega | (simp; done) | (simp; omega)) _)
  have hL11 : w.heap.size ≤ w11.heap.size := HB11.out.size
  clear hW_ K_b hy_b hb_0 hb_1 hb_2 hb_3 hb_4 K_p1 hy_p1 hp1_0 hp1_1 hp1_2 hp1_3 hp1_4 K_p2 hy_p2 hp2_0 hp2_1 hp2_2 hp2_3 hp2_4 K_p3 hy_p3 hp3_0 hp3_1 hp3_2 hp3_3 hp3_4 K_q1 hy_q1 hq1_0 hq1_1 hq1_2 hq1_3 hq1_4 hq1_5 K_q2 hy_q2 hq2_0 hq2_1 hq2_2 hq2_3 hq2_4 hq2_5 K_q3 hy_q3 hq3_0 hq3_1 hq3_2 hq3_3 hq3_4 hq3_5 K_q4 hy_q4 hq4_0 hq4_1 kN_q5 hL10
  have K_b : Hid (w11.heap[w.heap.size]? = some (.cells #[.int .i64 c, .int .i64 n, .int .i64 d, .int .i64 l, .int .i64 a] 23 (0, 0))) := kk_b
  have hy_b : w.heap.size < w11.heap.size := (Array.getElem?_eq_some_iff.1 kk_b).1
  have hb_0 : w11.cell? ⟨w.heap.size, 0, none⟩ = some (.int .i64 c) := (cell_of_row w11 (w.heap.size) 0 _ _ _ kk_b).trans rfl
  have hb_1 : w11.cell? ⟨w.heap.size, 1, none⟩ = some (.int .i64 n) := (cell_of_row w11 (w.heap.size) 1 _ _ _ kk_b).trans rfl
  have hb_2 : w11.cell? ⟨w.heap.size, 2, none⟩ = some (.int .i64 d) := (cell_of_row w11 (w.heap.size) 2 _ _ _ kk_b).trans rfl
  have hb_3 : w11.cell? ⟨w.heap.size, 3, none⟩ = some (.int .i64 l) := (cell_of_row w11 (w.heap.size) 3 _ _ _ kk_b).trans rfl
  have hb_4 : w11.cell? ⟨w.heap.size, 4, none⟩ = some (.int .i64 a) := (cell_of_row w11 (w.heap.size) 4 _ _ _ kk_b).trans rfl
  clear kk_b
  have K_q4 : Hid (w11.heap[w9.heap.size]? = some (.cells #[.int .i64 r4, .int .i64 e4] 38 (0, 0))) := kk_q4
  have hy_q4 : w9.heap.size < w11.heap.size := (Array.getElem?_eq_some_iff.1 kk_q4).1
  have hq4_0 : w11.cell? ⟨w9.heap.size, 0, none⟩ = some (.int .i64 r4) := (cell_of_row w11 (w9.heap.size) 0 _ _ _ kk_q4).trans rfl
  have hq4_1 : w11.cell? ⟨w9.heap.size, 1, none⟩ = some (.int .i64 e4) := (cell_of_row w11 (w9.heap.size) 1 _ _ _ kk_q4).trans rfl
  clear kk_q4
  have K_q5 : Hid (w11.heap[w10.heap.size]? = some (.cells #[.int .i64 r5, .int .i64 e5] 38 (0, 0))) := kk_q5
  have hy_q5 : w10.heap.size < w11.heap.size := (Array.getElem?_eq_some_iff.1 kk_q5).1
  have hq5_0 : w11.cell? ⟨w10.heap.size, 0, none⟩ = some (.int .i64 r5) := (cell_of_row w11 (w10.heap.size) 0 _ _ _ kk_q5).trans rfl
  have hq5_1 : w11.cell? ⟨w10.heap.size, 1, none⟩ = some (.int .i64 e5) := (cell_of_row w11 (w10.heap.size) 1 _ _ _ kk_q5).trans rfl
  clear kk_q5
  go_region_held3 (fun w' => w'.cell? ⟨w.heap.size, 0, none⟩ = some (.int .i64 c) ∧ w'.cell? ⟨w.heap.size, 1, none⟩ = some (.int .i64 n) ∧ w'.cell? ⟨w.heap.size, 2, none⟩ = some (.int .i64 d) ∧ w'.cell? ⟨w.heap.size, 3, none⟩ = some (.int .i64 l) ∧ w'.cell? ⟨w.heap.size, 4, none⟩ = some (.int .i64 a) ∧ w'.cell? ⟨w9.heap.size, 0, none⟩ = some (.int .i64 r4) ∧ w'.cell? ⟨w9.heap.size, 1, none⟩ = some (.int .i64 e4) ∧ w'.cell? ⟨w10.heap.size, 0, none⟩ = some (.int .i64 r5) ∧ w'.cell? ⟨w10.heap.size, 1, none⟩ = some (.int .i64 e5)) (go_keep) (first | ((go_at_call 19; (with_reducible refine (sanity_any _).mono ?_); rintro e w12 ⟨rfl, hB12⟩; have kr12_b : w12.heap[w.heap.size]? = some (.cells #[.int .i64 c, .int .i64 n, .int .i64 d, .int .i64 l, .int .i64 a] 23 (0, 0)) := (kb_ hB12 K_b.out); have K12_b := Hid.mk' kr12_b; have h12_b_0 : w12.cell? ⟨w.heap.size, 0, none⟩ = some (.int .i64 c) := ((cell_of_row w12 (w.heap.size) 0 _ _ _ kr12_b).trans rfl); have h12_b_1 : w12.cell? ⟨w.heap.size, 1, none⟩ = some (.int .i64 n) := ((cell_of_row w12 (w.heap.size) 1 _ _ _ kr12_b).trans rfl); have h12_b_2 : w12.cell? ⟨w.heap.size, 2, none⟩ = some (.int .i64 d) := ((cell_of_row w12 (w.heap.size) 2 _ _ _ kr12_b).trans rfl); have h12_b_3 : w12.cell? ⟨w.heap.size, 3, none⟩ = some (.int .i64 l) := ((cell_of_row w12 (w.heap.size) 3 _ _ _ kr12_b).trans rfl); have h12_b_4 : w12.cell? ⟨w.heap.size, 4, none⟩ = some (.int .i64 a) := ((cell_of_row w12 (w.heap.size) 4 _ _ _ kr12_b).trans rfl); have hy12_b : w.heap.size < w12.heap.size := ((Array.getElem?_eq_some_iff.1 kr12_b).1); clear kr12_b; have kr12_q4 : w12.heap[w9.heap.size]? = some (.cells #[.int .i64 r4, .int .i64 e4] 38 (0, 0)) := (kb_ hB12 K_q4.out); have K12_q4 := Hid.mk' kr12_q4; have h12_q4_0 : w12.cell? ⟨w9.heap.size, 0, none⟩ = some (.int .i64 r4) := ((cell_of_row w12 (w9.heap.size) 0 _ _ _ kr12_q4).trans rfl); have h12_q4_1 : w12.cell? ⟨w9.heap.size, 1, none⟩ = some (.int .i64 e4) := ((cell_of_row w12 (w9.heap.size) 1 _ _ _ kr12_q4).trans rfl); have hy12_q4 : w9.heap.size < w12.heap.size := ((Array.getElem?_eq_some_iff.1 kr12_q4).1); clear kr12_q4; have kr12_q5 : w12.heap[w10.heap.size]? = some (.cells #[.int .i64 r5, .int .i64 e5] 38 (0, 0)) := (kb_ hB12 K_q5.out); have K12_q5 := Hid.mk' kr12_q5; have h12_q5_0 : w12.cell? ⟨w10.heap.size, 0, none⟩ = some (.int .i64 r5) := ((cell_of_row w12 (w10.heap.size) 0 _ _ _ kr12_q5).trans rfl); have h12_q5_1 : w12.cell? ⟨w10.heap.size, 1, none⟩ = some (.int .i64 e5) := ((cell_of_row w12 (w10.heap.size) 1 _ _ _ kr12_q5).trans rfl); have hy12_q5 : w10.heap.size < w12.heap.size := ((Array.getElem?_eq_some_iff.1 kr12_q5).1); clear kr12_q5; have HB12 : Hid (Below w.heap.size w w12) := (by first | exact below_then HB11.out (by first | omega | (simp; omega)) hB12 | exact below_then (Below.drew HB11.out) (by first | omega | (simp; omega)) hB12); have hL12 : w.heap.size ≤ w12.heap.size := HB12.out.size)) | ((go_at_call 20; (with_reducible refine (HV1.out _).mono ?_); rintro e w13 ⟨rfl, hB13⟩; have kr13_b : w13.heap[w.heap.size]? = some (.cells #[.int .i64 c, .int .i64 n, .int .i64 d, .int .i64 l, .int .i64 a] 23 (0, 0)) := (kb_ hB13 K12_b.out); have K13_b := Hid.mk' kr13_b; have h13_b_0 : w13.cell? ⟨w.heap.size, 0, none⟩ = some (.int .i64 c) := ((cell_of_row w13 (w.heap.size) 0 _ _ _ kr13_b).trans rfl); have h13_b_1 : w13.cell? ⟨w.heap.size, 1, none⟩ = some (.int .i64 n) := ((cell_of_row w13 (w.heap.size) 1 _ _ _ kr13_b).trans rfl); have h13_b_2 : w13.cell? ⟨w.heap.size, 2, none⟩ = some (.int .i64 d) := ((cell_of_row w13 (w.heap.size) 2 _ _ _ kr13_b).trans rfl); have h13_b_3 : w13.cell? ⟨w.heap.size, 3, none⟩ = some (.int .i64 l) := ((cell_of_row w13 (w.heap.size) 3 _ _ _ kr13_b).trans rfl); have h13_b_4 : w13.cell? ⟨w.heap.size, 4, none⟩ = some (.int .i64 a) := ((cell_of_row w13 (w.heap.size) 4 _ _ _ kr13_b).trans rfl); have hy13_b : w.heap.size < w13.heap.size := ((Array.getElem?_eq_some_iff.1 kr13_b).1); clear kr13_b; have kr13_q4 : w13.heap[w9.heap.size]? = some (.cells #[.int .i64 r4, .int .i64 e4] 38 (0, 0)) := (kb_ hB13 K12_q4.out); have K13_q4 := Hid.mk' kr13_q4; have h13_q4_0 : w13.cell? ⟨w9.heap.size, 0, none⟩ = some (.int .i64 r4) := ((cell_of_row w13 (w9.heap.size) 0 _ _ _ kr13_q4).trans rfl); have h13_q4_1 : w13.cell? ⟨w9.heap.size, 1, none⟩ = some (.int .i64 e4) := ((cell_of_row w13 (w9.heap.size) 1 _ _ _ kr13_q4).trans rfl); have hy13_q4 : w9.heap.size < w13.heap.size := ((Array.getElem?_eq_some_iff.1 kr13_q4).1); clear kr13_q4; have kr13_q5 : w13.heap[w10.heap.size]? = some (.cells #[.int .i64 r5, .int .i64 e5] 38 (0, 0)) := (kb_ hB13 K12_q5.out); have K13_q5 := Hid.mk' kr13_q5; have h13_q5_0 : w13.cell? ⟨w10.heap.size, 0, none⟩ = some (.int .i64 r5) := ((cell_of_row w13 (w10.heap.size) 0 _ _ _ kr13_q5).trans rfl); have h13_q5_1 : w13.cell? ⟨w10.heap.size, 1, none⟩ = some (.int .i64 e5) := ((cell_of_row w13 (w10.heap.size) 1 _ _ _ kr13_q5).trans rfl); have hy13_q5 : w10.heap.size < w13.heap.size := ((Array.getElem?_eq_some_iff.1 kr13_q5).1); clear kr13_q5; have HB13 : Hid (Below w.heap.size w w13) := (by first | exact below_then HB12.out (by first | omega | (simp; omega)) hB13 | exact below_then (Below.drew HB12.out) (by first | omega | (simp; omega)) hB13); have hL13 : w.heap.size ≤ w13.heap.size := HB13.out.size)) | ((go_at_call 21; (with_reducible refine (HV2.out _).mono ?_); rintro e w14 ⟨rfl, hB14⟩; have kr14_b : w14.heap[w.heap.size]? = some (.cells #[.int .i64 c, .int .i64 n, .int .i64 d, .int .i64 l, .int .i64 a] 23 (0, 0)) := (kb_ hB14 K13_b.out); have K14_b := Hid.mk' kr14_b; have h14_b_0 : w14.cell? ⟨w.heap.size, 0, none⟩ = some (.int .i64 c) := ((cell_of_row w14 (w.heap.size) 0 _ _ _ kr14_b).trans rfl); have h14_b_1 : w14.cell? ⟨w.heap.size, 1, none⟩ = some (.int .i64 n) := ((cell_of_row w14 (w.heap.size) 1 _ _ _ kr14_b).trans rfl); have h14_b_2 : w14.cell? ⟨w.heap.size, 2, none⟩ = some (.int .i64 d) := ((cell_of_row w14 (w.heap.size) 2 _ _ _ kr14_b).trans rfl); have h14_b_3 : w14.cell? ⟨w.heap.size, 3, none⟩ = some (.int .i64 l) := ((cell_of_row w14 (w.heap.size) 3 _ _ _ kr14_b).trans rfl); have h14_b_4 : w14.cell? ⟨w.heap.size, 4, none⟩ = some (.int .i64 a) := ((cell_of_row w14 (w.heap.size) 4 _ _ _ kr14_b).trans rfl); have hy14_b : w.heap.size < w14.heap.size := ((Array.getElem?_eq_some_iff.1 kr14_b).1); clear kr14_b; have kr14_q4 : w14.heap[w9.heap.size]? = some (.cells #[.int .i64 r4, .int .i64 e4] 38 (0, 0)) := (kb_ hB14 K13_q4.out); have K14_q4 := Hid.mk' kr14_q4; have h14_q4_0 : w14.cell? ⟨w9.heap.size, 0, none⟩ = some (.int .i64 r4) := ((cell_of_row w14 (w9.heap.size) 0 _ _ _ kr14_q4).trans rfl); have h14_q4_1 : w14.cell? ⟨w9.heap.size, 1, none⟩ = some (.int .i64 e4) := ((cell_of_row w14 (w9.heap.size) 1 _ _ _ kr14_q4).trans rfl); have hy14_q4 : w9.heap.size < w14.heap.size := ((Array.getElem?_eq_some_iff.1 kr14_q4).1); clear kr14_q4; have kr14_q5 : w14.heap[w10.heap.size]? = some (.cells #[.int .i64 r5, .int .i64 e5] 38 (0, 0)) := (kb_ hB14 K13_q5.out); have K14_q5 := Hid.mk' kr14_q5; have h14_q5_0 : w14.cell? ⟨w10.heap.size, 0, none⟩ = some (.int .i64 r5) := ((cell_of_row w14 (w10.heap.size) 0 _ _ _ kr14_q5).trans rfl); have h14_q5_1 : w14.cell? ⟨w10.heap.size, 1, none⟩ = some (.int .i64 e5) := ((cell_of_row w14 (w10.heap.size) 1 _ _ _ kr14_q5).trans rfl); have hy14_q5 : w10.heap.size < w14.heap.size := ((Array.getElem?_eq_some_iff.1 kr14_q5).1); clear kr14_q5; have HB14 : Hid (Below w.heap.size w w14) := (by first | exact below_then HB13.out (by first | omega | (simp; omega)) hB14 | exact below_then (Below.drew HB13.out) (by first | omega | (simp; omega)) hB14); have hL14 : w.heap.size ≤ w14.heap.size := HB14.out.size)) | ((go_at_call 22; (with_reducible refine (HK1.out _).mono ?_); rintro e w15 ⟨rfl, hB15⟩; have kr15_b : w15.heap[w.heap.size]? = some (.cells #[.int .i64 c, .int .i64 n, .int .i64 d, .int .i64 l, .int .i64 a] 23 (0, 0)) := (kb_ hB15 K14_b.out); have K15_b := Hid.mk' kr15_b; have h15_b_0 : w15.cell? ⟨w.heap.size, 0, none⟩ = some (.int .i64 c) := ((cell_of_row w15 (w.heap.size) 0 _ _ _ kr15_b).trans rfl); have h15_b_1 : w15.cell? ⟨w.heap.size, 1, none⟩ = some (.int .i64 n) := ((cell_of_row w15 (w.heap.size) 1 _ _ _ kr15_b).trans rfl); have h15_b_2 : w15.cell? ⟨w.heap.size, 2, none⟩ = some (.int .i64 d) := ((cell_of_row w15 (w.heap.size) 2 _ _ _ kr15_b).trans rfl); have h15_b_3 : w15.cell? ⟨w.heap.size, 3, none⟩ = some (.int .i64 l) := ((cell_of_row w15 (w.heap.size) 3 _ _ _ kr15_b).trans rfl); have h15_b_4 : w15.cell? ⟨w.heap.size, 4, none⟩ = some (.int .i64 a) := ((cell_of_row w15 (w.heap.size) 4 _ _ _ kr15_b).trans rfl); have hy15_b : w.heap.size < w15.heap.size := ((Array.getElem?_eq_some_iff.1 kr15_b).1); clear kr15_b; have kr15_q4 : w15.heap[w9.heap.size]? = some (.cells #[.int .i64 r4, .int .i64 e4] 38 (0, 0)) := (kb_ hB15 K14_q4.out); have K15_q4 := Hid.mk' kr15_q4; have h15_q4_0 : w15.cell? ⟨w9.heap.size, 0, none⟩ = some (.int .i64 r4) := ((cell_of_row w15 (w9.heap.size) 0 _ _ _ kr15_q4).trans rfl); have h15_q4_1 : w15.cell? ⟨w9.heap.size, 1, none⟩ = some (.int .i64 e4) := ((cell_of_row w15 (w9.heap.size) 1 _ _ _ kr15_q4).trans rfl); have hy15_q4 : w9.heap.size < w15.heap.size := ((Array.getElem?_eq_some_iff.1 kr15_q4).1); clear kr15_q4; have kr15_q5 : w15.heap[w10.heap.size]? = some (.cells #[.int .i64 r5, .int .i64 e5] 38 (0, 0)) := (kb_ hB15 K14_q5.out); have K15_q5 := Hid.mk' kr15_q5; have h15_q5_0 : w15.cell? ⟨w10.heap.size, 0, none⟩ = some (.int .i64 r5) := ((cell_of_row w15 (w10.heap.size) 0 _ _ _ kr15_q5).trans rfl); have h15_q5_1 : w15.cell? ⟨w10.heap.size, 1, none⟩ = some (.int .i64 e5) := ((cell_of_row w15 (w10.heap.size) 1 _ _ _ kr15_q5).trans rfl); have hy15_q5 : w10.heap.size < w15.heap.size := ((Array.getElem?_eq_some_iff.1 kr15_q5).1); clear kr15_q5; have HB15 : Hid (Below w.heap.size w w15) := (by first | exact below_then HB14.out (by first | omega | (simp; omega)) hB15 | exact below_then (Below.drew HB14.out) (by first | omega | (simp; omega)) hB15); have hL15 : w.heap.size ≤ w15.heap.size := HB15.out.size)) | ((go_at_call 23; (with_reducible refine (HK2.out _).mono ?_); rintro e w16 ⟨rfl, hB16⟩; have kr16_b : w16.heap[w.heap.size]? = some (.cells #[.int .i64 c, .int .i64 n, .int .i64 d, .int .i64 l, .int .i64 a] 23 (0, 0)) := (kb_ hB16 K15_b.out); have K16_b := Hid.mk' kr16_b; have h16_b_0 : w16.cell? ⟨w.heap.size, 0, none⟩ = some (.int .i64 c) := ((cell_of_row w16 (w.heap.size) 0 _ _ _ kr16_b).trans rfl); have h16_b_1 : w16.cell? ⟨w.heap.size, 1, none⟩ = some (.int .i64 n) := ((cell_of_row w16 (w.heap.size) 1 _ _ _ kr16_b).trans rfl); have h16_b_2 : w16.cell? ⟨w.heap.size, 2, none⟩ = some (.int .i64 d) := ((cell_of_row w16 (w.heap.size) 2 _ _ _ kr16_b).trans rfl); have h16_b_3 : w16.cell? ⟨w.heap.size, 3, none⟩ = some (.int .i64 l) := ((cell_of_row w16 (w.heap.size) 3 _ _ _ kr16_b).trans rfl); have h16_b_4 : w16.cell? ⟨w.heap.size, 4, none⟩ = some (.int .i64 a) := ((cell_of_row w16 (w.heap.size) 4 _ _ _ kr16_b).trans rfl); have hy16_b : w.heap.size < w16.heap.size := ((Array.getElem?_eq_some_iff.1 kr16_b).1); clear kr16_b; have kr16_q4 : w16.heap[w9.heap.size]? = some (.cells #[.int .i64 r4, .int .i64 e4] 38 (0, 0)) := (kb_ hB16 K15_q4.out); have K16_q4 := Hid.mk' kr16_q4; have h16_q4_0 : w16.cell? ⟨w9.heap.size, 0, none⟩ = some (.int .i64 r4) := ((cell_of_row w16 (w9.heap.size) 0 _ _ _ kr16_q4).trans rfl); have h16_q4_1 : w16.cell? ⟨w9.heap.size, 1, none⟩ = some (.int .i64 e4) := ((cell_of_row w16 (w9.heap.size) 1 _ _ _ kr16_q4).trans rfl); have hy16_q4 : w9.heap.size < w16.heap.size := ((Array.getElem?_eq_some_iff.1 kr16_q4).1); clear kr16_q4; have kr16_q5 : w16.heap[w10.heap.size]? = some (.cells #[.int .i64 r5, .int .i64 e5] 38 (0, 0)) := (kb_ hB16 K15_q5.out); have K16_q5 := Hid.mk' kr16_q5; have h16_q5_0 : w16.cell? ⟨w10.heap.size, 0, none⟩ = some (.int .i64 r5) := ((cell_of_row w16 (w10.heap.size) 0 _ _ _ kr16_q5).trans rfl); have h16_q5_1 : w16.cell? ⟨w10.heap.size, 1, none⟩ = some (.int .i64 e5) := ((cell_of_row w16 (w10.heap.size) 1 _ _ _ kr16_q5).trans rfl); have hy16_q5 : w10.heap.size < w16.heap.size := ((Array.getElem?_eq_some_iff.1 kr16_q5).1); clear kr16_q5; have HB16 : Hid (Below w.heap.size w w16) := (by first | exact below_then HB15.out (by first | omega | (simp; omega)) hB16 | exact below_then (Below.drew HB15.out) (by first | omega | (simp; omega)) hB16); have hL16 : w.heap.size ≤ w16.heap.size := HB16.out.size)))
  have K_b := K16_b
  have K_q4 := K16_q4
  have K_q5 := K16_q5
  go_wp2_with fail
  go_ret
  exact ⟨by first | rfl | simp, HB16.out⟩
theorem law3 (c n d l a t m u : Int) (w : World) : Calls Try.prog 3 #[bk c n d l a, .int .i64 t, .int .i64 m, .int .i64 u] w fun e w' => e = .returned (.bool true) ∧ Below w.heap.size w w' := by
  obtain ⟨x1, e1, n1, n2⟩ := new_both c n d a
  obtain ⟨x2, e2, r1, r2⟩ := refill_both c n d l a t
  obtain ⟨x3, e3, t1, t2⟩ := take_both c n d l a t m
  obtain ⟨r4, e4, w1, w2⟩ := wait_both c n d l a m
  obtain ⟨r5, e5, m1, m2⟩ := most_both c n d l a t u
  obtain ⟨k, k1, k2⟩ := tokens_both c n d l a
  obtain ⟨b, v1, v2⟩ := valid_both c n d l a
  exact law3_walk c n d l a t m u e1 e2 e3 r4 e4 r5 e5 k b x1 x2 x3 w n1 n2 r1 r2 t1 t2 w1 w2 m1 m2 v1 v2 k1 k2

end Go.Proofs.Ytcikmloklbdddaa
