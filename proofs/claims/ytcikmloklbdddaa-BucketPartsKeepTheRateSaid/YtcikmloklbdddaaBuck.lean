/- The bucket's functions and those of its reference that have no loop: what each call returns, at every input. No condition. -/
import Derived.Test.YtcikmloklbdddaaProg
import Derived.WalkKit
import Derived.Below
import Derived.Deep.QuietTactic
import Derived.BigQuiet
import Derived.Deep.Draws
import Derived.Tactics
import Derived.ProofKit
import Derived.KernelRfl
import Derived.LoopTactic
import Derived.Deep.RegionHeld3
import Derived.Deep.AppendLies
import Derived.RowKit3
set_option linter.unusedVariables false
set_option linter.unusedSimpArgs false
namespace Go.Proofs.Ytcikmloklbdddaa
open Go.RowKit

def wi (x lo hi : Int) : Bool := decide (lo ≤ x ∧ x ≤ hi)
theorem wi_t {x lo hi : Int} (h : lo ≤ x) (k : x ≤ hi) : wi x lo hi = true := decide_eq_true ⟨h, k⟩
theorem within_any (x lo hi : Int) (w : World) : Calls Try.prog 29 #[.int .i64 x, .int .i64 lo, .int .i64 hi] w fun e w' => e = .returned (.bool (wi x lo hi)) ∧ w = w' := by
  by_cases h : lo ≤ x
  · have hb : decide (lo ≤ x) = true := decide_eq_true h
    have hw : wi x lo hi = decide (x ≤ hi) := by unfold wi; simp [h]
    rw [hw]; clear hw h
    go_enter Try.func29, Try.ntmps29
    go_wp2
    go_ret
    exact ⟨rfl, rfl⟩
  · have hb : decide (lo ≤ x) = false := decide_eq_false h
    have hw : wi x lo hi = false := by unfold wi; simp [h]
    rw [hw]; clear hw h
    go_enter Try.func29, Try.ntmps29
    go_wp2
    go_ret
    exact ⟨rfl, rfl⟩

theorem within_b (x lo hi : Int) (w : World) (b : Bool) (h : wi x lo hi = b) : Calls Try.prog 29 #[.int .i64 x, .int .i64 lo, .int .i64 hi] w fun e w' => e = .returned (.bool b) ∧ w = w' := by
  subst h; exact within_any x lo hi w
theorem ret_bool {x y : Bool} (h : x = y) : Ending.returned (.bool x) = Ending.returned (.bool y) := by rw [h]
theorem dec_congr {p q : Prop} [Decidable p] [Decidable q] (h : p ↔ q) : decide p = decide q := by
  by_cases hp : p
  · rw [decide_eq_true hp, decide_eq_true (h.1 hp)]
  · rw [decide_eq_false hp, decide_eq_false (fun x => hp (h.2 x))]
theorem w64 {x : Int} (h : -9223372036854775808 ≤ x) (k : x ≤ 9223372036854775807) : wrap64 x = x := by unfold wrap64; omega
theorem mul_bd {a b A B : Int} (ha : 0 ≤ a) (hA : a ≤ A) (hb : 0 ≤ b) (hB : b ≤ B) : 0 ≤ a * b ∧ a * b ≤ A * B :=
  ⟨Int.mul_nonneg ha hb, Int.mul_le_mul hA hB hb (by omega)⟩
def V (c n d l a : Int) : Prop := 0 ≤ c ∧ c ≤ 1073741824 ∧ 0 ≤ n ∧ n ≤ 1048576 ∧ 1 ≤ d ∧ d ≤ 1048576 ∧ 0 ≤ l ∧ l ≤ c * d ∧ 0 ≤ a ∧ a ≤ 1099511627776
instance (c n d l a : Int) : Decidable (V c n d l a) := by unfold V; infer_instance
theorem cd_bd {c d : Int} (h0 : 0 ≤ c) (h1 : c ≤ 1073741824) (h2 : 0 ≤ d) (h3 : d ≤ 1048576) : 0 ≤ c * d ∧ c * d ≤ 1125899906842624 := by
  have := mul_bd h0 h1 h2 h3; omega
theorem cd_w {c d : Int} (h0 : 0 ≤ c) (h1 : c ≤ 1073741824) (h2 : 0 ≤ d) (h3 : d ≤ 1048576) : wrap64 (c * d) = c * d := by
  have := cd_bd h0 h1 h2 h3; exact w64 (by omega) (by omega)
abbrev bk (c n d l a : Int) : Value := .agg #[.int .i64 c, .int .i64 n, .int .i64 d, .int .i64 l, .int .i64 a]
abbrev bo (c n d l a : Int) : Obj := .cells #[.int .i64 c, .int .i64 n, .int .i64 d, .int .i64 l, .int .i64 a] 23
set_option maxHeartbeats 400000 in
theorem valid20_any (c n d l a : Int) (w : World) (b : Bool) (hb : b = decide (V c n d l a)) : Calls Try.prog 20 #[bk c n d l a] w fun e w' => e = .returned (.bool b) ∧ w' = w.alloc (bo c n d l a) := by
  have HB : Hid (b = decide (V c n d l a)) := hb
  clear hb
  go_enter Try.func20, Try.ntmps20
  go_wp2
  all_goals
    go_ret
    refine ⟨ret_bool ?_, rfl⟩
    rw [HB.out]
    first
    | (rw [decide_eq_false]; unfold V; omega)
    | (have hw := cd_w (c := c) (d := d) (by omega) (by omega) (by omega) (by omega)
       have hz : l ≤ wrap64 (c * d) := by assumption
       rw [hw] at hz
       exact dec_congr (by unfold V; omega))
    | (have hw := cd_w (c := c) (d := d) (by omega) (by omega) (by omega) (by omega)
       have hz : wrap64 (c * d) < l := by assumption
       rw [hw] at hz
       rw [decide_eq_false]
       unfold V; omega)

def lev (c n d l a t : Int) : Int := if c * d < l + n * (t - a) then c * d else l + n * (t - a)
theorem lev_bd {c n d l a t : Int} (h : V c n d l a) (h1 : a ≤ t) (h2 : t ≤ 1099511627776) : 0 ≤ n * (t - a) ∧ n * (t - a) ≤ 1152921504606846976 ∧ 0 ≤ c * d ∧ c * d ≤ 1125899906842624 := by
  obtain ⟨a1, a2, a3, a4, a5, a6, a7, a8, a9, a10⟩ := h
  have x := mul_bd a3 a4 (by omega : 0 ≤ t - a) (by omega : t - a ≤ 1099511627776)
  have y := cd_bd a1 a2 (by omega : 0 ≤ d) a6
  omega
theorem lev_le {c n d l a t : Int} (h : V c n d l a) (h1 : a ≤ t) (h2 : t ≤ 1099511627776) : l ≤ lev c n d l a t ∧ lev c n d l a t ≤ c * d ∧ lev c n d l a t ≤ l + n * (t - a) ∧ 0 ≤ lev c n d l a t := by
  have hb := lev_bd h h1 h2
  obtain ⟨a1, a2, a3, a4, a5, a6, a7, a8, a9, a10⟩ := h
  unfold lev
  split <;> omega
theorem bcell {W w1 : World} (hb : Below W.heap.size W w1) : (∀ b o, b < W.heap.size → w1.cell? ⟨b, o, none⟩ = W.cell? ⟨b, o, none⟩) ∧ (∀ b o, b < W.heap.size → w1.frozen? ⟨b, o, none⟩ = W.frozen? ⟨b, o, none⟩) :=
  ⟨fun b o h => hb.cell (p := ⟨b, o, none⟩) h, fun b o h => hb.frozen (p := ⟨b, o, none⟩) h⟩
theorem below_then {B : Nat} {w w1 w2 : World} (h : Below B w w1) (hB : B ≤ w1.heap.size) (k : Below w1.heap.size w1 w2) : Below B w w2 :=
  h.trans ⟨k.os, k.tape, k.output, k.size, fun i hi => k.block i (Nat.lt_of_lt_of_le hi hB)⟩
theorem below_drewN {B : Nat} {a w : World} (h : Below B a w) (n : Nat) : Below B a (w.drewN n) := ⟨h.os, h.tape, h.output, h.size, h.block⟩

set_option maxHeartbeats 400000 in
theorem valid21_any (c n d l a : Int) (w : World) (b : Bool) (hb : b = decide (V c n d l a)) : Calls Try.prog 21 #[bk c n d l a] w fun e w' => e = .returned (.bool b) ∧ w' = w.alloc (bo c n d l a) := by
  have HB : Hid (b = decide (V c n d l a)) := hb
  clear hb
  go_enter Try.func21, Try.ntmps21
  go_wp2
  all_goals
    go_ret
    refine ⟨ret_bool ?_, rfl⟩
    rw [HB.out]
    first
    | (rw [decide_eq_false]; unfold V; omega)
    | (have hw := cd_w (c := c) (d := d) (by omega) (by omega) (by omega) (by omega)
       have hz : l ≤ wrap64 (c * d) := by assumption
       rw [hw] at hz
       exact dec_congr (by unfold V; omega))
    | (have hw := cd_w (c := c) (d := d) (by omega) (by omega) (by omega) (by omega)
       have hz : wrap64 (c * d) < l := by assumption
       rw [hw] at hz
       rw [decide_eq_false]
       unfold V; omega)

set_option maxHeartbeats 400000 in
theorem refill10_ok (c n d l a t L : Int) (w : World) (hv : V c n d l a) (h1 : a ≤ t) (h2 : t ≤ 1099511627776) (hL : L = lev c n d l a t) :
    Calls Try.prog 10 #[bk c n d l a, .int .i64 t] w fun e w' => e = .returned (.tuple #[bk c n d L t, .int .i64 0]) ∧ Below w.heap.size w w' := by
  have hb := lev_bd hv h1 h2
  have hl := lev_le hv h1 h2
  have hn : 0 ≤ n * (t - a) := hb.1
  have hn' : n * (t - a) ≤ 1152921504606846976 := hb.2.1
  have hc : 0 ≤ c * d := hb.2.2.1
  have hc' : c * d ≤ 1125899906842624 := hb.2.2.2
  have hl0 : 0 ≤ l := hv.2.2.2.2.2.2.1
  have hl1 : l ≤ c * d := hv.2.2.2.2.2.2.2.1
  have ha0 : 0 ≤ a := hv.2.2.2.2.2.2.2.2.1
  have HL : Hid (L = lev c n d l a t) := hL
  have HV : Hid (V c n d l a) := hv
  have HW : Hid (wi t a 1099511627776 = true) := wi_t h1 h2
  clear hL hb hl hv
  go_enter Try.func10, Try.ntmps10
  go_wp2_with (first | (go_at_call 20; refine (valid20_any _ _ _ _ _ _ true (decide_eq_true HV.out).symm).mono ?_; rintro e w' ⟨rfl, rfl⟩) | (go_at_call 29; refine (within_b _ _ _ _ true HW.out).mono ?_; rintro e w' ⟨rfl, rfl⟩))
  · have hlt : l + n * (t - a) < c * d := by assumption
    refine bodyPost_ret (v := .tuple #[bk c n d (l + n * (t - a)) t, .int .i64 0]) (by simp [results, Try.results10, go_sem]) rfl ?_
    exact ⟨by rw [HL.out]; unfold lev; rw [if_neg (by omega)], by repeat (first | (with_reducible exact Below.refl _ _) | (with_reducible refine Below.alloc ?_ ?hs _; (case hs => first | omega | (simp; done) | (simp; omega))) | (with_reducible refine Below.setCell ?_ ?hs _; (case hs => first | omega | (simp; done) | (simp; omega))) | (with_reducible refine below_drewN ?_ _) | (with_reducible refine Below.drew ?_) | (with_reducible refine below_then ?_ ?hs hb1; (case hs => first | omega | (simp; done) | (simp; omega))))⟩
  · have hlt : c * d ≤ l + n * (t - a) := by assumption
    refine bodyPost_ret (v := .tuple #[bk c n d (c * d) t, .int .i64 0]) (by simp [results, Try.results10, go_sem]) rfl ?_
    exact ⟨by rw [HL.out]; unfold lev; split <;> simp <;> omega, by repeat (first | (with_reducible exact Below.refl _ _) | (with_reducible refine Below.alloc ?_ ?hs _; (case hs => first | omega | (simp; done) | (simp; omega))) | (with_reducible refine Below.setCell ?_ ?hs _; (case hs => first | omega | (simp; done) | (simp; omega))) | (with_reducible refine below_drewN ?_ _) | (with_reducible refine Below.drew ?_) | (with_reducible refine below_then ?_ ?hs hb1; (case hs => first | omega | (simp; done) | (simp; omega))))⟩
set_option maxHeartbeats 400000 in
theorem refill10_time (c n d l a t : Int) (w : World) (hv : V c n d l a) (h : wi t a 1099511627776 = false) :
    Calls Try.prog 10 #[bk c n d l a, .int .i64 t] w fun e w' => e = .returned (.tuple #[bk 0 0 0 0 0, .int .i64 9]) ∧ Below w.heap.size w w' := by
  have HV : Hid (V c n d l a) := hv
  have HW : Hid (wi t a 1099511627776 = false) := h
  clear hv h
  go_enter Try.func10, Try.ntmps10
  go_wp2_with (first | (go_at_call 20; refine (valid20_any _ _ _ _ _ _ true (decide_eq_true HV.out).symm).mono ?_; rintro e w' ⟨rfl, rfl⟩) | (go_at_call 29; refine (within_b _ _ _ _ false HW.out).mono ?_; rintro e w' ⟨rfl, rfl⟩))
  refine bodyPost_ret (v := .tuple #[bk 0 0 0 0 0, .int .i64 9]) (by simp [results, Try.results10, go_sem]) rfl ?_
  exact ⟨rfl, by repeat (first | (with_reducible exact Below.refl _ _) | (with_reducible refine Below.alloc ?_ ?hs _; (case hs => first | omega | (simp; done) | (simp; omega))) | (with_reducible refine Below.setCell ?_ ?hs _; (case hs => first | omega | (simp; done) | (simp; omega))) | (with_reducible refine below_drewN ?_ _) | (with_reducible refine Below.drew ?_) | (with_reducible refine below_then ?_ ?hs hb1; (case hs => first | omega | (simp; done) | (simp; omega))))⟩
set_option maxHeartbeats 400000 in
theorem refill10_arg (c n d l a t : Int) (w : World) (hv : ¬ V c n d l a) :
    Calls Try.prog 10 #[bk c n d l a, .int .i64 t] w fun e w' => e = .returned (.tuple #[bk 0 0 0 0 0, .int .i64 1]) ∧ Below w.heap.size w w' := by
  have HV : Hid (¬ V c n d l a) := hv
  clear hv
  go_enter Try.func10, Try.ntmps10
  go_wp2_with (first | (go_at_call 20; refine (valid20_any _ _ _ _ _ _ false (decide_eq_false HV.out).symm).mono ?_; rintro e w' ⟨rfl, rfl⟩))
  refine bodyPost_ret (v := .tuple #[bk 0 0 0 0 0, .int .i64 1]) (by simp [results, Try.results10, go_sem]) rfl ?_
  exact ⟨rfl, by repeat (first | (with_reducible exact Below.refl _ _) | (with_reducible refine Below.alloc ?_ ?hs _; (case hs => first | omega | (simp; done) | (simp; omega))) | (with_reducible refine Below.setCell ?_ ?hs _; (case hs => first | omega | (simp; done) | (simp; omega))) | (with_reducible refine below_drewN ?_ _) | (with_reducible refine Below.drew ?_) | (with_reducible refine below_then ?_ ?hs hb1; (case hs => first | omega | (simp; done) | (simp; omega))))⟩
set_option maxHeartbeats 400000 in
theorem refill15_ok (c n d l a t L : Int) (w : World) (hv : V c n d l a) (h1 : a ≤ t) (h2 : t ≤ 1099511627776) (hL : L = lev c n d l a t) :
    Calls Try.prog 15 #[bk c n d l a, .int .i64 t] w fun e w' => e = .returned (.agg #[.int .i64 c, .int .i64 n, .int .i64 d, .int .i64 L, .int .i64 t, .int .i64 0]) ∧ Below w.heap.size w w' := by
  have hb := lev_bd hv h1 h2
  have hl := lev_le hv h1 h2
  have hn : 0 ≤ n * (t - a) := hb.1
  have hn' : n * (t - a) ≤ 1152921504606846976 := hb.2.1
  have hc : 0 ≤ c * d := hb.2.2.1
  have hc' : c * d ≤ 1125899906842624 := hb.2.2.2
  have hl0 : 0 ≤ l := hv.2.2.2.2.2.2.1
  have hl1 : l ≤ c * d := hv.2.2.2.2.2.2.2.1
  have ha0 : 0 ≤ a := hv.2.2.2.2.2.2.2.2.1
  have HL : Hid (L = lev c n d l a t) := hL
  have HV : Hid (V c n d l a) := hv
  have HW : Hid (wi t a 1099511627776 = true) := wi_t h1 h2
  clear hL hb hl hv
  go_enter Try.func15, Try.ntmps15
  go_wp2_with (first | (go_at_call 21; refine (valid21_any _ _ _ _ _ _ true (decide_eq_true HV.out).symm).mono ?_; rintro e w' ⟨rfl, rfl⟩) | (go_at_call 29; refine (within_b _ _ _ _ true HW.out).mono ?_; rintro e w' ⟨rfl, rfl⟩))
  · have hlt : l + n * (t - a) < c * d := by assumption
    refine bodyPost_ret (v := .agg #[.int .i64 c, .int .i64 n, .int .i64 d, .int .i64 (l + n * (t - a)), .int .i64 t, .int .i64 0]) (by simp [results, Try.results15, go_sem]) rfl ?_
    exact ⟨by rw [HL.out]; unfold lev; rw [if_neg (by omega)], by repeat (first | (with_reducible exact Below.refl _ _) | (with_reducible refine Below.alloc ?_ ?hs _; (case hs => first | omega | (simp; done) | (simp; omega))) | (with_reducible refine Below.setCell ?_ ?hs _; (case hs => first | omega | (simp; done) | (simp; omega))) | (with_reducible refine below_drewN ?_ _) | (with_reducible refine Below.drew ?_) | (with_reducible refine below_then ?_ ?hs hb1; (case hs => first | omega | (simp; done) | (simp; omega))))⟩
  · have hlt : c * d ≤ l + n * (t - a) := by assumption
    refine bodyPost_ret (v := .agg #[.int .i64 c, .int .i64 n, .int .i64 d, .int .i64 (c * d), .int .i64 t, .int .i64 0]) (by simp [results, Try.results15, go_sem]) rfl ?_
    exact ⟨by rw [HL.out]; unfold lev; split <;> simp <;> omega, by repeat (first | (with_reducible exact Below.refl _ _) | (with_reducible refine Below.alloc ?_ ?hs _; (case hs => first | omega | (simp; done) | (simp; omega))) | (with_reducible refine Below.setCell ?_ ?hs _; (case hs => first | omega | (simp; done) | (simp; omega))) | (with_reducible refine below_drewN ?_ _) | (with_reducible refine Below.drew ?_) | (with_reducible refine below_then ?_ ?hs hb1; (case hs => first | omega | (simp; done) | (simp; omega))))⟩
set_option maxHeartbeats 400000 in
theorem refill15_time (c n d l a t : Int) (w : World) (hv : V c n d l a) (h : wi t a 1099511627776 = false) :
    Calls Try.prog 15 #[bk c n d l a, .int .i64 t] w fun e w' => e = .returned (.agg #[.int .i64 0, .int .i64 0, .int .i64 0, .int .i64 0, .int .i64 0, .int .i64 9]) ∧ Below w.heap.size w w' := by
  have HV : Hid (V c n d l a) := hv
  have HW : Hid (wi t a 1099511627776 = false) := h
  have hq : t < a ∨ ¬ t < a ∧ 1099511627776 < t := by simp [wi] at h; omega
  clear hv h
  rcases hq with hq | ⟨hq, hq2⟩
  all_goals (try have hq3 : decide (t < a) = false := decide_eq_false hq)
  all_goals
    go_enter Try.func15, Try.ntmps15
    go_wp2_with (first | (go_at_call 21; refine (valid21_any _ _ _ _ _ _ true (decide_eq_true HV.out).symm).mono ?_; rintro e w' ⟨rfl, rfl⟩) | (go_at_call 29; refine (within_b _ _ _ _ false HW.out).mono ?_; rintro e w' ⟨rfl, rfl⟩))
    refine bodyPost_ret (v := .agg #[.int .i64 0, .int .i64 0, .int .i64 0, .int .i64 0, .int .i64 0, .int .i64 9]) (by simp [results, Try.results15, go_sem]) rfl ?_
    exact ⟨rfl, by repeat (first | (with_reducible exact Below.refl _ _) | (with_reducible refine Below.alloc ?_ ?hs _; (case hs => first | omega | (simp; done) | (simp; omega))) | (with_reducible refine Below.setCell ?_ ?hs _; (case hs => first | omega | (simp; done) | (simp; omega))) | (with_reducible refine below_drewN ?_ _) | (with_reducible refine Below.drew ?_) | (with_reducible refine below_then ?_ ?hs hb1; (case hs => first | omega | (simp; done) | (simp; omega))))⟩
set_option maxHeartbeats 400000 in
theorem refill15_arg (c n d l a t : Int) (w : World) (hv : ¬ V c n d l a) :
    Calls Try.prog 15 #[bk c n d l a, .int .i64 t] w fun e w' => e = .returned (.agg #[.int .i64 0, .int .i64 0, .int .i64 0, .int .i64 0, .int .i64 0, .int .i64 1]) ∧ Below w.heap.size w w' := by
  have HV : Hid (¬ V c n d l a) := hv
  clear hv
  go_enter Try.func15, Try.ntmps15
  go_wp2_with (first | (go_at_call 21; refine (valid21_any _ _ _ _ _ _ false (decide_eq_false HV.out).symm).mono ?_; rintro e w' ⟨rfl, rfl⟩))
  refine bodyPost_ret (v := .agg #[.int .i64 0, .int .i64 0, .int .i64 0, .int .i64 0, .int .i64 0, .int .i64 1]) (by simp [results, Try.results15, go_sem]) rfl ?_
  exact ⟨rfl, by repeat (first | (with_reducible exact Below.refl _ _) | (with_reducible refine Below.alloc ?_ ?hs _; (case hs => first | omega | (simp; done) | (simp; omega))) | (with_reducible refine Below.setCell ?_ ?hs _; (case hs => first | omega | (simp; done) | (simp; omega))) | (with_reducible refine below_drewN ?_ _) | (with_reducible refine Below.drew ?_) | (with_reducible refine below_then ?_ ?hs hb1; (case hs => first | omega | (simp; done) | (simp; omega))))⟩
theorem take_bd {c n d l a t m : Int} (hv : V c n d l a) (hm1 : 1 ≤ m) (hm2 : m ≤ 1073741824) (h1 : a ≤ t) (h2 : t ≤ 1099511627776) : 0 ≤ m * d ∧ m * d ≤ 1125899906842624 ∧ 0 ≤ lev c n d l a t ∧ lev c n d l a t ≤ 1125899906842624 := by
  have x := lev_le hv h1 h2
  have y := lev_bd hv h1 h2
  have z := cd_bd (by omega : 0 ≤ m) hm2 (by have := hv.2.2.2.2.1; omega : 0 ≤ d) hv.2.2.2.2.2.1
  omega

set_option maxHeartbeats 400000 in
theorem take11_arg1 (c n d l a t m : Int) (w : World) (hv : ¬ V c n d l a) :
    Calls Try.prog 11 #[bk c n d l a, .int .i64 t, .int .i64 m] w fun e w' => e = .returned (.tuple #[bk 0 0 0 0 0, .int .i64 1]) ∧ Below w.heap.size w w' := by
  have HV : Hid (¬ V c n d l a) := hv
  clear hv
  go_enter Try.func11, Try.ntmps11
  go_wp2_with (first | (go_at_call 20; refine (valid20_any _ _ _ _ _ _ false (decide_eq_false HV.out).symm).mono ?_; rintro e w' ⟨rfl, rfl⟩))
  refine bodyPost_ret (v := .tuple #[bk 0 0 0 0 0, .int .i64 1]) (by simp [results, Try.results11, go_sem]) rfl ?_
  exact ⟨rfl, by repeat (first | (with_reducible exact Below.refl _ _) | (with_reducible refine Below.alloc ?_ ?hs _; (case hs => first | omega | (simp; done) | (simp; omega))) | (with_reducible refine Below.setCell ?_ ?hs _; (case hs => first | omega | (simp; done) | (simp; omega))) | (with_reducible refine below_drewN ?_ _) | (with_reducible refine Below.drew ?_) | (with_reducible refine below_then ?_ ?hs hb1; (case hs => first | omega | (simp; done) | (simp; omega))))⟩
set_option maxHeartbeats 400000 in
theorem take11_arg2 (c n d l a t m : Int) (w : World) (hv : V c n d l a) (hm : wi m 1 1073741824 = false) :
    Calls Try.prog 11 #[bk c n d l a, .int .i64 t, .int .i64 m] w fun e w' => e = .returned (.tuple #[bk 0 0 0 0 0, .int .i64 1]) ∧ Below w.heap.size w w' := by
  have HV : Hid (V c n d l a) := hv
  have HM : Hid (wi m 1 1073741824 = false) := hm
  clear hv hm
  go_enter Try.func11, Try.ntmps11
  go_wp2_with (first | (go_at_call 20; refine (valid20_any _ _ _ _ _ _ true (decide_eq_true HV.out).symm).mono ?_; rintro e w' ⟨rfl, rfl⟩) | (go_at_call 29; refine (within_b _ _ _ _ false HM.out).mono ?_; rintro e w' ⟨rfl, rfl⟩))
  refine bodyPost_ret (v := .tuple #[bk 0 0 0 0 0, .int .i64 1]) (by simp [results, Try.results11, go_sem]) rfl ?_
  exact ⟨rfl, by repeat (first | (with_reducible exact Below.refl _ _) | (with_reducible refine Below.alloc ?_ ?hs _; (case hs => first | omega | (simp; done) | (simp; omega))) | (with_reducible refine Below.setCell ?_ ?hs _; (case hs => first | omega | (simp; done) | (simp; omega))) | (with_reducible refine below_drewN ?_ _) | (with_reducible refine Below.drew ?_) | (with_reducible refine below_then ?_ ?hs hb1; (case hs => first | omega | (simp; done) | (simp; omega))))⟩
set_option maxHeartbeats 400000 in
theorem take11_time (c n d l a t m : Int) (w : World) (hv : V c n d l a) (hm1 : 1 ≤ m) (hm2 : m ≤ 1073741824) (h : wi t a 1099511627776 = false) :
    Calls Try.prog 11 #[bk c n d l a, .int .i64 t, .int .i64 m] w fun e w' => e = .returned (.tuple #[bk 0 0 0 0 0, .int .i64 9]) ∧ Below w.heap.size w w' := by
  have HV : Hid (V c n d l a) := hv
  have HM : Hid (wi m 1 1073741824 = true) := wi_t hm1 hm2
  have HT : Hid (wi t a 1099511627776 = false) := h
  clear hv h
  go_enter Try.func11, Try.ntmps11
  go_wp2_with (first | (go_at_call 20; refine (valid20_any _ _ _ _ _ _ true (decide_eq_true HV.out).symm).mono ?_; rintro e w' ⟨rfl, rfl⟩) | (go_at_call 29; refine (within_b _ _ _ _ true HM.out).mono ?_; rintro e w' ⟨rfl, rfl⟩) | (go_at_call 10; refine (refill10_time _ _ _ _ _ _ _ HV.out HT.out).mono ?_; rintro e w' ⟨rfl, hb1⟩; obtain ⟨hc1, hf1⟩ := bcell hb1; have hz1 := hb1.size; simp at hz1; have hy0 : w.heap.size < w'.heap.size := (by omega); have hy1 : w.heap.size + 1 < w'.heap.size := (by omega)))
  refine bodyPost_ret (v := .tuple #[bk 0 0 0 0 0, .int .i64 9]) (by simp [results, Try.results11, go_sem, hc1, hz1, hy0, hy1]) rfl ?_
  exact ⟨rfl, by repeat (first | (with_reducible exact Below.refl _ _) | (with_reducible refine Below.alloc ?_ ?hs _; (case hs => first | omega | (simp; done) | (simp; omega))) | (with_reducible refine Below.setCell ?_ ?hs _; (case hs => first | omega | (simp; done) | (simp; omega))) | (with_reducible refine below_drewN ?_ _) | (with_reducible refine Below.drew ?_) | (with_reducible refine below_then ?_ ?hs hb1; (case hs => first | omega | (simp; done) | (simp; omega))))⟩
set_option maxHeartbeats 400000 in
theorem take11_short (c n d l a t m L : Int) (w : World) (hv : V c n d l a) (hm1 : 1 ≤ m) (hm2 : m ≤ 1073741824) (h1 : a ≤ t) (h2 : t ≤ 1099511627776) (hL : L = lev c n d l a t) (hx : L < m * d) :
    Calls Try.prog 11 #[bk c n d l a, .int .i64 t, .int .i64 m] w fun e w' => e = .returned (.tuple #[bk 0 0 0 0 0, .int .i64 4]) ∧ Below w.heap.size w w' := by
  have hb := take_bd hv hm1 hm2 h1 h2
  rw [← hL] at hb
  have hb1 := hb.1
  have hb2 := hb.2.1
  have hb3 := hb.2.2.1
  have hb4 := hb.2.2.2
  have HV : Hid (V c n d l a) := hv
  have HM : Hid (wi m 1 1073741824 = true) := wi_t hm1 hm2
  have HT1 : Hid (a ≤ t) := h1
  have HT2 : Hid (t ≤ 1099511627776) := h2
  have HL : Hid (L = lev c n d l a t) := hL
  clear hv h1 h2 hL hb
  go_enter Try.func11, Try.ntmps11
  go_wp2_with (first | (go_at_call 20; refine (valid20_any _ _ _ _ _ _ true (decide_eq_true HV.out).symm).mono ?_; rintro e w' ⟨rfl, rfl⟩) | (go_at_call 29; refine (within_b _ _ _ _ true HM.out).mono ?_; rintro e w' ⟨rfl, rfl⟩) | (go_at_call 10; refine (refill10_ok _ _ _ _ _ _ _ _ HV.out HT1.out HT2.out HL.out).mono ?_; rintro e w' ⟨rfl, hb1⟩; obtain ⟨hc1, hf1⟩ := bcell hb1; have hz1 := hb1.size; simp at hz1; have hy0 : w.heap.size < w'.heap.size := (by omega); have hy1 : w.heap.size + 1 < w'.heap.size := (by omega)))
  refine bodyPost_ret (v := .tuple #[bk 0 0 0 0 0, .int .i64 4]) (by simp [results, Try.results11, go_sem, hc1, hz1, hy0, hy1]) rfl ?_
  exact ⟨rfl, by repeat (first | (with_reducible exact Below.refl _ _) | (with_reducible refine Below.alloc ?_ ?hs _; (case hs => first | omega | (simp; done) | (simp; omega))) | (with_reducible refine Below.setCell ?_ ?hs _; (case hs => first | omega | (simp; done) | (simp; omega))) | (with_reducible refine below_drewN ?_ _) | (with_reducible refine Below.drew ?_) | (with_reducible refine below_then ?_ ?hs hb1; (case hs => first | omega | (simp; done) | (simp; omega))))⟩
set_option maxHeartbeats 400000 in
theorem take11_fine (c n d l a t m L : Int) (w : World) (hv : V c n d l a) (hm1 : 1 ≤ m) (hm2 : m ≤ 1073741824) (h1 : a ≤ t) (h2 : t ≤ 1099511627776) (hL : L = lev c n d l a t) (hx : m * d ≤ L) :
    Calls Try.prog 11 #[bk c n d l a, .int .i64 t, .int .i64 m] w fun e w' => e = .returned (.tuple #[bk c n d (L - m * d) t, .int .i64 0]) ∧ Below w.heap.size w w' := by
  have hb := take_bd hv hm1 hm2 h1 h2
  rw [← hL] at hb
  have hb1 := hb.1
  have hb2 := hb.2.1
  have hb3 := hb.2.2.1
  have hb4 := hb.2.2.2
  have HV : Hid (V c n d l a) := hv
  have HM : Hid (wi m 1 1073741824 = true) := wi_t hm1 hm2
  have HT1 : Hid (a ≤ t) := h1
  have HT2 : Hid (t ≤ 1099511627776) := h2
  have HL : Hid (L = lev c n d l a t) := hL
  clear hv h1 h2 hL hb
  go_enter Try.func11, Try.ntmps11
  go_wp2_with (first | (go_at_call 20; refine (valid20_any _ _ _ _ _ _ true (decide_eq_true HV.out).symm).mono ?_; rintro e w' ⟨rfl, rfl⟩) | (go_at_call 29; refine (within_b _ _ _ _ true HM.out).mono ?_; rintro e w' ⟨rfl, rfl⟩) | (go_at_call 10; refine (refill10_ok _ _ _ _ _ _ _ _ HV.out HT1.out HT2.out HL.out).mono ?_; rintro e w' ⟨rfl, hb1⟩; obtain ⟨hc1, hf1⟩ := bcell hb1; have hz1 := hb1.size; simp at hz1; have hy0 : w.heap.size < w'.heap.size := (by omega); have hy1 : w.heap.size + 1 < w'.heap.size := (by omega)))
  refine bodyPost_ret (v := .tuple #[bk c n d (L - m * d) t, .int .i64 0]) (by simp [results, Try.results11, go_sem, hc1, hz1, hy0, hy1]) rfl ?_
  exact ⟨rfl, by repeat (first | (with_reducible exact Below.refl _ _) | (with_reducible refine Below.alloc ?_ ?hs _; (case hs => first | omega | (simp; done) | (simp; omega))) | (with_reducible refine Below.setCell ?_ ?hs _; (case hs => first | omega | (simp; done) | (simp; omega))) | (with_reducible refine below_drewN ?_ _) | (with_reducible refine Below.drew ?_) | (with_reducible refine below_then ?_ ?hs hb1; (case hs => first | omega | (simp; done) | (simp; omega))))⟩
set_option maxHeartbeats 400000 in
theorem take16_arg1 (c n d l a t m : Int) (w : World) (hv : ¬ V c n d l a) :
    Calls Try.prog 16 #[bk c n d l a, .int .i64 t, .int .i64 m] w fun e w' => e = .returned (.agg #[.int .i64 0, .int .i64 0, .int .i64 0, .int .i64 0, .int .i64 0, .int .i64 1]) ∧ Below w.heap.size w w' := by
  have HV : Hid (¬ V c n d l a) := hv
  clear hv
  go_enter Try.func16, Try.ntmps16
  go_wp2_with (first | (go_at_call 21; refine (valid21_any _ _ _ _ _ _ false (decide_eq_false HV.out).symm).mono ?_; rintro e w' ⟨rfl, rfl⟩))
  refine bodyPost_ret (v := .agg #[.int .i64 0, .int .i64 0, .int .i64 0, .int .i64 0, .int .i64 0, .int .i64 1]) (by simp [results, Try.results16, go_sem]) rfl ?_
  exact ⟨rfl, by repeat (first | (with_reducible exact Below.refl _ _) | (with_reducible refine Below.alloc ?_ ?hs _; (case hs => first | omega | (simp; done) | (simp; omega))) | (with_reducible refine Below.setCell ?_ ?hs _; (case hs => first | omega | (simp; done) | (simp; omega))) | (with_reducible refine below_drewN ?_ _) | (with_reducible refine Below.drew ?_) | (with_reducible refine below_then ?_ ?hs hb1; (case hs => first | omega | (simp; done) | (simp; omega))))⟩
set_option maxHeartbeats 400000 in
theorem take16_arg3 (c n d l a t m : Int) (w : World) (hv : V c n d l a) (hm1 : decide (m < 1) = true) :
    Calls Try.prog 16 #[bk c n d l a, .int .i64 t, .int .i64 m] w fun e w' => e = .returned (.agg #[.int .i64 0, .int .i64 0, .int .i64 0, .int .i64 0, .int .i64 0, .int .i64 1]) ∧ Below w.heap.size w w' := by
  have HV : Hid (V c n d l a) := hv
  clear hv
  go_enter Try.func16, Try.ntmps16
  go_wp2_with (first | (go_at_call 21; refine (valid21_any _ _ _ _ _ _ true (decide_eq_true HV.out).symm).mono ?_; rintro e w' ⟨rfl, rfl⟩))
  refine bodyPost_ret (v := .agg #[.int .i64 0, .int .i64 0, .int .i64 0, .int .i64 0, .int .i64 0, .int .i64 1]) (by simp [results, Try.results16, go_sem]) rfl ?_
  exact ⟨rfl, by repeat (first | (with_reducible exact Below.refl _ _) | (with_reducible refine Below.alloc ?_ ?hs _; (case hs => first | omega | (simp; done) | (simp; omega))) | (with_reducible refine Below.setCell ?_ ?hs _; (case hs => first | omega | (simp; done) | (simp; omega))) | (with_reducible refine below_drewN ?_ _) | (with_reducible refine Below.drew ?_) | (with_reducible refine below_then ?_ ?hs hb1; (case hs => first | omega | (simp; done) | (simp; omega))))⟩
set_option maxHeartbeats 400000 in
theorem take16_arg4 (c n d l a t m : Int) (w : World) (hv : V c n d l a) (hm1 : decide (m < 1) = false) (hm2 : decide (1073741824 < m) = true) :
    Calls Try.prog 16 #[bk c n d l a, .int .i64 t, .int .i64 m] w fun e w' => e = .returned (.agg #[.int .i64 0, .int .i64 0, .int .i64 0, .int .i64 0, .int .i64 0, .int .i64 1]) ∧ Below w.heap.size w w' := by
  have HV : Hid (V c n d l a) := hv
  clear hv
  go_enter Try.func16, Try.ntmps16
  go_wp2_with (first | (go_at_call 21; refine (valid21_any _ _ _ _ _ _ true (decide_eq_true HV.out).symm).mono ?_; rintro e w' ⟨rfl, rfl⟩))
  refine bodyPost_ret (v := .agg #[.int .i64 0, .int .i64 0, .int .i64 0, .int .i64 0, .int .i64 0, .int .i64 1]) (by simp [results, Try.results16, go_sem]) rfl ?_
  exact ⟨rfl, by repeat (first | (with_reducible exact Below.refl _ _) | (with_reducible refine Below.alloc ?_ ?hs _; (case hs => first | omega | (simp; done) | (simp; omega))) | (with_reducible refine Below.setCell ?_ ?hs _; (case hs => first | omega | (simp; done) | (simp; omega))) | (with_reducible refine below_drewN ?_ _) | (with_reducible refine Below.drew ?_) | (with_reducible refine below_then ?_ ?hs hb1; (case hs => first | omega | (simp; done) | (simp; omega))))⟩
theorem take16_arg2 (c n d l a t m : Int) (w : World) (hv : V c n d l a) (hm : wi m 1 1073741824 = false) :
    Calls Try.prog 16 #[bk c n d l a, .int .i64 t, .int .i64 m] w fun e w' => e = .returned (.agg #[.int .i64 0, .int .i64 0, .int .i64 0, .int .i64 0, .int .i64 0, .int .i64 1]) ∧ Below w.heap.size w w' := by
  by_cases h : m < 1
  · exact take16_arg3 _ _ _ _ _ _ _ w hv (decide_eq_true h)
  · exact take16_arg4 _ _ _ _ _ _ _ w hv (decide_eq_false h) (decide_eq_true (by simp [wi] at hm; omega))

set_option maxHeartbeats 400000 in
theorem take16_time (c n d l a t m : Int) (w : World) (hv : V c n d l a) (hm1 : 1 ≤ m) (hm2 : m ≤ 1073741824) (h : wi t a 1099511627776 = false) :
    Calls Try.prog 16 #[bk c n d l a, .int .i64 t, .int .i64 m] w fun e w' => e = .returned (.agg #[.int .i64 0, .int .i64 0, .int .i64 0, .int .i64 0, .int .i64 0, .int .i64 9]) ∧ Below w.heap.size w w' := by
  have HV : Hid (V c n d l a) := hv
  have HT : Hid (wi t a 1099511627776 = false) := h
  clear hv h
  go_enter Try.func16, Try.ntmps16
  go_wp2_with (first | (go_at_call 21; refine (valid21_any _ _ _ _ _ _ true (decide_eq_true HV.out).symm).mono ?_; rintro e w' ⟨rfl, rfl⟩) | (go_at_call 15; refine (refill15_time _ _ _ _ _ _ _ HV.out HT.out).mono ?_; rintro e w' ⟨rfl, hb1⟩; obtain ⟨hc1, hf1⟩ := bcell hb1; have hz1 := hb1.size; simp at hz1; have hy0 : w.heap.size < w'.heap.size := (by omega); have hy1 : w.heap.size + 1 < w'.heap.size := (by omega)))
  refine bodyPost_ret (v := .agg #[.int .i64 0, .int .i64 0, .int .i64 0, .int .i64 0, .int .i64 0, .int .i64 9]) (by simp [results, Try.results16, go_sem, hc1, hz1, hy0, hy1]) rfl ?_
  exact ⟨rfl, by repeat (first | (with_reducible exact Below.refl _ _) | (with_reducible refine Below.alloc ?_ ?hs _; (case hs => first | omega | (simp; done) | (simp; omega))) | (with_reducible refine Below.setCell ?_ ?hs _; (case hs => first | omega | (simp; done) | (simp; omega))) | (with_reducible refine below_drewN ?_ _) | (with_reducible refine Below.drew ?_) | (with_reducible refine below_then ?_ ?hs hb1; (case hs => first | omega | (simp; done) | (simp; omega))))⟩
set_option maxHeartbeats 400000 in
theorem take16_short (c n d l a t m L : Int) (w : World) (hv : V c n d l a) (hm1 : 1 ≤ m) (hm2 : m ≤ 1073741824) (h1 : a ≤ t) (h2 : t ≤ 1099511627776) (hL : L = lev c n d l a t) (hx : L < m * d) :
    Calls Try.prog 16 #[bk c n d l a, .int .i64 t, .int .i64 m] w fun e w' => e = .returned (.agg #[.int .i64 0, .int .i64 0, .int .i64 0, .int .i64 0, .int .i64 0, .int .i64 4]) ∧ Below w.heap.size w w' := by
  have hb := take_bd hv hm1 hm2 h1 h2
  rw [← hL] at hb
  have hb1 := hb.1
  have hb2 := hb.2.1
  have hb3 := hb.2.2.1
  have hb4 := hb.2.2.2
  have HV : Hid (V c n d l a) := hv
  have HT1 : Hid (a ≤ t) := h1
  have HT2 : Hid (t ≤ 1099511627776) := h2
  have HL : Hid (L = lev c n d l a t) := hL
  clear hv h1 h2 hL hb
  go_enter Try.func16, Try.ntmps16
  go_wp2_with (first | (go_at_call 21; refine (valid21_any _ _ _ _ _ _ true (decide_eq_true HV.out).symm).mono ?_; rintro e w' ⟨rfl, rfl⟩) | (go_at_call 15; refine (refill15_ok _ _ _ _ _ _ _ _ HV.out HT1.out HT2.out HL.out).mono ?_; rintro e w' ⟨rfl, hb1⟩; obtain ⟨hc1, hf1⟩ := bcell hb1; have hz1 := hb1.size; simp at hz1; have hy0 : w.heap.size < w'.heap.size := (by omega); have hy1 : w.heap.size + 1 < w'.heap.size := (by omega)))
  refine bodyPost_ret (v := .agg #[.int .i64 0, .int .i64 0, .int .i64 0, .int .i64 0, .int .i64 0, .int .i64 4]) (by simp [results, Try.results16, go_sem, hc1, hz1, hy0, hy1]) rfl ?_
  exact ⟨rfl, by repeat (first | (with_reducible exact Below.refl _ _) | (with_reducible refine Below.alloc ?_ ?hs _; (case hs => first | omega | (simp; done) | (simp; omega))) | (with_reducible refine Below.setCell ?_ ?hs _; (case hs => first | omega | (simp; done) | (simp; omega))) | (with_reducible refine below_drewN ?_ _) | (with_reducible refine Below.drew ?_) | (with_reducible refine below_then ?_ ?hs hb1; (case hs => first | omega | (simp; done) | (simp; omega))))⟩
set_option maxHeartbeats 400000 in
theorem take16_fine (c n d l a t m L : Int) (w : World) (hv : V c n d l a) (hm1 : 1 ≤ m) (hm2 : m ≤ 1073741824) (h1 : a ≤ t) (h2 : t ≤ 1099511627776) (hL : L = lev c n d l a t) (hx : m * d ≤ L) :
    Calls Try.prog 16 #[bk c n d l a, .int .i64 t, .int .i64 m] w fun e w' => e = .returned (.agg #[.int .i64 c, .int .i64 n, .int .i64 d, .int .i64 (L - m * d), .int .i64 t, .int .i64 0]) ∧ Below w.heap.size w w' := by
  have hb := take_bd hv hm1 hm2 h1 h2
  rw [← hL] at hb
  have hb1 := hb.1
  have hb2 := hb.2.1
  have hb3 := hb.2.2.1
  have hb4 := hb.2.2.2
  have HV : Hid (V c n d l a) := hv
  have HT1 : Hid (a ≤ t) := h1
  have HT2 : Hid (t ≤ 1099511627776) := h2
  have HL : Hid (L = lev c n d l a t) := hL
  clear hv h1 h2 hL hb
  go_enter Try.func16, Try.ntmps16
  go_wp2_with (first | (go_at_call 21; refine (valid21_any _ _ _ _ _ _ true (decide_eq_true HV.out).symm).mono ?_; rintro e w' ⟨rfl, rfl⟩) | (go_at_call 15; refine (refill15_ok _ _ _ _ _ _ _ _ HV.out HT1.out HT2.out HL.out).mono ?_; rintro e w' ⟨rfl, hb1⟩; obtain ⟨hc1, hf1⟩ := bcell hb1; have hz1 := hb1.size; simp at hz1; have hy0 : w.heap.size < w'.heap.size := (by omega); have hy1 : w.heap.size + 1 < w'.heap.size := (by omega)))
  refine bodyPost_ret (v := .agg #[.int .i64 c, .int .i64 n, .int .i64 d, .int .i64 (L - m * d), .int .i64 t, .int .i64 0]) (by simp [results, Try.results16, go_sem, hc1, hz1, hy0, hy1]) rfl ?_
  exact ⟨rfl, by repeat (first | (with_reducible exact Below.refl _ _) | (with_reducible refine Below.alloc ?_ ?hs _; (case hs => first | omega | (simp; done) | (simp; omega))) | (with_reducible refine Below.setCell ?_ ?hs _; (case hs => first | omega | (simp; done) | (simp; omega))) | (with_reducible refine below_drewN ?_ _) | (with_reducible refine Below.drew ?_) | (with_reducible refine below_then ?_ ?hs hb1; (case hs => first | omega | (simp; done) | (simp; omega))))⟩
set_option maxHeartbeats 400000 in
theorem valid30_ok (c n d l a : Int) (w : World) (hv : V c n d l a) :
    Calls Try.prog 30 #[bk c n d l a] w fun e w' => e = .returned (.tuple #[bk c n d l a, .int .i64 0]) ∧ Below w.heap.size w w' := by
  have HV : Hid (V c n d l a) := hv
  clear hv
  go_enter Try.func30, Try.ntmps30
  go_wp2_with (first | (go_at_call 20; refine (valid20_any _ _ _ _ _ _ true (decide_eq_true HV.out).symm).mono ?_; rintro e w' ⟨rfl, rfl⟩))
  refine bodyPost_ret (v := .tuple #[bk c n d l a, .int .i64 0]) (by simp [results, Try.results30, go_sem]) rfl ?_
  exact ⟨rfl, by repeat (first | (with_reducible exact Below.refl _ _) | (with_reducible refine Below.alloc ?_ ?hs _; (case hs => first | omega | (simp; done) | (simp; omega))) | (with_reducible refine Below.setCell ?_ ?hs _; (case hs => first | omega | (simp; done) | (simp; omega))) | (with_reducible refine below_drewN ?_ _) | (with_reducible refine Below.drew ?_) | (with_reducible refine below_then ?_ ?hs hb1; (case hs => first | omega | (simp; done) | (simp; omega))))⟩
set_option maxHeartbeats 400000 in
theorem valid30_no (c n d l a : Int) (w : World) (hv : ¬ V c n d l a) :
    Calls Try.prog 30 #[bk c n d l a] w fun e w' => e = .returned (.tuple #[bk 0 0 0 0 0, .int .i64 1]) ∧ Below w.heap.size w w' := by
  have HV : Hid (¬ V c n d l a) := hv
  clear hv
  go_enter Try.func30, Try.ntmps30
  go_wp2_with (first | (go_at_call 20; refine (valid20_any _ _ _ _ _ _ false (decide_eq_false HV.out).symm).mono ?_; rintro e w' ⟨rfl, rfl⟩))
  refine bodyPost_ret (v := .tuple #[bk 0 0 0 0 0, .int .i64 1]) (by simp [results, Try.results30, go_sem]) rfl ?_
  exact ⟨rfl, by repeat (first | (with_reducible exact Below.refl _ _) | (with_reducible refine Below.alloc ?_ ?hs _; (case hs => first | omega | (simp; done) | (simp; omega))) | (with_reducible refine Below.setCell ?_ ?hs _; (case hs => first | omega | (simp; done) | (simp; omega))) | (with_reducible refine below_drewN ?_ _) | (with_reducible refine Below.drew ?_) | (with_reducible refine below_then ?_ ?hs hb1; (case hs => first | omega | (simp; done) | (simp; omega))))⟩
set_option maxHeartbeats 400000 in
theorem new9_ok (c n d a : Int) (w : World) (h1 : 0 ≤ c) (h2 : c ≤ 1073741824) (h3 : 1 ≤ d) (h4 : d ≤ 1048576) (hv : V c n d (c * d) a) :
    Calls Try.prog 9 #[.int .i64 c, .int .i64 n, .int .i64 d, .int .i64 a] w fun e w' => e = .returned (.tuple #[bk c n d (c * d) a, .int .i64 0]) ∧ Below w.heap.size w w' := by
  have H1 : Hid (wi c 0 1073741824 = true) := wi_t h1 h2
  have H2 : Hid (wi d 1 1048576 = true) := wi_t h3 h4
  have HV : Hid (V c n d (c * d) a) := hv
  have hcd := cd_bd h1 h2 (by omega : 0 ≤ d) h4
  have hcd1 := hcd.1
  have hcd2 := hcd.2
  clear hcd
  clear hv
  go_enter Try.func9, Try.ntmps9
  go_wp2_with (first | (go_at_call 29; (with_reducible refine (within_b c 0 1073741824 _ true H1.out).mono ?_); rintro e w' ⟨rfl, rfl⟩) | (go_at_call 29; (with_reducible refine (within_b d 1 1048576 _ true H2.out).mono ?_); rintro e w' ⟨rfl, rfl⟩) | (go_at_call 30; refine (valid30_ok _ _ _ _ _ _ HV.out).mono ?_; rintro e w' ⟨rfl, hb1⟩; obtain ⟨hc1, hf1⟩ := bcell hb1; have hz1 := hb1.size; simp at hz1; have hy0 : w.heap.size < w'.heap.size := (by omega)))
  refine bodyPost_ret (v := .tuple #[bk c n d (c * d) a, .int .i64 0]) (by simp [results, Try.results9, go_sem, hc1, hz1, hy0]) rfl ?_
  exact ⟨rfl, by repeat (first | (with_reducible exact Below.refl _ _) | (with_reducible refine Below.alloc ?_ ?hs _; (case hs => first | omega | (simp; done) | (simp; omega))) | (with_reducible refine Below.setCell ?_ ?hs _; (case hs => first | omega | (simp; done) | (simp; omega))) | (with_reducible refine below_drewN ?_ _) | (with_reducible refine Below.drew ?_) | (with_reducible refine below_then ?_ ?hs hb1; (case hs => first | omega | (simp; done) | (simp; omega))))⟩
set_option maxHeartbeats 400000 in
theorem new9_no (c n d a : Int) (w : World) (h1 : 0 ≤ c) (h2 : c ≤ 1073741824) (h3 : 1 ≤ d) (h4 : d ≤ 1048576) (hv : ¬ V c n d (c * d) a) :
    Calls Try.prog 9 #[.int .i64 c, .int .i64 n, .int .i64 d, .int .i64 a] w fun e w' => e = .returned (.tuple #[bk 0 0 0 0 0, .int .i64 1]) ∧ Below w.heap.size w w' := by
  have H1 : Hid (wi c 0 1073741824 = true) := wi_t h1 h2
  have H2 : Hid (wi d 1 1048576 = true) := wi_t h3 h4
  have HV : Hid (¬ V c n d (c * d) a) := hv
  have hcd := cd_bd h1 h2 (by omega : 0 ≤ d) h4
  have hcd1 := hcd.1
  have hcd2 := hcd.2
  clear hcd
  clear hv
  go_enter Try.func9, Try.ntmps9
  go_wp2_with (first | (go_at_call 29; (with_reducible refine (within_b c 0 1073741824 _ true H1.out).mono ?_); rintro e w' ⟨rfl, rfl⟩) | (go_at_call 29; (with_reducible refine (within_b d 1 1048576 _ true H2.out).mono ?_); rintro e w' ⟨rfl, rfl⟩) | (go_at_call 30; refine (valid30_no _ _ _ _ _ _ HV.out).mono ?_; rintro e w' ⟨rfl, hb1⟩; obtain ⟨hc1, hf1⟩ := bcell hb1; have hz1 := hb1.size; simp at hz1; have hy0 : w.heap.size < w'.heap.size := (by omega)))
  refine bodyPost_ret (v := .tuple #[bk 0 0 0 0 0, .int .i64 1]) (by simp [results, Try.results9, go_sem, hc1, hz1, hy0]) rfl ?_
  exact ⟨rfl, by repeat (first | (with_reducible exact Below.refl _ _) | (with_reducible refine Below.alloc ?_ ?hs _; (case hs => first | omega | (simp; done) | (simp; omega))) | (with_reducible refine Below.setCell ?_ ?hs _; (case hs => first | omega | (simp; done) | (simp; omega))) | (with_reducible refine below_drewN ?_ _) | (with_reducible refine Below.drew ?_) | (with_reducible refine below_then ?_ ?hs hb1; (case hs => first | omega | (simp; done) | (simp; omega))))⟩
set_option maxHeartbeats 400000 in
theorem new9_n1 (c n d a : Int) (w : World) (h1 : wi c 0 1073741824 = false) :
    Calls Try.prog 9 #[.int .i64 c, .int .i64 n, .int .i64 d, .int .i64 a] w fun e w' => e = .returned (.tuple #[bk 0 0 0 0 0, .int .i64 1]) ∧ Below w.heap.size w w' := by
  have H1 : Hid (wi c 0 1073741824 = false) := h1
  clear h1
  go_enter Try.func9, Try.ntmps9
  go_wp2_with (first | (go_at_call 29; refine (within_b c 0 1073741824 _ false H1.out).mono ?_; rintro e w' ⟨rfl, rfl⟩))
  refine bodyPost_ret (v := .tuple #[bk 0 0 0 0 0, .int .i64 1]) (by simp [results, Try.results9, go_sem]) rfl ?_
  exact ⟨rfl, by repeat (first | (with_reducible exact Below.refl _ _) | (with_reducible refine Below.alloc ?_ ?hs _; (case hs => first | omega | (simp; done) | (simp; omega))) | (with_reducible refine Below.setCell ?_ ?hs _; (case hs => first | omega | (simp; done) | (simp; omega))) | (with_reducible refine below_drewN ?_ _) | (with_reducible refine Below.drew ?_) | (with_reducible refine below_then ?_ ?hs hb1; (case hs => first | omega | (simp; done) | (simp; omega))))⟩
set_option maxHeartbeats 400000 in
theorem new9_n2 (c n d a : Int) (w : World) (h1 : wi c 0 1073741824 = true) (h2 : wi d 1 1048576 = false) :
    Calls Try.prog 9 #[.int .i64 c, .int .i64 n, .int .i64 d, .int .i64 a] w fun e w' => e = .returned (.tuple #[bk 0 0 0 0 0, .int .i64 1]) ∧ Below w.heap.size w w' := by
  have H1 : Hid (wi c 0 1073741824 = true) := h1
  have H2 : Hid (wi d 1 1048576 = false) := h2
  clear h1 h2
  go_enter Try.func9, Try.ntmps9
  go_wp2_with (first | (go_at_call 29; (with_reducible refine (within_b c 0 1073741824 _ true H1.out).mono ?_); rintro e w' ⟨rfl, rfl⟩) | (go_at_call 29; (with_reducible refine (within_b d 1 1048576 _ false H2.out).mono ?_); rintro e w' ⟨rfl, rfl⟩))
  refine bodyPost_ret (v := .tuple #[bk 0 0 0 0 0, .int .i64 1]) (by simp [results, Try.results9, go_sem]) rfl ?_
  exact ⟨rfl, by repeat (first | (with_reducible exact Below.refl _ _) | (with_reducible refine Below.alloc ?_ ?hs _; (case hs => first | omega | (simp; done) | (simp; omega))) | (with_reducible refine Below.setCell ?_ ?hs _; (case hs => first | omega | (simp; done) | (simp; omega))) | (with_reducible refine below_drewN ?_ _) | (with_reducible refine Below.drew ?_) | (with_reducible refine below_then ?_ ?hs hb1; (case hs => first | omega | (simp; done) | (simp; omega))))⟩
set_option maxHeartbeats 400000 in
theorem new14_ok (c n d a : Int) (w : World) (h1 : 0 ≤ c) (h2 : c ≤ 1073741824) (h3 : 1 ≤ d) (h4 : d ≤ 1048576) (hv : V c n d (c * d) a) :
    Calls Try.prog 14 #[.int .i64 c, .int .i64 n, .int .i64 d, .int .i64 a] w fun e w' => e = .returned (.agg #[.int .i64 c, .int .i64 n, .int .i64 d, .int .i64 (c * d), .int .i64 a, .int .i64 0]) ∧ Below w.heap.size w w' := by
  have HV : Hid (V c n d (c * d) a) := hv
  have hcd := cd_bd h1 h2 (by omega : 0 ≤ d) h4
  have hcd1 := hcd.1
  have hcd2 := hcd.2
  clear hcd
  clear hv
  go_enter Try.func14, Try.ntmps14
  go_wp2_with (first | (go_at_call 21; refine (valid21_any _ _ _ _ _ _ true (decide_eq_true HV.out).symm).mono ?_; rintro e w' ⟨rfl, rfl⟩))
  refine bodyPost_ret (v := .agg #[.int .i64 c, .int .i64 n, .int .i64 d, .int .i64 (c * d), .int .i64 a, .int .i64 0]) (by simp [results, Try.results14, go_sem]) rfl ?_
  exact ⟨rfl, by repeat (first | (with_reducible exact Below.refl _ _) | (with_reducible refine Below.alloc ?_ ?hs _; (case hs => first | omega | (simp; done) | (simp; omega))) | (with_reducible refine Below.setCell ?_ ?hs _; (case hs => first | omega | (simp; done) | (simp; omega))) | (with_reducible refine below_drewN ?_ _) | (with_reducible refine Below.drew ?_) | (with_reducible refine below_then ?_ ?hs hb1; (case hs => first | omega | (simp; done) | (simp; omega))))⟩
set_option maxHeartbeats 400000 in
theorem new14_no (c n d a : Int) (w : World) (h1 : 0 ≤ c) (h2 : c ≤ 1073741824) (h3 : 1 ≤ d) (h4 : d ≤ 1048576) (hv : ¬ V c n d (c * d) a) :
    Calls Try.prog 14 #[.int .i64 c, .int .i64 n, .int .i64 d, .int .i64 a] w fun e w' => e = .returned (.agg #[.int .i64 0, .int .i64 0, .int .i64 0, .int .i64 0, .int .i64 0, .int .i64 1]) ∧ Below w.heap.size w w' := by
  have HV : Hid (¬ V c n d (c * d) a) := hv
  have hcd := cd_bd h1 h2 (by omega : 0 ≤ d) h4
  have hcd1 := hcd.1
  have hcd2 := hcd.2
  clear hcd
  clear hv
  go_enter Try.func14, Try.ntmps14
  go_wp2_with (first | (go_at_call 21; refine (valid21_any _ _ _ _ _ _ false (decide_eq_false HV.out).symm).mono ?_; rintro e w' ⟨rfl, rfl⟩))
  refine bodyPost_ret (v := .agg #[.int .i64 0, .int .i64 0, .int .i64 0, .int .i64 0, .int .i64 0, .int .i64 1]) (by simp [results, Try.results14, go_sem]) rfl ?_
  exact ⟨rfl, by repeat (first | (with_reducible exact Below.refl _ _) | (with_reducible refine Below.alloc ?_ ?hs _; (case hs => first | omega | (simp; done) | (simp; omega))) | (with_reducible refine Below.setCell ?_ ?hs _; (case hs => first | omega | (simp; done) | (simp; omega))) | (with_reducible refine below_drewN ?_ _) | (with_reducible refine Below.drew ?_) | (with_reducible refine below_then ?_ ?hs hb1; (case hs => first | omega | (simp; done) | (simp; omega))))⟩
set_option maxHeartbeats 400000 in
theorem new14_n (c n d a : Int) (w : World) (h : c < 0 ∨ 0 ≤ c ∧ 1073741824 < c ∨ 0 ≤ c ∧ c ≤ 1073741824 ∧ d < 1 ∨ 0 ≤ c ∧ c ≤ 1073741824 ∧ 1 ≤ d ∧ 1048576 < d) :
    Calls Try.prog 14 #[.int .i64 c, .int .i64 n, .int .i64 d, .int .i64 a] w fun e w' => e = .returned (.agg #[.int .i64 0, .int .i64 0, .int .i64 0, .int .i64 0, .int .i64 0, .int .i64 1]) ∧ Below w.heap.size w w' := by
  rcases h with h1 | ⟨h1, h2⟩ | ⟨h1, h2, h3⟩ | ⟨h1, h2, h3, h4⟩
  all_goals
    go_enter Try.func14, Try.ntmps14
    go_wp2
    refine bodyPost_ret (v := .agg #[.int .i64 0, .int .i64 0, .int .i64 0, .int .i64 0, .int .i64 0, .int .i64 1]) (by simp [results, Try.results14, go_sem]) rfl ?_
    exact ⟨rfl, by repeat (first | (with_reducible exact Below.refl _ _) | (with_reducible refine Below.alloc ?_ ?hs _; (case hs => first | omega | (simp; done) | (simp; omega))) | (with_reducible refine Below.setCell ?_ ?hs _; (case hs => first | omega | (simp; done) | (simp; omega))) | (with_reducible refine below_drewN ?_ _) | (with_reducible refine Below.drew ?_) | (with_reducible refine below_then ?_ ?hs hb1; (case hs => first | omega | (simp; done) | (simp; omega))))⟩
set_option maxHeartbeats 400000 in
theorem wait12_arg1 (c n d l a m : Int) (w : World) (hv : ¬ V c n d l a) :
    Calls Try.prog 12 #[bk c n d l a, .int .i64 m] w fun e w' => e = .returned (.tuple #[.int .i64 0, .int .i64 1]) ∧ Below w.heap.size w w' := by
  have HV : Hid (¬ V c n d l a) := hv
  clear hv
  go_enter Try.func12, Try.ntmps12
  go_wp2_with (first | (go_at_call 20; refine (valid20_any _ _ _ _ _ _ false (decide_eq_false HV.out).symm).mono ?_; rintro e w' ⟨rfl, rfl⟩))
  go_ret2
  exact ⟨rfl, by repeat (first | (with_reducible exact Below.refl _ _) | (with_reducible refine Below.alloc ?_ ?hs _; (case hs => first | omega | (simp; done) | (simp; omega))) | (with_reducible refine Below.setCell ?_ ?hs _; (case hs => first | omega | (simp; done) | (simp; omega))) | (with_reducible refine below_drewN ?_ _) | (with_reducible refine Below.drew ?_) | (with_reducible refine below_then ?_ ?hs hb1; (case hs => first | omega | (simp; done) | (simp; omega))))⟩
set_option maxHeartbeats 400000 in
theorem wait12_arg2 (c n d l a m : Int) (w : World) (hv : V c n d l a) (hm : wi m 1 1073741824 = false) :
    Calls Try.prog 12 #[bk c n d l a, .int .i64 m] w fun e w' => e = .returned (.tuple #[.int .i64 0, .int .i64 1]) ∧ Below w.heap.size w w' := by
  have HV : Hid (V c n d l a) := hv
  have HM : Hid (wi m 1 1073741824 = false) := hm
  clear hv hm
  go_enter Try.func12, Try.ntmps12
  go_wp2_with (first | (go_at_call 20; refine (valid20_any _ _ _ _ _ _ true (decide_eq_true HV.out).symm).mono ?_; rintro e w' ⟨rfl, rfl⟩) | (go_at_call 29; refine (within_b _ _ _ _ false HM.out).mono ?_; rintro e w' ⟨rfl, rfl⟩))
  go_ret2
  exact ⟨rfl, by repeat (first | (with_reducible exact Below.refl _ _) | (with_reducible refine Below.alloc ?_ ?hs _; (case hs => first | omega | (simp; done) | (simp; omega))) | (with_reducible refine Below.setCell ?_ ?hs _; (case hs => first | omega | (simp; done) | (simp; omega))) | (with_reducible refine below_drewN ?_ _) | (with_reducible refine Below.drew ?_) | (with_reducible refine below_then ?_ ?hs hb1; (case hs => first | omega | (simp; done) | (simp; omega))))⟩
set_option maxHeartbeats 400000 in
theorem wait12_limit (c n d l a m : Int) (w : World) (hv : V c n d l a) (hm1 : 1 ≤ m) (hm2 : m ≤ 1073741824) (h1 : c < m) :
    Calls Try.prog 12 #[bk c n d l a, .int .i64 m] w fun e w' => e = .returned (.tuple #[.int .i64 0, .int .i64 2]) ∧ Below w.heap.size w w' := by
  have hmd := cd_bd (by omega : 0 ≤ m) hm2 (by have := hv.2.2.2.2.1; omega : 0 ≤ d) hv.2.2.2.2.2.1
  have hmd1 := hmd.1
  have hmd2 := hmd.2
  have hl0 : 0 ≤ l := hv.2.2.2.2.2.2.1
  have hcd := cd_bd hv.1 hv.2.1 (by have := hv.2.2.2.2.1; omega : 0 ≤ d) hv.2.2.2.2.2.1
  have hl1 : l ≤ 1125899906842624 := by have := hv.2.2.2.2.2.2.2.1; omega
  have ha0 : 0 ≤ a := hv.2.2.2.2.2.2.2.2.1
  have ha1 : a ≤ 1099511627776 := hv.2.2.2.2.2.2.2.2.2
  have hnn := mul_bd hv.2.2.1 hv.2.2.2.1 (by omega : 0 ≤ 1099511627776 - a) (by omega : 1099511627776 - a ≤ 1099511627776)
  have hn1 := hnn.1
  have hn2 : n * (1099511627776 - a) ≤ 1152921504606846976 := by omega
  have HV : Hid (V c n d l a) := hv
  have HM : Hid (wi m 1 1073741824 = true) := wi_t hm1 hm2
  clear hv hmd hcd hnn
  go_enter Try.func12, Try.ntmps12
  go_wp2_with (first | (go_at_call 20; refine (valid20_any _ _ _ _ _ _ true (decide_eq_true HV.out).symm).mono ?_; rintro e w' ⟨rfl, rfl⟩) | (go_at_call 29; refine (within_b _ _ _ _ true HM.out).mono ?_; rintro e w' ⟨rfl, rfl⟩))
  go_ret2
  exact ⟨rfl, by repeat (first | (with_reducible exact Below.refl _ _) | (with_reducible refine Below.alloc ?_ ?hs _; (case hs => first | omega | (simp; done) | (simp; omega))) | (with_reducible refine Below.setCell ?_ ?hs _; (case hs => first | omega | (simp; done) | (simp; omega))) | (with_reducible refine below_drewN ?_ _) | (with_reducible refine Below.drew ?_) | (with_reducible refine below_then ?_ ?hs hb1; (case hs => first | omega | (simp; done) | (simp; omega))))⟩
set_option maxHeartbeats 400000 in
theorem wait12_now (c n d l a m : Int) (w : World) (hv : V c n d l a) (hm1 : 1 ≤ m) (hm2 : m ≤ 1073741824) (h1 : m ≤ c) (h2 : m * d ≤ l) :
    Calls Try.prog 12 #[bk c n d l a, .int .i64 m] w fun e w' => e = .returned (.tuple #[.int .i64 a, .int .i64 0]) ∧ Below w.heap.size w w' := by
  have hmd := cd_bd (by omega : 0 ≤ m) hm2 (by have := hv.2.2.2.2.1; omega : 0 ≤ d) hv.2.2.2.2.2.1
  have hmd1 := hmd.1
  have hmd2 := hmd.2
  have hl0 : 0 ≤ l := hv.2.2.2.2.2.2.1
  have hcd := cd_bd hv.1 hv.2.1 (by have := hv.2.2.2.2.1; omega : 0 ≤ d) hv.2.2.2.2.2.1
  have hl1 : l ≤ 1125899906842624 := by have := hv.2.2.2.2.2.2.2.1; omega
  have ha0 : 0 ≤ a := hv.2.2.2.2.2.2.2.2.1
  have ha1 : a ≤ 1099511627776 := hv.2.2.2.2.2.2.2.2.2
  have hnn := mul_bd hv.2.2.1 hv.2.2.2.1 (by omega : 0 ≤ 1099511627776 - a) (by omega : 1099511627776 - a ≤ 1099511627776)
  have hn1 := hnn.1
  have hn2 : n * (1099511627776 - a) ≤ 1152921504606846976 := by omega
  have HV : Hid (V c n d l a) := hv
  have HM : Hid (wi m 1 1073741824 = true) := wi_t hm1 hm2
  clear hv hmd hcd hnn
  go_enter Try.func12, Try.ntmps12
  go_wp2_with (first | (go_at_call 20; refine (valid20_any _ _ _ _ _ _ true (decide_eq_true HV.out).symm).mono ?_; rintro e w' ⟨rfl, rfl⟩) | (go_at_call 29; refine (within_b _ _ _ _ true HM.out).mono ?_; rintro e w' ⟨rfl, rfl⟩))
  go_ret2
  exact ⟨rfl, by repeat (first | (with_reducible exact Below.refl _ _) | (with_reducible refine Below.alloc ?_ ?hs _; (case hs => first | omega | (simp; done) | (simp; omega))) | (with_reducible refine Below.setCell ?_ ?hs _; (case hs => first | omega | (simp; done) | (simp; omega))) | (with_reducible refine below_drewN ?_ _) | (with_reducible refine Below.drew ?_) | (with_reducible refine below_then ?_ ?hs hb1; (case hs => first | omega | (simp; done) | (simp; omega))))⟩
set_option maxHeartbeats 400000 in
theorem wait12_never1 (c d l a m : Int) (w : World) (hv : V c 0 d l a) (hm1 : 1 ≤ m) (hm2 : m ≤ 1073741824) (h1 : m ≤ c) (h2 : l < m * d) :
    Calls Try.prog 12 #[bk c 0 d l a, .int .i64 m] w fun e w' => e = .returned (.tuple #[.int .i64 0, .int .i64 4]) ∧ Below w.heap.size w w' := by
  have hmd := cd_bd (by omega : 0 ≤ m) hm2 (by have := hv.2.2.2.2.1; omega : 0 ≤ d) hv.2.2.2.2.2.1
  have hmd1 := hmd.1
  have hmd2 := hmd.2
  have hl0 : 0 ≤ l := hv.2.2.2.2.2.2.1
  have hcd := cd_bd hv.1 hv.2.1 (by have := hv.2.2.2.2.1; omega : 0 ≤ d) hv.2.2.2.2.2.1
  have hl1 : l ≤ 1125899906842624 := by have := hv.2.2.2.2.2.2.2.1; omega
  have ha0 : 0 ≤ a := hv.2.2.2.2.2.2.2.2.1
  have ha1 : a ≤ 1099511627776 := hv.2.2.2.2.2.2.2.2.2
  have hnn := mul_bd hv.2.2.1 hv.2.2.2.1 (by omega : 0 ≤ 1099511627776 - a) (by omega : 1099511627776 - a ≤ 1099511627776)
  have hn1 := hnn.1
  have hn2 : 0 * (1099511627776 - a) ≤ 1152921504606846976 := by omega
  have HV : Hid (V c 0 d l a) := hv
  have HM : Hid (wi m 1 1073741824 = true) := wi_t hm1 hm2
  clear hv hmd hcd hnn
  go_enter Try.func12, Try.ntmps12
  go_wp2_with (first | (go_at_call 20; refine (valid20_any _ _ _ _ _ _ true (decide_eq_true HV.out).symm).mono ?_; rintro e w' ⟨rfl, rfl⟩) | (go_at_call 29; refine (within_b _ _ _ _ true HM.out).mono ?_; rintro e w' ⟨rfl, rfl⟩))
  go_ret2
  exact ⟨rfl, by repeat (first | (with_reducible exact Below.refl _ _) | (with_reducible refine Below.alloc ?_ ?hs _; (case hs => first | omega | (simp; done) | (simp; omega))) | (with_reducible refine Below.setCell ?_ ?hs _; (case hs => first | omega | (simp; done) | (simp; omega))) | (with_reducible refine below_drewN ?_ _) | (with_reducible refine Below.drew ?_) | (with_reducible refine below_then ?_ ?hs hb1; (case hs => first | omega | (simp; done) | (simp; omega))))⟩
set_option maxHeartbeats 400000 in
theorem wait12_never2 (c n d l a m : Int) (w : World) (hv : V c n d l a) (hm1 : 1 ≤ m) (hm2 : m ≤ 1073741824) (h1 : m ≤ c) (h2 : l < m * d) (h3 : 1 ≤ n) (h4 : n * (1099511627776 - a) < m * d - l) :
    Calls Try.prog 12 #[bk c n d l a, .int .i64 m] w fun e w' => e = .returned (.tuple #[.int .i64 0, .int .i64 4]) ∧ Below w.heap.size w w' := by
  have hmd := cd_bd (by omega : 0 ≤ m) hm2 (by have := hv.2.2.2.2.1; omega : 0 ≤ d) hv.2.2.2.2.2.1
  have hmd1 := hmd.1
  have hmd2 := hmd.2
  have hl0 : 0 ≤ l := hv.2.2.2.2.2.2.1
  have hcd := cd_bd hv.1 hv.2.1 (by have := hv.2.2.2.2.1; omega : 0 ≤ d) hv.2.2.2.2.2.1
  have hl1 : l ≤ 1125899906842624 := by have := hv.2.2.2.2.2.2.2.1; omega
  have ha0 : 0 ≤ a := hv.2.2.2.2.2.2.2.2.1
  have ha1 : a ≤ 1099511627776 := hv.2.2.2.2.2.2.2.2.2
  have hnn := mul_bd hv.2.2.1 hv.2.2.2.1 (by omega : 0 ≤ 1099511627776 - a) (by omega : 1099511627776 - a ≤ 1099511627776)
  have hn1 := hnn.1
  have hn2 : n * (1099511627776 - a) ≤ 1152921504606846976 := by omega
  have HV : Hid (V c n d l a) := hv
  have HM : Hid (wi m 1 1073741824 = true) := wi_t hm1 hm2
  clear hv hmd hcd hnn
  go_enter Try.func12, Try.ntmps12
  go_wp2_with (first | (go_at_call 20; refine (valid20_any _ _ _ _ _ _ true (decide_eq_true HV.out).symm).mono ?_; rintro e w' ⟨rfl, rfl⟩) | (go_at_call 29; refine (within_b _ _ _ _ true HM.out).mono ?_; rintro e w' ⟨rfl, rfl⟩))
  go_ret2
  exact ⟨rfl, by repeat (first | (with_reducible exact Below.refl _ _) | (with_reducible refine Below.alloc ?_ ?hs _; (case hs => first | omega | (simp; done) | (simp; omega))) | (with_reducible refine Below.setCell ?_ ?hs _; (case hs => first | omega | (simp; done) | (simp; omega))) | (with_reducible refine below_drewN ?_ _) | (with_reducible refine Below.drew ?_) | (with_reducible refine below_then ?_ ?hs hb1; (case hs => first | omega | (simp; done) | (simp; omega))))⟩
set_option maxHeartbeats 400000 in
theorem wait12_later (c n d l a m : Int) (w : World) (hv : V c n d l a) (hm1 : 1 ≤ m) (hm2 : m ≤ 1073741824) (h1 : m ≤ c) (h2 : l < m * d) (h3 : 1 ≤ n) (h4 : m * d - l ≤ n * (1099511627776 - a)) :
    Calls Try.prog 12 #[bk c n d l a, .int .i64 m] w fun e w' => e = .returned (.tuple #[.int .i64 (a + ((m * d - l - 1) / n) + 1), .int .i64 0]) ∧ Below w.heap.size w w' := by
  have hmd := cd_bd (by omega : 0 ≤ m) hm2 (by have := hv.2.2.2.2.1; omega : 0 ≤ d) hv.2.2.2.2.2.1
  have hmd1 := hmd.1
  have hmd2 := hmd.2
  have hl0 : 0 ≤ l := hv.2.2.2.2.2.2.1
  have hcd := cd_bd hv.1 hv.2.1 (by have := hv.2.2.2.2.1; omega : 0 ≤ d) hv.2.2.2.2.2.1
  have hl1 : l ≤ 1125899906842624 := by have := hv.2.2.2.2.2.2.2.1; omega
  have ha0 : 0 ≤ a := hv.2.2.2.2.2.2.2.2.1
  have ha1 : a ≤ 1099511627776 := hv.2.2.2.2.2.2.2.2.2
  have hnn := mul_bd hv.2.2.1 hv.2.2.2.1 (by omega : 0 ≤ 1099511627776 - a) (by omega : 1099511627776 - a ≤ 1099511627776)
  have hn1 := hnn.1
  have hn2 : n * (1099511627776 - a) ≤ 1152921504606846976 := by omega
  have HV : Hid (V c n d l a) := hv
  have HM : Hid (wi m 1 1073741824 = true) := wi_t hm1 hm2
  clear hv hmd hcd hnn
  have hq0 : 0 ≤ (m * d - l - 1) / n := Int.ediv_nonneg (by omega) (by omega)
  have hq1 : (m * d - l - 1) / n ≤ m * d - l - 1 := Int.ediv_le_self _ (by omega)
  have hd1 : (n == 0) = false := by simp; omega
  have hd2 : decide (n * (1099511627776 - a) < m * d - l) = false := decide_eq_false (by omega)
  go_enter Try.func12, Try.ntmps12
  go_wp2_with (first | (go_at_call 20; refine (valid20_any _ _ _ _ _ _ true (decide_eq_true HV.out).symm).mono ?_; rintro e w' ⟨rfl, rfl⟩) | (go_at_call 29; refine (within_b _ _ _ _ true HM.out).mono ?_; rintro e w' ⟨rfl, rfl⟩))
  go_quiet (fail)
  go_wp2
  go_ret2
  exact ⟨rfl, by repeat (first | (with_reducible exact Below.refl _ _) | (with_reducible refine Below.alloc ?_ ?hs _; (case hs => first | omega | (simp; done) | (simp; omega))) | (with_reducible refine Below.setCell ?_ ?hs _; (case hs => first | omega | (simp; done) | (simp; omega))) | (with_reducible refine below_drewN ?_ _) | (with_reducible refine Below.drew ?_) | (with_reducible refine below_then ?_ ?hs hb1; (case hs => first | omega | (simp; done) | (simp; omega))))⟩
set_option maxHeartbeats 400000 in
theorem wait17_arg1 (c n d l a m : Int) (w : World) (hv : ¬ V c n d l a) :
    Calls Try.prog 17 #[bk c n d l a, .int .i64 m] w fun e w' => e = .returned (.agg #[.int .i64 0, .int .i64 1]) ∧ Below w.heap.size w w' := by
  have HV : Hid (¬ V c n d l a) := hv
  clear hv
  go_enter Try.func17, Try.ntmps17
  go_wp2_with (first | (go_at_call 21; refine (valid21_any _ _ _ _ _ _ false (decide_eq_false HV.out).symm).mono ?_; rintro e w' ⟨rfl, rfl⟩))
  refine bodyPost_ret (v := .agg #[.int .i64 0, .int .i64 1]) (by simp [results, Try.results17, go_sem]) rfl ?_
  exact ⟨rfl, by repeat (first | (with_reducible exact Below.refl _ _) | (with_reducible refine Below.alloc ?_ ?hs _; (case hs => first | omega | (simp; done) | (simp; omega))) | (with_reducible refine Below.setCell ?_ ?hs _; (case hs => first | omega | (simp; done) | (simp; omega))) | (with_reducible refine below_drewN ?_ _) | (with_reducible refine Below.drew ?_) | (with_reducible refine below_then ?_ ?hs hb1; (case hs => first | omega | (simp; done) | (simp; omega))))⟩
set_option maxHeartbeats 400000 in
theorem wait17_arg3 (c n d l a m : Int) (w : World) (hv : V c n d l a) (hm1 : decide (m < 1) = true) :
    Calls Try.prog 17 #[bk c n d l a, .int .i64 m] w fun e w' => e = .returned (.agg #[.int .i64 0, .int .i64 1]) ∧ Below w.heap.size w w' := by
  have HV : Hid (V c n d l a) := hv
  clear hv
  go_enter Try.func17, Try.ntmps17
  go_wp2_with (first | (go_at_call 21; refine (valid21_any _ _ _ _ _ _ true (decide_eq_true HV.out).symm).mono ?_; rintro e w' ⟨rfl, rfl⟩))
  refine bodyPost_ret (v := .agg #[.int .i64 0, .int .i64 1]) (by simp [results, Try.results17, go_sem]) rfl ?_
  exact ⟨rfl, by repeat (first | (with_reducible exact Below.refl _ _) | (with_reducible refine Below.alloc ?_ ?hs _; (case hs => first | omega | (simp; done) | (simp; omega))) | (with_reducible refine Below.setCell ?_ ?hs _; (case hs => first | omega | (simp; done) | (simp; omega))) | (with_reducible refine below_drewN ?_ _) | (with_reducible refine Below.drew ?_) | (with_reducible refine below_then ?_ ?hs hb1; (case hs => first | omega | (simp; done) | (simp; omega))))⟩
set_option maxHeartbeats 400000 in
theorem wait17_arg4 (c n d l a m : Int) (w : World) (hv : V c n d l a) (hm1 : decide (m < 1) = false) (hm2 : decide (1073741824 < m) = true) :
    Calls Try.prog 17 #[bk c n d l a, .int .i64 m] w fun e w' => e = .returned (.agg #[.int .i64 0, .int .i64 1]) ∧ Below w.heap.size w w' := by
  have HV : Hid (V c n d l a) := hv
  clear hv
  go_enter Try.func17, Try.ntmps17
  go_wp2_with (first | (go_at_call 21; refine (valid21_any _ _ _ _ _ _ true (decide_eq_true HV.out).symm).mono ?_; rintro e w' ⟨rfl, rfl⟩))
  refine bodyPost_ret (v := .agg #[.int .i64 0, .int .i64 1]) (by simp [results, Try.results17, go_sem]) rfl ?_
  exact ⟨rfl, by repeat (first | (with_reducible exact Below.refl _ _) | (with_reducible refine Below.alloc ?_ ?hs _; (case hs => first | omega | (simp; done) | (simp; omega))) | (with_reducible refine Below.setCell ?_ ?hs _; (case hs => first | omega | (simp; done) | (simp; omega))) | (with_reducible refine below_drewN ?_ _) | (with_reducible refine Below.drew ?_) | (with_reducible refine below_then ?_ ?hs hb1; (case hs => first | omega | (simp; done) | (simp; omega))))⟩
theorem wait17_arg2 (c n d l a m : Int) (w : World) (hv : V c n d l a) (hm : wi m 1 1073741824 = false) :
    Calls Try.prog 17 #[bk c n d l a, .int .i64 m] w fun e w' => e = .returned (.agg #[.int .i64 0, .int .i64 1]) ∧ Below w.heap.size w w' := by
  by_cases h : m < 1
  · exact wait17_arg3 _ _ _ _ _ _ w hv (decide_eq_true h)
  · exact wait17_arg4 _ _ _ _ _ _ w hv (decide_eq_false h) (decide_eq_true (by simp [wi] at hm; omega))

set_option maxHeartbeats 400000 in
theorem wait17_limit (c n d l a m : Int) (w : World) (hv : V c n d l a) (hm1 : 1 ≤ m) (hm2 : m ≤ 1073741824) (h1 : c < m) :
    Calls Try.prog 17 #[bk c n d l a, .int .i64 m] w fun e w' => e = .returned (.agg #[.int .i64 0, .int .i64 2]) ∧ Below w.heap.size w w' := by
  have hmd := cd_bd (by omega : 0 ≤ m) hm2 (by have := hv.2.2.2.2.1; omega : 0 ≤ d) hv.2.2.2.2.2.1
  have hmd1 := hmd.1
  have hmd2 := hmd.2
  have hl0 : 0 ≤ l := hv.2.2.2.2.2.2.1
  have hcd := cd_bd hv.1 hv.2.1 (by have := hv.2.2.2.2.1; omega : 0 ≤ d) hv.2.2.2.2.2.1
  have hl1 : l ≤ 1125899906842624 := by have := hv.2.2.2.2.2.2.2.1; omega
  have ha0 : 0 ≤ a := hv.2.2.2.2.2.2.2.2.1
  have ha1 : a ≤ 1099511627776 := hv.2.2.2.2.2.2.2.2.2
  have hnn := mul_bd hv.2.2.1 hv.2.2.2.1 (by omega : 0 ≤ 1099511627776 - a) (by omega : 1099511627776 - a ≤ 1099511627776)
  have hn1 := hnn.1
  have hn2 : n * (1099511627776 - a) ≤ 1152921504606846976 := by omega
  have HV : Hid (V c n d l a) := hv
  clear hv hmd hcd hnn
  go_enter Try.func17, Try.ntmps17
  go_wp2_with (first | (go_at_call 21; refine (valid21_any _ _ _ _ _ _ true (decide_eq_true HV.out).symm).mono ?_; rintro e w' ⟨rfl, rfl⟩))
  refine bodyPost_ret (v := .agg #[.int .i64 0, .int .i64 2]) (by simp [results, Try.results17, go_sem]) rfl ?_
  exact ⟨rfl, by repeat (first | (with_reducible exact Below.refl _ _) | (with_reducible refine Below.alloc ?_ ?hs _; (case hs => first | omega | (simp; done) | (simp; omega))) | (with_reducible refine Below.setCell ?_ ?hs _; (case hs => first | omega | (simp; done) | (simp; omega))) | (with_reducible refine below_drewN ?_ _) | (with_reducible refine Below.drew ?_) | (with_reducible refine below_then ?_ ?hs hb1; (case hs => first | omega | (simp; done) | (simp; omega))))⟩
set_option maxHeartbeats 400000 in
theorem wait17_now (c n d l a m : Int) (w : World) (hv : V c n d l a) (hm1 : 1 ≤ m) (hm2 : m ≤ 1073741824) (h1 : m ≤ c) (h2 : m * d ≤ l) :
    Calls Try.prog 17 #[bk c n d l a, .int .i64 m] w fun e w' => e = .returned (.agg #[.int .i64 a, .int .i64 0]) ∧ Below w.heap.size w w' := by
  have hmd := cd_bd (by omega : 0 ≤ m) hm2 (by have := hv.2.2.2.2.1; omega : 0 ≤ d) hv.2.2.2.2.2.1
  have hmd1 := hmd.1
  have hmd2 := hmd.2
  have hl0 : 0 ≤ l := hv.2.2.2.2.2.2.1
  have hcd := cd_bd hv.1 hv.2.1 (by have := hv.2.2.2.2.1; omega : 0 ≤ d) hv.2.2.2.2.2.1
  have hl1 : l ≤ 1125899906842624 := by have := hv.2.2.2.2.2.2.2.1; omega
  have ha0 : 0 ≤ a := hv.2.2.2.2.2.2.2.2.1
  have ha1 : a ≤ 1099511627776 := hv.2.2.2.2.2.2.2.2.2
  have hnn := mul_bd hv.2.2.1 hv.2.2.2.1 (by omega : 0 ≤ 1099511627776 - a) (by omega : 1099511627776 - a ≤ 1099511627776)
  have hn1 := hnn.1
  have hn2 : n * (1099511627776 - a) ≤ 1152921504606846976 := by omega
  have HV : Hid (V c n d l a) := hv
  clear hv hmd hcd hnn
  go_enter Try.func17, Try.ntmps17
  go_wp2_with (first | (go_at_call 21; refine (valid21_any _ _ _ _ _ _ true (decide_eq_true HV.out).symm).mono ?_; rintro e w' ⟨rfl, rfl⟩))
  refine bodyPost_ret (v := .agg #[.int .i64 a, .int .i64 0]) (by simp [results, Try.results17, go_sem]) rfl ?_
  exact ⟨rfl, by repeat (first | (with_reducible exact Below.refl _ _) | (with_reducible refine Below.alloc ?_ ?hs _; (case hs => first | omega | (simp; done) | (simp; omega))) | (with_reducible refine Below.setCell ?_ ?hs _; (case hs => first | omega | (simp; done) | (simp; omega))) | (with_reducible refine below_drewN ?_ _) | (with_reducible refine Below.drew ?_) | (with_reducible refine below_then ?_ ?hs hb1; (case hs => first | omega | (simp; done) | (simp; omega))))⟩
set_option maxHeartbeats 400000 in
theorem wait17_never1 (c d l a m : Int) (w : World) (hv : V c 0 d l a) (hm1 : 1 ≤ m) (hm2 : m ≤ 1073741824) (h1 : m ≤ c) (h2 : l < m * d) :
    Calls Try.prog 17 #[bk c 0 d l a, .int .i64 m] w fun e w' => e = .returned (.agg #[.int .i64 0, .int .i64 4]) ∧ Below w.heap.size w w' := by
  have hmd := cd_bd (by omega : 0 ≤ m) hm2 (by have := hv.2.2.2.2.1; omega : 0 ≤ d) hv.2.2.2.2.2.1
  have hmd1 := hmd.1
  have hmd2 := hmd.2
  have hl0 : 0 ≤ l := hv.2.2.2.2.2.2.1
  have hcd := cd_bd hv.1 hv.2.1 (by have := hv.2.2.2.2.1; omega : 0 ≤ d) hv.2.2.2.2.2.1
  have hl1 : l ≤ 1125899906842624 := by have := hv.2.2.2.2.2.2.2.1; omega
  have ha0 : 0 ≤ a := hv.2.2.2.2.2.2.2.2.1
  have ha1 : a ≤ 1099511627776 := hv.2.2.2.2.2.2.2.2.2
  have hnn := mul_bd hv.2.2.1 hv.2.2.2.1 (by omega : 0 ≤ 1099511627776 - a) (by omega : 1099511627776 - a ≤ 1099511627776)
  have hn1 := hnn.1
  have hn2 : 0 * (1099511627776 - a) ≤ 1152921504606846976 := by omega
  have HV : Hid (V c 0 d l a) := hv
  clear hv hmd hcd hnn
  go_enter Try.func17, Try.ntmps17
  go_wp2_with (first | (go_at_call 21; refine (valid21_any _ _ _ _ _ _ true (decide_eq_true HV.out).symm).mono ?_; rintro e w' ⟨rfl, rfl⟩))
  refine bodyPost_ret (v := .agg #[.int .i64 0, .int .i64 4]) (by simp [results, Try.results17, go_sem]) rfl ?_
  exact ⟨rfl, by repeat (first | (with_reducible exact Below.refl _ _) | (with_reducible refine Below.alloc ?_ ?hs _; (case hs => first | omega | (simp; done) | (simp; omega))) | (with_reducible refine Below.setCell ?_ ?hs _; (case hs => first | omega | (simp; done) | (simp; omega))) | (with_reducible refine below_drewN ?_ _) | (with_reducible refine Below.drew ?_) | (with_reducible refine below_then ?_ ?hs hb1; (case hs => first | omega | (simp; done) | (simp; omega))))⟩
set_option maxHeartbeats 400000 in
theorem wait17_never2 (c n d l a m : Int) (w : World) (hv : V c n d l a) (hm1 : 1 ≤ m) (hm2 : m ≤ 1073741824) (h1 : m ≤ c) (h2 : l < m * d) (h3 : 1 ≤ n) (h4 : 1099511627776 < a + (m * d - l + n - 1) / n) :
    Calls Try.prog 17 #[bk c n d l a, .int .i64 m] w fun e w' => e = .returned (.agg #[.int .i64 0, .int .i64 4]) ∧ Below w.heap.size w w' := by
  have hq0 : 0 ≤ (m * d - l + n - 1) / n := Int.ediv_nonneg (by omega) (by omega)
  have hq1 : (m * d - l + n - 1) / n ≤ m * d - l + n - 1 := Int.ediv_le_self _ (by omega)
  have hnb : n ≤ 1048576 := hv.2.2.2.1
  have hd1 : (n == 0) = false := by simp; omega
  have hmd := cd_bd (by omega : 0 ≤ m) hm2 (by have := hv.2.2.2.2.1; omega : 0 ≤ d) hv.2.2.2.2.2.1
  have hmd1 := hmd.1
  have hmd2 := hmd.2
  have hl0 : 0 ≤ l := hv.2.2.2.2.2.2.1
  have hcd := cd_bd hv.1 hv.2.1 (by have := hv.2.2.2.2.1; omega : 0 ≤ d) hv.2.2.2.2.2.1
  have hl1 : l ≤ 1125899906842624 := by have := hv.2.2.2.2.2.2.2.1; omega
  have ha0 : 0 ≤ a := hv.2.2.2.2.2.2.2.2.1
  have ha1 : a ≤ 1099511627776 := hv.2.2.2.2.2.2.2.2.2
  have hnn := mul_bd hv.2.2.1 hv.2.2.2.1 (by omega : 0 ≤ 1099511627776 - a) (by omega : 1099511627776 - a ≤ 1099511627776)
  have hn1 := hnn.1
  have hn2 : n * (1099511627776 - a) ≤ 1152921504606846976 := by omega
  have HV : Hid (V c n d l a) := hv
  clear hv hmd hcd hnn
  clear hn1 hn2
  go_enter Try.func17, Try.ntmps17
  go_wp2_with (first | (go_at_call 21; refine (valid21_any _ _ _ _ _ _ true (decide_eq_true HV.out).symm).mono ?_; rintro e w' ⟨rfl, rfl⟩))
  go_quiet (fail)
  go_wp2
  refine bodyPost_ret (v := .agg #[.int .i64 0, .int .i64 4]) (by simp [results, Try.results17, go_sem]) rfl ?_
  exact ⟨rfl, by repeat (first | (with_reducible exact Below.refl _ _) | (with_reducible refine Below.alloc ?_ ?hs _; (case hs => first | omega | (simp; done) | (simp; omega))) | (with_reducible refine Below.setCell ?_ ?hs _; (case hs => first | omega | (simp; done) | (simp; omega))) | (with_reducible refine below_drewN ?_ _) | (with_reducible refine Below.drew ?_) | (with_reducible refine below_then ?_ ?hs hb1; (case hs => first | omega | (simp; done) | (simp; omega))))⟩
set_option maxHeartbeats 400000 in
theorem wait17_later (c n d l a m : Int) (w : World) (hv : V c n d l a) (hm1 : 1 ≤ m) (hm2 : m ≤ 1073741824) (h1 : m ≤ c) (h2 : l < m * d) (h3 : 1 ≤ n) (h4 : a + (m * d - l + n - 1) / n ≤ 1099511627776) :
    Calls Try.prog 17 #[bk c n d l a, .int .i64 m] w fun e w' => e = .returned (.agg #[.int .i64 (a + (m * d - l + n - 1) / n), .int .i64 0]) ∧ Below w.heap.size w w' := by
  have hq0 : 0 ≤ (m * d - l + n - 1) / n := Int.ediv_nonneg (by omega) (by omega)
  have hq1 : (m * d - l + n - 1) / n ≤ m * d - l + n - 1 := Int.ediv_le_self _ (by omega)
  have hnb : n ≤ 1048576 := hv.2.2.2.1
  have hd1 : (n == 0) = false := by simp; omega
  have hmd := cd_bd (by omega : 0 ≤ m) hm2 (by have := hv.2.2.2.2.1; omega : 0 ≤ d) hv.2.2.2.2.2.1
  have hmd1 := hmd.1
  have hmd2 := hmd.2
  have hl0 : 0 ≤ l := hv.2.2.2.2.2.2.1
  have hcd := cd_bd hv.1 hv.2.1 (by have := hv.2.2.2.2.1; omega : 0 ≤ d) hv.2.2.2.2.2.1
  have hl1 : l ≤ 1125899906842624 := by have := hv.2.2.2.2.2.2.2.1; omega
  have ha0 : 0 ≤ a := hv.2.2.2.2.2.2.2.2.1
  have ha1 : a ≤ 1099511627776 := hv.2.2.2.2.2.2.2.2.2
  have hnn := mul_bd hv.2.2.1 hv.2.2.2.1 (by omega : 0 ≤ 1099511627776 - a) (by omega : 1099511627776 - a ≤ 1099511627776)
  have hn1 := hnn.1
  have hn2 : n * (1099511627776 - a) ≤ 1152921504606846976 := by omega
  have HV : Hid (V c n d l a) := hv
  clear hv hmd hcd hnn
  clear hn1 hn2
  go_enter Try.func17, Try.ntmps17
  go_wp2_with (first | (go_at_call 21; refine (valid21_any _ _ _ _ _ _ true (decide_eq_true HV.out).symm).mono ?_; rintro e w' ⟨rfl, rfl⟩))
  go_quiet (fail)
  go_wp2
  refine bodyPost_ret (v := .agg #[.int .i64 (a + (m * d - l + n - 1) / n), .int .i64 0]) (by simp [results, Try.results17, go_sem]) rfl ?_
  exact ⟨rfl, by repeat (first | (with_reducible exact Below.refl _ _) | (with_reducible refine Below.alloc ?_ ?hs _; (case hs => first | omega | (simp; done) | (simp; omega))) | (with_reducible refine Below.setCell ?_ ?hs _; (case hs => first | omega | (simp; done) | (simp; omega))) | (with_reducible refine below_drewN ?_ _) | (with_reducible refine Below.drew ?_) | (with_reducible refine below_then ?_ ?hs hb1; (case hs => first | omega | (simp; done) | (simp; omega))))⟩
set_option maxHeartbeats 400000 in
theorem most13_arg1 (c n d l a t u : Int) (w : World) (hv : ¬ V c n d l a) :
    Calls Try.prog 13 #[bk c n d l a, .int .i64 t, .int .i64 u] w fun e w' => e = .returned (.tuple #[.int .i64 0, .int .i64 1]) ∧ Below w.heap.size w w' := by
  have HV : Hid (¬ V c n d l a) := hv
  clear hv
  go_enter Try.func13, Try.ntmps13
  go_wp2_with (first | (go_at_call 20; refine (valid20_any _ _ _ _ _ _ false (decide_eq_false HV.out).symm).mono ?_; rintro e w' ⟨rfl, rfl⟩))
  go_ret2
  exact ⟨rfl, by repeat (first | (with_reducible exact Below.refl _ _) | (with_reducible refine Below.alloc ?_ ?hs _; (case hs => first | omega | (simp; done) | (simp; omega))) | (with_reducible refine Below.setCell ?_ ?hs _; (case hs => first | omega | (simp; done) | (simp; omega))) | (with_reducible refine below_drewN ?_ _) | (with_reducible refine Below.drew ?_) | (with_reducible refine below_then ?_ ?hs hb1; (case hs => first | omega | (simp; done) | (simp; omega))))⟩
set_option maxHeartbeats 400000 in
theorem most13_arg2 (c n d l a t u : Int) (w : World) (hv : V c n d l a) (h : u < t) :
    Calls Try.prog 13 #[bk c n d l a, .int .i64 t, .int .i64 u] w fun e w' => e = .returned (.tuple #[.int .i64 0, .int .i64 1]) ∧ Below w.heap.size w w' := by
  have HV : Hid (V c n d l a) := hv
  clear hv
  go_enter Try.func13, Try.ntmps13
  go_wp2_with (first | (go_at_call 20; refine (valid20_any _ _ _ _ _ _ true (decide_eq_true HV.out).symm).mono ?_; rintro e w' ⟨rfl, rfl⟩))
  go_ret2
  exact ⟨rfl, by repeat (first | (with_reducible exact Below.refl _ _) | (with_reducible refine Below.alloc ?_ ?hs _; (case hs => first | omega | (simp; done) | (simp; omega))) | (with_reducible refine Below.setCell ?_ ?hs _; (case hs => first | omega | (simp; done) | (simp; omega))) | (with_reducible refine below_drewN ?_ _) | (with_reducible refine Below.drew ?_) | (with_reducible refine below_then ?_ ?hs hb1; (case hs => first | omega | (simp; done) | (simp; omega))))⟩
set_option maxHeartbeats 400000 in
theorem most13_time1 (c n d l a t u : Int) (w : World) (hv : V c n d l a) (h : t ≤ u) (ht : wi t a 1099511627776 = false) :
    Calls Try.prog 13 #[bk c n d l a, .int .i64 t, .int .i64 u] w fun e w' => e = .returned (.tuple #[.int .i64 0, .int .i64 9]) ∧ Below w.heap.size w w' := by
  have HV : Hid (V c n d l a) := hv
  have HT : Hid (wi t a 1099511627776 = false) := ht
  clear hv ht
  go_enter Try.func13, Try.ntmps13
  go_wp2_with (first | (go_at_call 20; refine (valid20_any _ _ _ _ _ _ true (decide_eq_true HV.out).symm).mono ?_; rintro e w' ⟨rfl, rfl⟩) | (go_at_call 10; refine (refill10_time _ _ _ _ _ _ _ HV.out HT.out).mono ?_; rintro e w' ⟨rfl, hb1⟩; obtain ⟨hc1, hf1⟩ := bcell hb1; have hz1 := hb1.size; simp at hz1; have hy0 : w.heap.size < w'.heap.size := (by omega); have hy1 : w.heap.size + 1 < w'.heap.size := (by omega)))
  go_ret2
  exact ⟨rfl, by repeat (first | (with_reducible exact Below.refl _ _) | (with_reducible refine Below.alloc ?_ ?hs _; (case hs => first | omega | (simp; done) | (simp; omega))) | (with_reducible refine Below.setCell ?_ ?hs _; (case hs => first | omega | (simp; done) | (simp; omega))) | (with_reducible refine below_drewN ?_ _) | (with_reducible refine Below.drew ?_) | (with_reducible refine below_then ?_ ?hs hb1; (case hs => first | omega | (simp; done) | (simp; omega))))⟩
set_option maxHeartbeats 400000 in
theorem most13_same (c n d l a t L : Int) (w : World) (hv : V c n d l a) (h1 : a ≤ t) (h2 : t ≤ 1099511627776) (hL : L = lev c n d l a t) :
    Calls Try.prog 13 #[bk c n d l a, .int .i64 t, .int .i64 t] w fun e w' => e = .returned (.tuple #[.int .i64 0, .int .i64 0]) ∧ Below w.heap.size w w' := by
  have hb := lev_bd hv h1 h2
  have hl := lev_le hv h1 h2
  rw [← hL] at hl
  have hL0 : 0 ≤ L := hl.2.2.2
  have hL1 : L ≤ 1125899906842624 := by omega
  have hd1 : 1 ≤ d := hv.2.2.2.2.1
  have ha0 : 0 ≤ a := hv.2.2.2.2.2.2.2.2.1
  have HV : Hid (V c n d l a) := hv
  have HT1 : Hid (a ≤ t) := h1
  have HT2 : Hid (t ≤ 1099511627776) := h2
  have HL : Hid (L = lev c n d l a t) := hL
  clear hb hl hL hv
  go_enter Try.func13, Try.ntmps13
  go_wp2_with (first | (go_at_call 20; refine (valid20_any _ _ _ _ _ _ true (decide_eq_true HV.out).symm).mono ?_; rintro e w' ⟨rfl, rfl⟩) | (go_at_call 10; refine (refill10_ok _ _ _ _ _ _ _ _ HV.out HT1.out HT2.out HL.out).mono ?_; rintro e w' ⟨rfl, hb1⟩; obtain ⟨hc1, hf1⟩ := bcell hb1; have hz1 := hb1.size; simp at hz1; have hy0 : w.heap.size < w'.heap.size := (by omega); have hy1 : w.heap.size + 1 < w'.heap.size := (by omega)))
  go_ret2
  exact ⟨rfl, by repeat (first | (with_reducible exact Below.refl _ _) | (with_reducible refine Below.alloc ?_ ?hs _; (case hs => first | omega | (simp; done) | (simp; omega))) | (with_reducible refine Below.setCell ?_ ?hs _; (case hs => first | omega | (simp; done) | (simp; omega))) | (with_reducible refine below_drewN ?_ _) | (with_reducible refine Below.drew ?_) | (with_reducible refine below_then ?_ ?hs hb1; (case hs => first | omega | (simp; done) | (simp; omega))))⟩
set_option maxHeartbeats 400000 in
theorem most13_time2 (c n d l a t u L : Int) (w : World) (hv : V c n d l a) (h1 : a ≤ t) (h2 : t ≤ 1099511627776) (hL : L = lev c n d l a t) (h3 : t < u) (h4 : 1099511627776 < u) :
    Calls Try.prog 13 #[bk c n d l a, .int .i64 t, .int .i64 u] w fun e w' => e = .returned (.tuple #[.int .i64 0, .int .i64 9]) ∧ Below w.heap.size w w' := by
  have hb := lev_bd hv h1 h2
  have hl := lev_le hv h1 h2
  rw [← hL] at hl
  have hL0 : 0 ≤ L := hl.2.2.2
  have hL1 : L ≤ 1125899906842624 := by omega
  have hd1 : 1 ≤ d := hv.2.2.2.2.1
  have ha0 : 0 ≤ a := hv.2.2.2.2.2.2.2.2.1
  have HV : Hid (V c n d l a) := hv
  have HT1 : Hid (a ≤ t) := h1
  have HT2 : Hid (t ≤ 1099511627776) := h2
  have HL : Hid (L = lev c n d l a t) := hL
  have hne : (t == u) = false := by simp; omega
  clear hb hl hL hv
  go_enter Try.func13, Try.ntmps13
  go_wp2_with (first | (go_at_call 20; refine (valid20_any _ _ _ _ _ _ true (decide_eq_true HV.out).symm).mono ?_; rintro e w' ⟨rfl, rfl⟩) | (go_at_call 10; refine (refill10_ok _ _ _ _ _ _ _ _ HV.out HT1.out HT2.out HL.out).mono ?_; rintro e w' ⟨rfl, hb1⟩; obtain ⟨hc1, hf1⟩ := bcell hb1; have hz1 := hb1.size; simp at hz1; have hy0 : w.heap.size < w'.heap.size := (by omega); have hy1 : w.heap.size + 1 < w'.heap.size := (by omega)))
  go_ret2
  exact ⟨rfl, by repeat (first | (with_reducible exact Below.refl _ _) | (with_reducible refine Below.alloc ?_ ?hs _; (case hs => first | omega | (simp; done) | (simp; omega))) | (with_reducible refine Below.setCell ?_ ?hs _; (case hs => first | omega | (simp; done) | (simp; omega))) | (with_reducible refine below_drewN ?_ _) | (with_reducible refine Below.drew ?_) | (with_reducible refine below_then ?_ ?hs hb1; (case hs => first | omega | (simp; done) | (simp; omega))))⟩
set_option maxHeartbeats 400000 in
theorem most13_ok (c n d l a t u L : Int) (w : World) (hv : V c n d l a) (h1 : a ≤ t) (h2 : t ≤ 1099511627776) (hL : L = lev c n d l a t) (h3 : t < u) (h4 : u ≤ 1099511627776) :
    Calls Try.prog 13 #[bk c n d l a, .int .i64 t, .int .i64 u] w fun e w' => e = .returned (.tuple #[.int .i64 ((L + n * (u - 1 - t)) / d), .int .i64 0]) ∧ Below w.heap.size w w' := by
  have hm := mul_bd hv.2.2.1 hv.2.2.2.1 (by omega : 0 ≤ u - 1 - t) (by have := hv.2.2.2.2.2.2.2.2.1; omega : u - 1 - t ≤ 1099511627776)
  have hm1 := hm.1
  have hm2 : n * (u - 1 - t) ≤ 1152921504606846976 := by omega
  have hb := lev_bd hv h1 h2
  have hl := lev_le hv h1 h2
  rw [← hL] at hl
  have hL0 : 0 ≤ L := hl.2.2.2
  have hL1 : L ≤ 1125899906842624 := by omega
  have hd1 : 1 ≤ d := hv.2.2.2.2.1
  have ha0 : 0 ≤ a := hv.2.2.2.2.2.2.2.2.1
  have HV : Hid (V c n d l a) := hv
  have HT1 : Hid (a ≤ t) := h1
  have HT2 : Hid (t ≤ 1099511627776) := h2
  have HL : Hid (L = lev c n d l a t) := hL
  have hne : (t == u) = false := by simp; omega
  have hq0 : 0 ≤ (L + n * (u - 1 - t)) / d := Int.ediv_nonneg (by omega) (by omega)
  have hq1 : (L + n * (u - 1 - t)) / d ≤ L + n * (u - 1 - t) := Int.ediv_le_self _ (by omega)
  clear hb hl hL hv hm
  go_enter Try.func13, Try.ntmps13
  go_wp2_with (first | (go_at_call 20; refine (valid20_any _ _ _ _ _ _ true (decide_eq_true HV.out).symm).mono ?_; rintro e w' ⟨rfl, rfl⟩) | (go_at_call 10; refine (refill10_ok _ _ _ _ _ _ _ _ HV.out HT1.out HT2.out HL.out).mono ?_; rintro e w' ⟨rfl, hb1⟩; obtain ⟨hc1, hf1⟩ := bcell hb1; have hz1 := hb1.size; simp at hz1; have hy0 : w.heap.size < w'.heap.size := (by omega); have hy1 : w.heap.size + 1 < w'.heap.size := (by omega)))
  go_ret2
  exact ⟨rfl, by repeat (first | (with_reducible exact Below.refl _ _) | (with_reducible refine Below.alloc ?_ ?hs _; (case hs => first | omega | (simp; done) | (simp; omega))) | (with_reducible refine Below.setCell ?_ ?hs _; (case hs => first | omega | (simp; done) | (simp; omega))) | (with_reducible refine below_drewN ?_ _) | (with_reducible refine Below.drew ?_) | (with_reducible refine below_then ?_ ?hs hb1; (case hs => first | omega | (simp; done) | (simp; omega))))⟩
set_option maxHeartbeats 400000 in
theorem most18_arg1 (c n d l a t u : Int) (w : World) (hv : ¬ V c n d l a) :
    Calls Try.prog 18 #[bk c n d l a, .int .i64 t, .int .i64 u] w fun e w' => e = .returned (.agg #[.int .i64 0, .int .i64 1]) ∧ Below w.heap.size w w' := by
  have HV : Hid (¬ V c n d l a) := hv
  clear hv
  go_enter Try.func18, Try.ntmps18
  go_wp2_with (first | (go_at_call 21; refine (valid21_any _ _ _ _ _ _ false (decide_eq_false HV.out).symm).mono ?_; rintro e w' ⟨rfl, rfl⟩))
  refine bodyPost_ret (v := .agg #[.int .i64 0, .int .i64 1]) (by simp [results, Try.results18, go_sem]) rfl ?_
  exact ⟨rfl, by repeat (first | (with_reducible exact Below.refl _ _) | (with_reducible refine Below.alloc ?_ ?hs _; (case hs => first | omega | (simp; done) | (simp; omega))) | (with_reducible refine Below.setCell ?_ ?hs _; (case hs => first | omega | (simp; done) | (simp; omega))) | (with_reducible refine below_drewN ?_ _) | (with_reducible refine Below.drew ?_) | (with_reducible refine below_then ?_ ?hs hb1; (case hs => first | omega | (simp; done) | (simp; omega))))⟩
set_option maxHeartbeats 400000 in
theorem most18_arg2 (c n d l a t u : Int) (w : World) (hv : V c n d l a) (h : u < t) :
    Calls Try.prog 18 #[bk c n d l a, .int .i64 t, .int .i64 u] w fun e w' => e = .returned (.agg #[.int .i64 0, .int .i64 1]) ∧ Below w.heap.size w w' := by
  have HV : Hid (V c n d l a) := hv
  clear hv
  go_enter Try.func18, Try.ntmps18
  go_wp2_with (first | (go_at_call 21; refine (valid21_any _ _ _ _ _ _ true (decide_eq_true HV.out).symm).mono ?_; rintro e w' ⟨rfl, rfl⟩))
  refine bodyPost_ret (v := .agg #[.int .i64 0, .int .i64 1]) (by simp [results, Try.results18, go_sem]) rfl ?_
  exact ⟨rfl, by repeat (first | (with_reducible exact Below.refl _ _) | (with_reducible refine Below.alloc ?_ ?hs _; (case hs => first | omega | (simp; done) | (simp; omega))) | (with_reducible refine Below.setCell ?_ ?hs _; (case hs => first | omega | (simp; done) | (simp; omega))) | (with_reducible refine below_drewN ?_ _) | (with_reducible refine Below.drew ?_) | (with_reducible refine below_then ?_ ?hs hb1; (case hs => first | omega | (simp; done) | (simp; omega))))⟩
set_option maxHeartbeats 400000 in
theorem most18_time1 (c n d l a t u : Int) (w : World) (hv : V c n d l a) (h : t ≤ u) (ht : wi t a 1099511627776 = false) :
    Calls Try.prog 18 #[bk c n d l a, .int .i64 t, .int .i64 u] w fun e w' => e = .returned (.agg #[.int .i64 0, .int .i64 9]) ∧ Below w.heap.size w w' := by
  have HV : Hid (V c n d l a) := hv
  have HT : Hid (wi t a 1099511627776 = false) := ht
  clear hv ht
  go_enter Try.func18, Try.ntmps18
  go_wp2_with (first | (go_at_call 21; refine (valid21_any _ _ _ _ _ _ true (decide_eq_true HV.out).symm).mono ?_; rintro e w' ⟨rfl, rfl⟩) | (go_at_call 15; refine (refill15_time _ _ _ _ _ _ _ HV.out HT.out).mono ?_; rintro e w' ⟨rfl, hb1⟩; obtain ⟨hc1, hf1⟩ := bcell hb1; have hz1 := hb1.size; simp at hz1; have hy0 : w.heap.size < w'.heap.size := (by omega); have hy1 : w.heap.size + 1 < w'.heap.size := (by omega)))
  refine bodyPost_ret (v := .agg #[.int .i64 0, .int .i64 9]) (by simp [results, Try.results18, go_sem, hc1, hz1, hy0, hy1]) rfl ?_
  exact ⟨rfl, by repeat (first | (with_reducible exact Below.refl _ _) | (with_reducible refine Below.alloc ?_ ?hs _; (case hs => first | omega | (simp; done) | (simp; omega))) | (with_reducible refine Below.setCell ?_ ?hs _; (case hs => first | omega | (simp; done) | (simp; omega))) | (with_reducible refine below_drewN ?_ _) | (with_reducible refine Below.drew ?_) | (with_reducible refine below_then ?_ ?hs hb1; (case hs => first | omega | (simp; done) | (simp; omega))))⟩
set_option maxHeartbeats 400000 in
theorem most18_same (c n d l a t L : Int) (w : World) (hv : V c n d l a) (h1 : a ≤ t) (h2 : t ≤ 1099511627776) (hL : L = lev c n d l a t) :
    Calls Try.prog 18 #[bk c n d l a, .int .i64 t, .int .i64 t] w fun e w' => e = .returned (.agg #[.int .i64 0, .int .i64 0]) ∧ Below w.heap.size w w' := by
  have hb := lev_bd hv h1 h2
  have hl := lev_le hv h1 h2
  rw [← hL] at hl
  have hL0 : 0 ≤ L := hl.2.2.2
  have hL1 : L ≤ 1125899906842624 := by omega
  have hd1 : 1 ≤ d := hv.2.2.2.2.1
  have ha0 : 0 ≤ a := hv.2.2.2.2.2.2.2.2.1
  have HV : Hid (V c n d l a) := hv
  have HT1 : Hid (a ≤ t) := h1
  have HT2 : Hid (t ≤ 1099511627776) := h2
  have HL : Hid (L = lev c n d l a t) := hL
  clear hb hl hL hv
  go_enter Try.func18, Try.ntmps18
  go_wp2_with (first | (go_at_call 21; refine (valid21_any _ _ _ _ _ _ true (decide_eq_true HV.out).symm).mono ?_; rintro e w' ⟨rfl, rfl⟩) | (go_at_call 15; refine (refill15_ok _ _ _ _ _ _ _ _ HV.out HT1.out HT2.out HL.out).mono ?_; rintro e w' ⟨rfl, hb1⟩; obtain ⟨hc1, hf1⟩ := bcell hb1; have hz1 := hb1.size; simp at hz1; have hy0 : w.heap.size < w'.heap.size := (by omega); have hy1 : w.heap.size + 1 < w'.heap.size := (by omega)))
  refine bodyPost_ret (v := .agg #[.int .i64 0, .int .i64 0]) (by simp [results, Try.results18, go_sem, hc1, hz1, hy0, hy1]) rfl ?_
  exact ⟨rfl, by repeat (first | (with_reducible exact Below.refl _ _) | (with_reducible refine Below.alloc ?_ ?hs _; (case hs => first | omega | (simp; done) | (simp; omega))) | (with_reducible refine Below.setCell ?_ ?hs _; (case hs => first | omega | (simp; done) | (simp; omega))) | (with_reducible refine below_drewN ?_ _) | (with_reducible refine Below.drew ?_) | (with_reducible refine below_then ?_ ?hs hb1; (case hs => first | omega | (simp; done) | (simp; omega))))⟩
set_option maxHeartbeats 400000 in
theorem most18_time2 (c n d l a t u L : Int) (w : World) (hv : V c n d l a) (h1 : a ≤ t) (h2 : t ≤ 1099511627776) (hL : L = lev c n d l a t) (h3 : t < u) (h4 : 1099511627776 < u) :
    Calls Try.prog 18 #[bk c n d l a, .int .i64 t, .int .i64 u] w fun e w' => e = .returned (.agg #[.int .i64 0, .int .i64 9]) ∧ Below w.heap.size w w' := by
  have hb := lev_bd hv h1 h2
  have hl := lev_le hv h1 h2
  rw [← hL] at hl
  have hL0 : 0 ≤ L := hl.2.2.2
  have hL1 : L ≤ 1125899906842624 := by omega
  have hd1 : 1 ≤ d := hv.2.2.2.2.1
  have ha0 : 0 ≤ a := hv.2.2.2.2.2.2.2.2.1
  have HV : Hid (V c n d l a) := hv
  have HT1 : Hid (a ≤ t) := h1
  have HT2 : Hid (t ≤ 1099511627776) := h2
  have HL : Hid (L = lev c n d l a t) := hL
  have hne : (t == u) = false := by simp; omega
  clear hb hl hL hv
  go_enter Try.func18, Try.ntmps18
  go_wp2_with (first | (go_at_call 21; refine (valid21_any _ _ _ _ _ _ true (decide_eq_true HV.out).symm).mono ?_; rintro e w' ⟨rfl, rfl⟩) | (go_at_call 15; refine (refill15_ok _ _ _ _ _ _ _ _ HV.out HT1.out HT2.out HL.out).mono ?_; rintro e w' ⟨rfl, hb1⟩; obtain ⟨hc1, hf1⟩ := bcell hb1; have hz1 := hb1.size; simp at hz1; have hy0 : w.heap.size < w'.heap.size := (by omega); have hy1 : w.heap.size + 1 < w'.heap.size := (by omega)))
  refine bodyPost_ret (v := .agg #[.int .i64 0, .int .i64 9]) (by simp [results, Try.results18, go_sem, hc1, hz1, hy0, hy1]) rfl ?_
  exact ⟨rfl, by repeat (first | (with_reducible exact Below.refl _ _) | (with_reducible refine Below.alloc ?_ ?hs _; (case hs => first | omega | (simp; done) | (simp; omega))) | (with_reducible refine Below.setCell ?_ ?hs _; (case hs => first | omega | (simp; done) | (simp; omega))) | (with_reducible refine below_drewN ?_ _) | (with_reducible refine Below.drew ?_) | (with_reducible refine below_then ?_ ?hs hb1; (case hs => first | omega | (simp; done) | (simp; omega))))⟩
set_option maxHeartbeats 400000 in
theorem most18_ok (c n d l a t u L : Int) (w : World) (hv : V c n d l a) (h1 : a ≤ t) (h2 : t ≤ 1099511627776) (hL : L = lev c n d l a t) (h3 : t < u) (h4 : u ≤ 1099511627776) :
    Calls Try.prog 18 #[bk c n d l a, .int .i64 t, .int .i64 u] w fun e w' => e = .returned (.agg #[.int .i64 ((L + n * (u - 1 - t)) / d), .int .i64 0]) ∧ Below w.heap.size w w' := by
  have hm := mul_bd hv.2.2.1 hv.2.2.2.1 (by omega : 0 ≤ u - 1 - t) (by have := hv.2.2.2.2.2.2.2.2.1; omega : u - 1 - t ≤ 1099511627776)
  have hm1 := hm.1
  have hm2 : n * (u - 1 - t) ≤ 1152921504606846976 := by omega
  have hb := lev_bd hv h1 h2
  have hl := lev_le hv h1 h2
  rw [← hL] at hl
  have hL0 : 0 ≤ L := hl.2.2.2
  have hL1 : L ≤ 1125899906842624 := by omega
  have hd1 : 1 ≤ d := hv.2.2.2.2.1
  have ha0 : 0 ≤ a := hv.2.2.2.2.2.2.2.2.1
  have HV : Hid (V c n d l a) := hv
  have HT1 : Hid (a ≤ t) := h1
  have HT2 : Hid (t ≤ 1099511627776) := h2
  have HL : Hid (L = lev c n d l a t) := hL
  have hne : (t == u) = false := by simp; omega
  have hq0 : 0 ≤ (L + n * (u - 1 - t)) / d := Int.ediv_nonneg (by omega) (by omega)
  have hq1 : (L + n * (u - 1 - t)) / d ≤ L + n * (u - 1 - t) := Int.ediv_le_self _ (by omega)
  clear hb hl hL hv hm
  go_enter Try.func18, Try.ntmps18
  go_wp2_with (first | (go_at_call 21; refine (valid21_any _ _ _ _ _ _ true (decide_eq_true HV.out).symm).mono ?_; rintro e w' ⟨rfl, rfl⟩) | (go_at_call 15; refine (refill15_ok _ _ _ _ _ _ _ _ HV.out HT1.out HT2.out HL.out).mono ?_; rintro e w' ⟨rfl, hb1⟩; obtain ⟨hc1, hf1⟩ := bcell hb1; have hz1 := hb1.size; simp at hz1; have hy0 : w.heap.size < w'.heap.size := (by omega); have hy1 : w.heap.size + 1 < w'.heap.size := (by omega)))
  refine bodyPost_ret (v := .agg #[.int .i64 ((L + n * (u - 1 - t)) / d), .int .i64 0]) (by simp [results, Try.results18, go_sem, hc1, hz1, hy0, hy1]) rfl ?_
  exact ⟨rfl, by repeat (first | (with_reducible exact Below.refl _ _) | (with_reducible refine Below.alloc ?_ ?hs _; (case hs => first | omega | (simp; done) | (simp; omega))) | (with_reducible refine Below.setCell ?_ ?hs _; (case hs => first | omega | (simp; done) | (simp; omega))) | (with_reducible refine below_drewN ?_ _) | (with_reducible refine Below.drew ?_) | (with_reducible refine below_then ?_ ?hs hb1; (case hs => first | omega | (simp; done) | (simp; omega))))⟩
set_option maxHeartbeats 400000 in
theorem tokens22_ok (c n d l a : Int) (w : World) (hv : V c n d l a) :
    Calls Try.prog 22 #[bk c n d l a] w fun e w' => e = .returned (.int .i64 (l / d)) ∧ Below w.heap.size w w' := by
  have hl0 : 0 ≤ l := hv.2.2.2.2.2.2.1
  have hd1 : 1 ≤ d := hv.2.2.2.2.1
  have hcd := cd_bd hv.1 hv.2.1 (by omega : 0 ≤ d) hv.2.2.2.2.2.1
  have hl1 : l ≤ 1125899906842624 := by have := hv.2.2.2.2.2.2.2.1; omega
  have hq0 : 0 ≤ l / d := Int.ediv_nonneg (by omega) (by omega)
  have hq1 : l / d ≤ l := Int.ediv_le_self _ (by omega)
  have HV : Hid (V c n d l a) := hv
  clear hv hcd
  go_enter Try.func22, Try.ntmps22
  go_wp2_with (first | (go_at_call 20; refine (valid20_any _ _ _ _ _ _ true (decide_eq_true HV.out).symm).mono ?_; rintro e w' ⟨rfl, rfl⟩))
  go_ret
  exact ⟨rfl, by repeat (first | (with_reducible exact Below.refl _ _) | (with_reducible refine Below.alloc ?_ ?hs _; (case hs => first | omega | (simp; done) | (simp; omega))) | (with_reducible refine Below.setCell ?_ ?hs _; (case hs => first | omega | (simp; done) | (simp; omega))) | (with_reducible refine below_drewN ?_ _) | (with_reducible refine Below.drew ?_) | (with_reducible refine below_then ?_ ?hs hb1; (case hs => first | omega | (simp; done) | (simp; omega))))⟩
set_option maxHeartbeats 400000 in
theorem tokens22_no (c n d l a : Int) (w : World) (hv : ¬ V c n d l a) :
    Calls Try.prog 22 #[bk c n d l a] w fun e w' => e = .returned (.int .i64 0) ∧ Below w.heap.size w w' := by
  have HV : Hid (¬ V c n d l a) := hv
  clear hv
  go_enter Try.func22, Try.ntmps22
  go_wp2_with (first | (go_at_call 20; refine (valid20_any _ _ _ _ _ _ false (decide_eq_false HV.out).symm).mono ?_; rintro e w' ⟨rfl, rfl⟩))
  go_ret
  exact ⟨rfl, by repeat (first | (with_reducible exact Below.refl _ _) | (with_reducible refine Below.alloc ?_ ?hs _; (case hs => first | omega | (simp; done) | (simp; omega))) | (with_reducible refine Below.setCell ?_ ?hs _; (case hs => first | omega | (simp; done) | (simp; omega))) | (with_reducible refine below_drewN ?_ _) | (with_reducible refine Below.drew ?_) | (with_reducible refine below_then ?_ ?hs hb1; (case hs => first | omega | (simp; done) | (simp; omega))))⟩
set_option maxHeartbeats 400000 in
theorem tokens23_ok (c n d l a : Int) (w : World) (hv : V c n d l a) :
    Calls Try.prog 23 #[bk c n d l a] w fun e w' => e = .returned (.int .i64 (l / d)) ∧ Below w.heap.size w w' := by
  have hl0 : 0 ≤ l := hv.2.2.2.2.2.2.1
  have hd1 : 1 ≤ d := hv.2.2.2.2.1
  have hcd := cd_bd hv.1 hv.2.1 (by omega : 0 ≤ d) hv.2.2.2.2.2.1
  have hl1 : l ≤ 1125899906842624 := by have := hv.2.2.2.2.2.2.2.1; omega
  have hq0 : 0 ≤ l / d := Int.ediv_nonneg (by omega) (by omega)
  have hq1 : l / d ≤ l := Int.ediv_le_self _ (by omega)
  have HV : Hid (V c n d l a) := hv
  clear hv hcd
  go_enter Try.func23, Try.ntmps23
  go_wp2_with (first | (go_at_call 21; refine (valid21_any _ _ _ _ _ _ true (decide_eq_true HV.out).symm).mono ?_; rintro e w' ⟨rfl, rfl⟩))
  go_ret
  exact ⟨rfl, by repeat (first | (with_reducible exact Below.refl _ _) | (with_reducible refine Below.alloc ?_ ?hs _; (case hs => first | omega | (simp; done) | (simp; omega))) | (with_reducible refine Below.setCell ?_ ?hs _; (case hs => first | omega | (simp; done) | (simp; omega))) | (with_reducible refine below_drewN ?_ _) | (with_reducible refine Below.drew ?_) | (with_reducible refine below_then ?_ ?hs hb1; (case hs => first | omega | (simp; done) | (simp; omega))))⟩
set_option maxHeartbeats 400000 in
theorem tokens23_no (c n d l a : Int) (w : World) (hv : ¬ V c n d l a) :
    Calls Try.prog 23 #[bk c n d l a] w fun e w' => e = .returned (.int .i64 0) ∧ Below w.heap.size w w' := by
  have HV : Hid (¬ V c n d l a) := hv
  clear hv
  go_enter Try.func23, Try.ntmps23
  go_wp2_with (first | (go_at_call 21; refine (valid21_any _ _ _ _ _ _ false (decide_eq_false HV.out).symm).mono ?_; rintro e w' ⟨rfl, rfl⟩))
  go_ret
  exact ⟨rfl, by repeat (first | (with_reducible exact Below.refl _ _) | (with_reducible refine Below.alloc ?_ ?hs _; (case hs => first | omega | (simp; done) | (simp; omega))) | (with_reducible refine Below.setCell ?_ ?hs _; (case hs => first | omega | (simp; done) | (simp; omega))) | (with_reducible refine below_drewN ?_ _) | (with_reducible refine Below.drew ?_) | (with_reducible refine below_then ?_ ?hs hb1; (case hs => first | omega | (simp; done) | (simp; omega))))⟩
end Go.Proofs.Ytcikmloklbdddaa
