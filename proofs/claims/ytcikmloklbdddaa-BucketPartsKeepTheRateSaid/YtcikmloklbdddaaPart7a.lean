/- What the sums and both Splits return, where they refuse, and the reference's Split. Conditions: those of the theorems' heads. -/
import Derived.Test.YtcikmloklbdddaaWWords
import Derived.Test.YtcikmloklbdddaaSane
import Derived.Deep.DeepCutAuto
import Derived.Tactics2
import Derived.StillTailTactics
set_option linter.unusedVariables false
set_option linter.unusedSimpArgs false
namespace Go.Proofs.Ytcikmloklbdddaa
open Go.RowKit
open Go.Proofs.YtcikmloklbdddaaW.PrintWords (ReadsInt rd own_nil blk_frozen own_weaken own_setCell own_base own_lt blk_set add_block blk_alloc blk_below blk_far blk_grown pw_own_below add_field own_slice)
theorem cell_below' {w w1 : World} (h : Below w.heap.size w w1) {a : Addr} {v : Value} (hc : w.cell? a = some v) : w1.cell? a = some v := (h.cell (World.block_lt_of_cell? w a hc)).trans hc
/-! ### the reference's sums, and both Splits where they refuse -/
theorem sumGo_neg (most : Int) : ∀ (xs : List Int) (t : Int), (sumGo most t xs).2 = true → t ≤ most → (sumGo most t xs).1 ≤ most := by
  intro xs
  induction xs with
  | nil => intro t _ h; exact h
  | cons x r ih =>
    intro t h h1
    unfold sumGo at h ⊢
    by_cases hb : x < 0 ∨ most - t < x
    · rw [if_pos hb] at h; cases h
    · rw [if_neg hb] at h ⊢; exact ih _ h (by omega)
set_option maxHeartbeats 400000 in
theorem sums32_any (most : Int) (A : Option Addr) (c : Nat) (xs : List Int) (w : World) (h0 : 0 ≤ most) (h1 : most ≤ 1099511627776) (hr : ReadsInt w .i64 A xs.length xs)
    (hw : ∀ x ∈ xs, -9223372036854775808 ≤ x ∧ x ≤ 9223372036854775807) (b : Bool) (hres : b = decide (sumGo most 0 xs = (most, true))) :
    Calls Try.prog 32 #[.slice A xs.length c, .int .i64 most] w fun e w' => e = .returned (.bool b) ∧ w = w' := by
  have hlen := hr.2.1
  have HR : Hid (ReadsInt w .i64 A xs.length xs) := hr
  have HW : Hid (∀ x ∈ xs, -9223372036854775808 ≤ x ∧ x ≤ 9223372036854775807) := hw
  have HE : Hid (b = decide (sumGo most 0 xs = (most, true))) := hres
  clear hr hw hres
  go_enter Try.func32, Try.ntmps32
  go_wp2
  go_loop [5, 6] (fun t i => ∃ (k : Nat) (T : Int), k ≤ xs.length ∧ i = .int .i64 k ∧ t = .int .i64 (most - T) ∧ 0 ≤ T ∧ T ≤ most ∧ Hid (SumRel most xs T k)) (fun _ i => xs.length - (intOf i).toNat)
  case atStart => exact ⟨0, 0, Nat.zero_le _, rfl, by rw [Int.sub_zero], by omega, h0, rfl⟩
  case round =>
    obtain ⟨k, T, hk, rfl, rfl, hT0, hT1, HS⟩ := hrel
    by_cases hlt : k < xs.length
    · obtain ⟨ad, rfl, hc⟩ := HR.out.at_ (k : Int) (by omega) (by omega)
      obtain ⟨x, hx⟩ : ∃ x, x = rd xs (k : Int) := ⟨_, rfl⟩
      rw [← hx] at hc
      have hxb := HW.out x (by rw [hx]; unfold rd; simp [List.getD_eq_getElem?_getD, List.getElem?_eq_getElem hlt])
      have hxb1 := hxb.1
      have hxb2 := hxb.2
      have HD : Hid (xs.drop k = x :: xs.drop (k + 1)) := by rw [hx]; exact drop_at xs k hlt 0
      simp only [Int.toNat_natCast] at hc
      clear hx hxb
      have HG : Hid (sumGo most T (xs.drop k) = if x < 0 ∨ most - T < x then (0, false) else sumGo most (T + x) (xs.drop (k + 1))) := by rw [HD.out]; rfl
      by_cases hbad : x < 0 ∨ most - T < x
      · have HF : Hid (b = false) := by
          unfold Hid
          rw [HE.out, show sumGo most 0 xs = sumGo most T (xs.drop k) from HS, HG.out, if_pos hbad]
          exact decide_eq_false (fun h => by cases h)
        by_cases hneg : x < 0
        · clear hbad
          go_wp2
          go_ret
          exact ⟨ret_bool HF.out.symm, rfl⟩
        · have hbig : most - T < x := by omega
          clear hbad
          go_wp2
          go_ret
          exact ⟨ret_bool HF.out.symm, rfl⟩
      · have hneg : 0 ≤ x := by omega
        have hbig : x ≤ most - T := by omega
        have HN : Hid (SumRel most xs (T + x) (k + 1)) := by show SumRel most xs (T + x) (k + 1); unfold SumRel; rw [show sumGo most 0 xs = sumGo most T (xs.drop k) from HS, HG.out, if_neg hbad]
        clear hbad
        go_wp2
        go_round
        case rel => exact ⟨k + 1, T + x, by omega, by go_num, by congr 1; omega, by omega, by omega, HN⟩
        case measure => simp [intOf]; omega
    · have HF : Hid (b = decide (most - T = 0)) := by
        unfold Hid
        rw [HE.out, show sumGo most 0 xs = sumGo most T (xs.drop k) from HS, List.drop_of_length_le (by omega)]
        refine dec_congr ?_
        unfold sumGo
        simp
        omega
      go_wp2
      go_ret
      exact ⟨ret_bool (by rw [HF.out]; simp [Bool.beq_eq_decide_eq]), rfl⟩
set_option maxHeartbeats 400000 in
theorem split24_v (c n d l a : Int) (A1 A2 : Option Addr) (c1 c2 : Nat) (caps nums : List Int) (w : World) (hr1 : ReadsInt w .i64 A1 caps.length caps) (hr2 : ReadsInt w .i64 A2 nums.length nums) (hw1 : ∀ x ∈ caps, -9223372036854775808 ≤ x ∧ x ≤ 9223372036854775807) (hw2 : ∀ x ∈ nums, -9223372036854775808 ≤ x ∧ x ≤ 9223372036854775807) (hv : ¬ V c n d l a) :
    Calls Try.prog 24 #[bk c n d l a, .slice A1 caps.length c1, .slice A2 nums.length c2] w fun e w' => e = .returned (.tuple #[.slice none 0 0, .int .i64 1]) ∧ Below w.heap.size w w' := by
  have hlc : caps.length ≤ 9223372036854775807 := hr1.2.1
  have hln : nums.length ≤ 9223372036854775807 := hr2.2.1
  have HV : Hid (¬ V c n d l a) := hv
  clear hv hr1 hr2 hw1 hw2
  go_enter Try.func24, Try.ntmps24
  go_wp2_with (first | (go_at_call 20; refine (valid20_any _ _ _ _ _ _ false (decide_eq_false HV.out).symm).mono ?_; rintro e w' ⟨rfl, rfl⟩))
  go_ret2
  exact ⟨rfl, by repeat (first | (with_reducible exact Below.refl _ _) | (with_reducible refine Below.alloc ?_ ?hs _; (case hs => first | omega | (simp; done) | (simp; omega))) | (with_reducible refine Below.setCell ?_ ?hs _; (case hs => first | omega | (simp; done) | (simp; omega))) | (with_reducible refine below_drewN ?_ _) | (with_reducible refine Below.drew ?_) | (with_reducible refine below_then ?_ ?hs hb1; (case hs => first | omega | (simp; done) | (simp; omega))))⟩
set_option maxHeartbeats 400000 in
theorem split24_len (c n d l a : Int) (A1 A2 : Option Addr) (c1 c2 : Nat) (caps nums : List Int) (w : World) (hr1 : ReadsInt w .i64 A1 caps.length caps) (hr2 : ReadsInt w .i64 A2 nums.length nums) (hw1 : ∀ x ∈ caps, -9223372036854775808 ≤ x ∧ x ≤ 9223372036854775807) (hw2 : ∀ x ∈ nums, -9223372036854775808 ≤ x ∧ x ≤ 9223372036854775807) (hv : V c n d l a) (hl : wi caps.length 1 64 = false) :
    Calls Try.prog 24 #[bk c n d l a, .slice A1 caps.length c1, .slice A2 nums.length c2] w fun e w' => e = .returned (.tuple #[.slice none 0 0, .int .i64 1]) ∧ Below w.heap.size w w' := by
  have hlc : caps.length ≤ 9223372036854775807 := hr1.2.1
  have hln : nums.length ≤ 9223372036854775807 := hr2.2.1
  have HV : Hid (V c n d l a) := hv
  have HW : Hid (wi caps.length 1 64 = false) := hl
  clear hv hl hr1 hr2 hw1 hw2
  go_enter Try.func24, Try.ntmps24
  go_wp2_with (first | (go_at_call 20; refine (valid20_any _ _ _ _ _ _ true (decide_eq_true HV.out).symm).mono ?_; rintro e w' ⟨rfl, rfl⟩) | (go_at_call 29; refine (within_b _ _ _ _ false HW.out).mono ?_; rintro e w' ⟨rfl, rfl⟩))
  go_ret2
  exact ⟨rfl, by repeat (first | (with_reducible exact Below.refl _ _) | (with_reducible refine Below.alloc ?_ ?hs _; (case hs => first | omega | (simp; done) | (simp; omega))) | (with_reducible refine Below.setCell ?_ ?hs _; (case hs => first | omega | (simp; done) | (simp; omega))) | (with_reducible refine below_drewN ?_ _) | (with_reducible refine Below.drew ?_) | (with_reducible refine below_then ?_ ?hs hb1; (case hs => first | omega | (simp; done) | (simp; omega))))⟩
set_option maxHeartbeats 400000 in
theorem split24_ne (c n d l a : Int) (A1 A2 : Option Addr) (c1 c2 : Nat) (caps nums : List Int) (w : World) (hr1 : ReadsInt w .i64 A1 caps.length caps) (hr2 : ReadsInt w .i64 A2 nums.length nums) (hw1 : ∀ x ∈ caps, -9223372036854775808 ≤ x ∧ x ≤ 9223372036854775807) (hw2 : ∀ x ∈ nums, -9223372036854775808 ≤ x ∧ x ≤ 9223372036854775807) (hv : V c n d l a) (hl : wi caps.length 1 64 = true) (hne : nums.length ≠ caps.length) :
    Calls Try.prog 24 #[bk c n d l a, .slice A1 caps.length c1, .slice A2 nums.length c2] w fun e w' => e = .returned (.tuple #[.slice none 0 0, .int .i64 1]) ∧ Below w.heap.size w w' := by
  have hlc : caps.length ≤ 9223372036854775807 := hr1.2.1
  have hln : nums.length ≤ 9223372036854775807 := hr2.2.1
  have HV : Hid (V c n d l a) := hv
  have HW : Hid (wi caps.length 1 64 = true) := hl
  have hne' : ((nums.length : Int) != (caps.length : Int)) = true := by simp; omega
  have hne2 : decide ((nums.length : Int) = (caps.length : Int)) = false := by simp; omega
  clear hv hl hne hr1 hr2 hw1 hw2
  go_enter Try.func24, Try.ntmps24
  go_wp2_with (first | (go_at_call 20; refine (valid20_any _ _ _ _ _ _ true (decide_eq_true HV.out).symm).mono ?_; rintro e w' ⟨rfl, rfl⟩) | (go_at_call 29; refine (within_b _ _ _ _ true HW.out).mono ?_; rintro e w' ⟨rfl, rfl⟩))
  go_ret2
  exact ⟨rfl, by repeat (first | (with_reducible exact Below.refl _ _) | (with_reducible refine Below.alloc ?_ ?hs _; (case hs => first | omega | (simp; done) | (simp; omega))) | (with_reducible refine Below.setCell ?_ ?hs _; (case hs => first | omega | (simp; done) | (simp; omega))) | (with_reducible refine below_drewN ?_ _) | (with_reducible refine Below.drew ?_) | (with_reducible refine below_then ?_ ?hs hb1; (case hs => first | omega | (simp; done) | (simp; omega))))⟩
set_option maxHeartbeats 400000 in
theorem split24_s1 (c n d l a : Int) (A1 A2 : Option Addr) (c1 c2 : Nat) (caps nums : List Int) (r1 r2 : Int) (b2 : Bool) (w : World) (hr1 : ReadsInt w .i64 A1 caps.length caps) (hr2 : ReadsInt w .i64 A2 nums.length nums) (hw1 : ∀ x ∈ caps, -9223372036854775808 ≤ x ∧ x ≤ 9223372036854775807) (hw2 : ∀ x ∈ nums, -9223372036854775808 ≤ x ∧ x ≤ 9223372036854775807) (hv : V c n d l a) (hl1 : 1 ≤ caps.length) (hl2 : caps.length ≤ 64) (hlen : nums.length = caps.length) (hs1 : sumGo c 0 caps = (r1, false)) (hs2 : sumGo n 0 nums = (r2, b2)) :
    Calls Try.prog 24 #[bk c n d l a, .slice A1 caps.length c1, .slice A2 nums.length c2] w fun e w' => e = .returned (.tuple #[.slice none 0 0, .int .i64 1]) ∧ Below w.heap.size w w' := by
  have hlc : caps.length ≤ 9223372036854775807 := hr1.2.1
  have hln : nums.length ≤ 9223372036854775807 := hr2.2.1
  have hc0 : 0 ≤ c := hv.1
  have hc1 : c ≤ 1099511627776 := by have := hv.2.1; omega
  have hn0 : 0 ≤ n := hv.2.2.1
  have hn1 : n ≤ 1099511627776 := by have := hv.2.2.2.1; omega
  have HW : Hid (wi caps.length 1 64 = true) := wi_t (by omega) (by omega)
  have HV : Hid (V c n d l a) := hv
  have HR1 : Hid (ReadsInt w .i64 A1 caps.length caps) := hr1
  have HR2 : Hid (ReadsInt w .i64 A2 nums.length nums) := hr2
  have HW1 : Hid (∀ x ∈ caps, -9223372036854775808 ≤ x ∧ x ≤ 9223372036854775807) := hw1
  have HW2 : Hid (∀ x ∈ nums, -9223372036854775808 ≤ x ∧ x ≤ 9223372036854775807) := hw2
  have HB0 : Hid (Below w.heap.size w ((w.alloc (bo c n d l a)).alloc (bo c n d l a))) := ((Below.refl _ _).alloc (Nat.le_refl _) _).alloc (by simp) _
  have HS1 : Hid (sumGo c 0 caps = (r1, false)) := hs1
  have HS2 : Hid (sumGo n 0 nums = (r2, b2)) := hs2
  have hne : decide ((nums.length : Int) = (caps.length : Int)) = true := by simp [hlen]
  have hne' : ((nums.length : Int) != (caps.length : Int)) = false := by simp [hlen]
  clear hv hlen hr1 hr2 hs1 hs2 hw1 hw2
  go_enter Try.func24, Try.ntmps24
  go_wp2_with (first | (go_at_call 20; refine (valid20_any _ _ _ _ _ _ true (decide_eq_true HV.out).symm).mono ?_; rintro e w' ⟨rfl, rfl⟩) | (go_at_call 29; refine (within_b _ _ _ _ true HW.out).mono ?_; rintro e w' ⟨rfl, rfl⟩) | (go_at_call 31; (with_reducible refine (sum_any c A1 c1 caps _ hc0 hc1 (HR1.out.below HB0.out) HW1.out r1 false HS1.out).mono ?_); rintro e w' ⟨rfl, rfl⟩) | (go_at_call 31; (with_reducible refine (sum_any n A2 c2 nums _ hn0 hn1 (HR2.out.below HB0.out) HW2.out r2 b2 HS2.out).mono ?_); rintro e w' ⟨rfl, rfl⟩))
  go_ret2
  exact ⟨rfl, by repeat (first | (with_reducible exact Below.refl _ _) | (with_reducible refine Below.alloc ?_ ?hs _; (case hs => first | omega | (simp; done) | (simp; omega))) | (with_reducible refine Below.setCell ?_ ?hs _; (case hs => first | omega | (simp; done) | (simp; omega))) | (with_reducible refine below_drewN ?_ _) | (with_reducible refine Below.drew ?_) | (with_reducible refine below_then ?_ ?hs hb1; (case hs => first | omega | (simp; done) | (simp; omega))))⟩
set_option maxHeartbeats 400000 in
theorem split24_s2 (c n d l a : Int) (A1 A2 : Option Addr) (c1 c2 : Nat) (caps nums : List Int) (r1 r2 : Int) (w : World) (hr1 : ReadsInt w .i64 A1 caps.length caps) (hr2 : ReadsInt w .i64 A2 nums.length nums) (hw1 : ∀ x ∈ caps, -9223372036854775808 ≤ x ∧ x ≤ 9223372036854775807) (hw2 : ∀ x ∈ nums, -9223372036854775808 ≤ x ∧ x ≤ 9223372036854775807) (hv : V c n d l a) (hl1 : 1 ≤ caps.length) (hl2 : caps.length ≤ 64) (hlen : nums.length = caps.length) (hs1 : sumGo c 0 caps = (r1, true)) (hs2 : sumGo n 0 nums = (r2, false)) :
    Calls Try.prog 24 #[bk c n d l a, .slice A1 caps.length c1, .slice A2 nums.length c2] w fun e w' => e = .returned (.tuple #[.slice none 0 0, .int .i64 1]) ∧ Below w.heap.size w w' := by
  have hlc : caps.length ≤ 9223372036854775807 := hr1.2.1
  have hln : nums.length ≤ 9223372036854775807 := hr2.2.1
  have hc0 : 0 ≤ c := hv.1
  have hc1 : c ≤ 1099511627776 := by have := hv.2.1; omega
  have hn0 : 0 ≤ n := hv.2.2.1
  have hn1 : n ≤ 1099511627776 := by have := hv.2.2.2.1; omega
  have HW : Hid (wi caps.length 1 64 = true) := wi_t (by omega) (by omega)
  have HV : Hid (V c n d l a) := hv
  have HR1 : Hid (ReadsInt w .i64 A1 caps.length caps) := hr1
  have HR2 : Hid (ReadsInt w .i64 A2 nums.length nums) := hr2
  have HW1 : Hid (∀ x ∈ caps, -9223372036854775808 ≤ x ∧ x ≤ 9223372036854775807) := hw1
  have HW2 : Hid (∀ x ∈ nums, -9223372036854775808 ≤ x ∧ x ≤ 9223372036854775807) := hw2
  have HB0 : Hid (Below w.heap.size w ((w.alloc (bo c n d l a)).alloc (bo c n d l a))) := ((Below.refl _ _).alloc (Nat.le_refl _) _).alloc (by simp) _
  have HS1 : Hid (sumGo c 0 caps = (r1, true)) := hs1
  have HS2 : Hid (sumGo n 0 nums = (r2, false)) := hs2
  have hne : decide ((nums.length : Int) = (caps.length : Int)) = true := by simp [hlen]
  have hne' : ((nums.length : Int) != (caps.length : Int)) = false := by simp [hlen]
  clear hv hlen hr1 hr2 hs1 hs2 hw1 hw2
  go_enter Try.func24, Try.ntmps24
  go_wp2_with (first | (go_at_call 20; refine (valid20_any _ _ _ _ _ _ true (decide_eq_true HV.out).symm).mono ?_; rintro e w' ⟨rfl, rfl⟩) | (go_at_call 29; refine (within_b _ _ _ _ true HW.out).mono ?_; rintro e w' ⟨rfl, rfl⟩) | (go_at_call 31; (with_reducible refine (sum_any c A1 c1 caps _ hc0 hc1 (HR1.out.below HB0.out) HW1.out r1 true HS1.out).mono ?_); rintro e w' ⟨rfl, rfl⟩) | (go_at_call 31; (with_reducible refine (sum_any n A2 c2 nums _ hn0 hn1 (HR2.out.below HB0.out) HW2.out r2 false HS2.out).mono ?_); rintro e w' ⟨rfl, rfl⟩))
  go_ret2
  exact ⟨rfl, by repeat (first | (with_reducible exact Below.refl _ _) | (with_reducible refine Below.alloc ?_ ?hs _; (case hs => first | omega | (simp; done) | (simp; omega))) | (with_reducible refine Below.setCell ?_ ?hs _; (case hs => first | omega | (simp; done) | (simp; omega))) | (with_reducible refine below_drewN ?_ _) | (with_reducible refine Below.drew ?_) | (with_reducible refine below_then ?_ ?hs hb1; (case hs => first | omega | (simp; done) | (simp; omega))))⟩
set_option maxHeartbeats 400000 in
theorem split24_s3 (c n d l a : Int) (A1 A2 : Option Addr) (c1 c2 : Nat) (caps nums : List Int) (r1 r2 : Int) (w : World) (hr1 : ReadsInt w .i64 A1 caps.length caps) (hr2 : ReadsInt w .i64 A2 nums.length nums) (hw1 : ∀ x ∈ caps, -9223372036854775808 ≤ x ∧ x ≤ 9223372036854775807) (hw2 : ∀ x ∈ nums, -9223372036854775808 ≤ x ∧ x ≤ 9223372036854775807) (hv : V c n d l a) (hl1 : 1 ≤ caps.length) (hl2 : caps.length ≤ 64) (hlen : nums.length = caps.length) (hs1 : sumGo c 0 caps = (r1, true)) (hs2 : sumGo n 0 nums = (r2, true)) (hx : r1 ≠ c) :
    Calls Try.prog 24 #[bk c n d l a, .slice A1 caps.length c1, .slice A2 nums.length c2] w fun e w' => e = .returned (.tuple #[.slice none 0 0, .int .i64 1]) ∧ Below w.heap.size w w' := by
  have hlc : caps.length ≤ 9223372036854775807 := hr1.2.1
  have hln : nums.length ≤ 9223372036854775807 := hr2.2.1
  have hc0 : 0 ≤ c := hv.1
  have hc1 : c ≤ 1099511627776 := by have := hv.2.1; omega
  have hn0 : 0 ≤ n := hv.2.2.1
  have hn1 : n ≤ 1099511627776 := by have := hv.2.2.2.1; omega
  have HW : Hid (wi caps.length 1 64 = true) := wi_t (by omega) (by omega)
  have HV : Hid (V c n d l a) := hv
  have HR1 : Hid (ReadsInt w .i64 A1 caps.length caps) := hr1
  have HR2 : Hid (ReadsInt w .i64 A2 nums.length nums) := hr2
  have HW1 : Hid (∀ x ∈ caps, -9223372036854775808 ≤ x ∧ x ≤ 9223372036854775807) := hw1
  have HW2 : Hid (∀ x ∈ nums, -9223372036854775808 ≤ x ∧ x ≤ 9223372036854775807) := hw2
  have HB0 : Hid (Below w.heap.size w ((w.alloc (bo c n d l a)).alloc (bo c n d l a))) := ((Below.refl _ _).alloc (Nat.le_refl _) _).alloc (by simp) _
  have HS1 : Hid (sumGo c 0 caps = (r1, true)) := hs1
  have HS2 : Hid (sumGo n 0 nums = (r2, true)) := hs2
  have hne : decide ((nums.length : Int) = (caps.length : Int)) = true := by simp [hlen]
  have hne' : ((nums.length : Int) != (caps.length : Int)) = false := by simp [hlen]
  have hx1 : (r1 != c) = true := by simp [hx]
  clear hv hlen hr1 hr2 hs1 hs2 hw1 hw2
  clear hx
  go_enter Try.func24, Try.ntmps24
  go_wp2_with (first | (go_at_call 20; refine (valid20_any _ _ _ _ _ _ true (decide_eq_true HV.out).symm).mono ?_; rintro e w' ⟨rfl, rfl⟩) | (go_at_call 29; refine (within_b _ _ _ _ true HW.out).mono ?_; rintro e w' ⟨rfl, rfl⟩) | (go_at_call 31; (with_reducible refine (sum_any c A1 c1 caps _ hc0 hc1 (HR1.out.below HB0.out) HW1.out r1 true HS1.out).mono ?_); rintro e w' ⟨rfl, rfl⟩) | (go_at_call 31; (with_reducible refine (sum_any n A2 c2 nums _ hn0 hn1 (HR2.out.below HB0.out) HW2.out r2 true HS2.out).mono ?_); rintro e w' ⟨rfl, rfl⟩))
  go_ret2
  exact ⟨rfl, by repeat (first | (with_reducible exact Below.refl _ _) | (with_reducible refine Below.alloc ?_ ?hs _; (case hs => first | omega | (simp; done) | (simp; omega))) | (with_reducible refine Below.setCell ?_ ?hs _; (case hs => first | omega | (simp; done) | (simp; omega))) | (with_reducible refine below_drewN ?_ _) | (with_reducible refine Below.drew ?_) | (with_reducible refine below_then ?_ ?hs hb1; (case hs => first | omega | (simp; done) | (simp; omega))))⟩
set_option maxHeartbeats 400000 in
theorem split24_s4 (c n d l a : Int) (A1 A2 : Option Addr) (c1 c2 : Nat) (caps nums : List Int) (r2 : Int) (w : World) (hr1 : ReadsInt w .i64 A1 caps.length caps) (hr2 : ReadsInt w .i64 A2 nums.length nums) (hw1 : ∀ x ∈ caps, -9223372036854775808 ≤ x ∧ x ≤ 9223372036854775807) (hw2 : ∀ x ∈ nums, -9223372036854775808 ≤ x ∧ x ≤ 9223372036854775807) (hv : V c n d l a) (hl1 : 1 ≤ caps.length) (hl2 : caps.length ≤ 64) (hlen : nums.length = caps.length) (hs1 : sumGo c 0 caps = (c, true)) (hs2 : sumGo n 0 nums = (r2, true)) (hx : r2 ≠ n) :
    Calls Try.prog 24 #[bk c n d l a, .slice A1 caps.length c1, .slice A2 nums.length c2] w fun e w' => e = .returned (.tuple #[.slice none 0 0, .int .i64 1]) ∧ Below w.heap.size w w' := by
  have hlc : caps.length ≤ 9223372036854775807 := hr1.2.1
  have hln : nums.length ≤ 9223372036854775807 := hr2.2.1
  have hc0 : 0 ≤ c := hv.1
  have hc1 : c ≤ 1099511627776 := by have := hv.2.1; omega
  have hn0 : 0 ≤ n := hv.2.2.1
  have hn1 : n ≤ 1099511627776 := by have := hv.2.2.2.1; omega
  have HW : Hid (wi caps.length 1 64 = true) := wi_t (by omega) (by omega)
  have HV : Hid (V c n d l a) := hv
  have HR1 : Hid (ReadsInt w .i64 A1 caps.length caps) := hr1
  have HR2 : Hid (ReadsInt w .i64 A2 nums.length nums) := hr2
  have HW1 : Hid (∀ x ∈ caps, -9223372036854775808 ≤ x ∧ x ≤ 9223372036854775807) := hw1
  have HW2 : Hid (∀ x ∈ nums, -9223372036854775808 ≤ x ∧ x ≤ 9223372036854775807) := hw2
  have HB0 : Hid (Below w.heap.size w ((w.alloc (bo c n d l a)).alloc (bo c n d l a))) := ((Below.refl _ _).alloc (Nat.le_refl _) _).alloc (by simp) _
  have HS1 : Hid (sumGo c 0 caps = (c, true)) := hs1
  have HS2 : Hid (sumGo n 0 nums = (r2, true)) := hs2
  have hne : decide ((nums.length : Int) = (caps.length : Int)) = true := by simp [hlen]
  have hne' : ((nums.length : Int) != (caps.length : Int)) = false := by simp [hlen]
  have hx1 : (r2 != n) = true := by simp [hx]
  clear hv hlen hr1 hr2 hs1 hs2 hw1 hw2
  clear hx
  go_enter Try.func24, Try.ntmps24
  go_wp2_with (first | (go_at_call 20; refine (valid20_any _ _ _ _ _ _ true (decide_eq_true HV.out).symm).mono ?_; rintro e w' ⟨rfl, rfl⟩) | (go_at_call 29; refine (within_b _ _ _ _ true HW.out).mono ?_; rintro e w' ⟨rfl, rfl⟩) | (go_at_call 31; (with_reducible refine (sum_any c A1 c1 caps _ hc0 hc1 (HR1.out.below HB0.out) HW1.out c true HS1.out).mono ?_); rintro e w' ⟨rfl, rfl⟩) | (go_at_call 31; (with_reducible refine (sum_any n A2 c2 nums _ hn0 hn1 (HR2.out.below HB0.out) HW2.out r2 true HS2.out).mono ?_); rintro e w' ⟨rfl, rfl⟩))
  go_ret2
  exact ⟨rfl, by repeat (first | (with_reducible exact Below.refl _ _) | (with_reducible refine Below.alloc ?_ ?hs _; (case hs => first | omega | (simp; done) | (simp; omega))) | (with_reducible refine Below.setCell ?_ ?hs _; (case hs => first | omega | (simp; done) | (simp; omega))) | (with_reducible refine below_drewN ?_ _) | (with_reducible refine Below.drew ?_) | (with_reducible refine below_then ?_ ?hs hb1; (case hs => first | omega | (simp; done) | (simp; omega))))⟩
set_option maxHeartbeats 400000 in
theorem split26_v (c n d l a : Int) (A1 A2 : Option Addr) (c1 c2 : Nat) (caps nums : List Int) (w : World) (hr1 : ReadsInt w .i64 A1 caps.length caps) (hr2 : ReadsInt w .i64 A2 nums.length nums) (hw1 : ∀ x ∈ caps, -9223372036854775808 ≤ x ∧ x ≤ 9223372036854775807) (hw2 : ∀ x ∈ nums, -9223372036854775808 ≤ x ∧ x ≤ 9223372036854775807) (hv : ¬ V c n d l a) :
    Calls Try.prog 26 #[bk c n d l a, .slice A1 caps.length c1, .slice A2 nums.length c2] w fun e w' => e = .returned (.agg #[.slice none 0 0, .int .i64 1]) ∧ Below w.heap.size w w' := by
  have hlc : caps.length ≤ 9223372036854775807 := hr1.2.1
  have hln : nums.length ≤ 9223372036854775807 := hr2.2.1
  have HV : Hid (¬ V c n d l a) := hv
  clear hv hr1 hr2 hw1 hw2
  go_enter Try.func26, Try.ntmps26
  go_wp2_with (first | (go_at_call 21; refine (valid21_any _ _ _ _ _ _ false (decide_eq_false HV.out).symm).mono ?_; rintro e w' ⟨rfl, rfl⟩))
  refine bodyPost_ret (v := .agg #[.slice none 0 0, .int .i64 1]) (by simp [results, Try.results26, go_sem]) rfl ?_
  exact ⟨rfl, by repeat (first | (with_reducible exact Below.refl _ _) | (with_reducible refine Below.alloc ?_ ?hs _; (case hs => first | omega | (simp; done) | (simp; omega))) | (with_reducible refine Below.setCell ?_ ?hs _; (case hs => first | omega | (simp; done) | (simp; omega))) | (with_reducible refine below_drewN ?_ _) | (with_reducible refine Below.drew ?_) | (with_reducible refine below_then ?_ ?hs hb1; (case hs => first | omega | (simp; done) | (simp; omega))))⟩
set_option maxHeartbeats 400000 in
theorem split26_lo (c n d l a : Int) (A1 A2 : Option Addr) (c1 c2 : Nat) (caps nums : List Int) (w : World) (hr1 : ReadsInt w .i64 A1 caps.length caps) (hr2 : ReadsInt w .i64 A2 nums.length nums) (hw1 : ∀ x ∈ caps, -9223372036854775808 ≤ x ∧ x ≤ 9223372036854775807) (hw2 : ∀ x ∈ nums, -9223372036854775808 ≤ x ∧ x ≤ 9223372036854775807) (hv : V c n d l a) (h1 : caps.length < 1) :
    Calls Try.prog 26 #[bk c n d l a, .slice A1 caps.length c1, .slice A2 nums.length c2] w fun e w' => e = .returned (.agg #[.slice none 0 0, .int .i64 1]) ∧ Below w.heap.size w w' := by
  have hlc : caps.length ≤ 9223372036854775807 := hr1.2.1
  have hln : nums.length ≤ 9223372036854775807 := hr2.2.1
  have HV : Hid (V c n d l a) := hv
  have g1 : (caps.length : Int) < 1 := by omega
  clear hv hr1 hr2 hw1 hw2
  go_enter Try.func26, Try.ntmps26
  go_wp2_with (first | (go_at_call 21; refine (valid21_any _ _ _ _ _ _ true (decide_eq_true HV.out).symm).mono ?_; rintro e w' ⟨rfl, rfl⟩))
  refine bodyPost_ret (v := .agg #[.slice none 0 0, .int .i64 1]) (by simp [results, Try.results26, go_sem]) rfl ?_
  exact ⟨rfl, by repeat (first | (with_reducible exact Below.refl _ _) | (with_reducible refine Below.alloc ?_ ?hs _; (case hs => first | omega | (simp; done) | (simp; omega))) | (with_reducible refine Below.setCell ?_ ?hs _; (case hs => first | omega | (simp; done) | (simp; omega))) | (with_reducible refine below_drewN ?_ _) | (with_reducible refine Below.drew ?_) | (with_reducible refine below_then ?_ ?hs hb1; (case hs => first | omega | (simp; done) | (simp; omega))))⟩
set_option maxHeartbeats 400000 in
theorem split26_hi (c n d l a : Int) (A1 A2 : Option Addr) (c1 c2 : Nat) (caps nums : List Int) (w : World) (hr1 : ReadsInt w .i64 A1 caps.length caps) (hr2 : ReadsInt w .i64 A2 nums.length nums) (hw1 : ∀ x ∈ caps, -9223372036854775808 ≤ x ∧ x ≤ 9223372036854775807) (hw2 : ∀ x ∈ nums, -9223372036854775808 ≤ x ∧ x ≤ 9223372036854775807) (hv : V c n d l a) (h1 : 1 ≤ caps.length) (h2 : 64 < caps.length) :
    Calls Try.prog 26 #[bk c n d l a, .slice A1 caps.length c1, .slice A2 nums.length c2] w fun e w' => e = .returned (.agg #[.slice none 0 0, .int .i64 1]) ∧ Below w.heap.size w w' := by
  have hlc : caps.length ≤ 9223372036854775807 := hr1.2.1
  have hln : nums.length ≤ 9223372036854775807 := hr2.2.1
  have HV : Hid (V c n d l a) := hv
  have g1 : (64 : Int) < caps.length := by omega
  have g2 : (1 : Int) ≤ caps.length := by omega
  clear hv hr1 hr2 hw1 hw2
  go_enter Try.func26, Try.ntmps26
  go_wp2_with (first | (go_at_call 21; refine (valid21_any _ _ _ _ _ _ true (decide_eq_true HV.out).symm).mono ?_; rintro e w' ⟨rfl, rfl⟩))
  refine bodyPost_ret (v := .agg #[.slice none 0 0, .int .i64 1]) (by simp [results, Try.results26, go_sem]) rfl ?_
  exact ⟨rfl, by repeat (first | (with_reducible exact Below.refl _ _) | (with_reducible refine Below.alloc ?_ ?hs _; (case hs => first | omega | (simp; done) | (simp; omega))) | (with_reducible refine Below.setCell ?_ ?hs _; (case hs => first | omega | (simp; done) | (simp; omega))) | (with_reducible refine below_drewN ?_ _) | (with_reducible refine Below.drew ?_) | (with_reducible refine below_then ?_ ?hs hb1; (case hs => first | omega | (simp; done) | (simp; omega))))⟩
set_option maxHeartbeats 400000 in
theorem split26_ne (c n d l a : Int) (A1 A2 : Option Addr) (c1 c2 : Nat) (caps nums : List Int) (w : World) (hr1 : ReadsInt w .i64 A1 caps.length caps) (hr2 : ReadsInt w .i64 A2 nums.length nums) (hw1 : ∀ x ∈ caps, -9223372036854775808 ≤ x ∧ x ≤ 9223372036854775807) (hw2 : ∀ x ∈ nums, -9223372036854775808 ≤ x ∧ x ≤ 9223372036854775807) (hv : V c n d l a) (h1 : 1 ≤ caps.length) (h2 : caps.length ≤ 64) (hne : nums.length ≠ caps.length) :
    Calls Try.prog 26 #[bk c n d l a, .slice A1 caps.length c1, .slice A2 nums.length c2] w fun e w' => e = .returned (.agg #[.slice none 0 0, .int .i64 1]) ∧ Below w.heap.size w w' := by
  have hlc : caps.length ≤ 9223372036854775807 := hr1.2.1
  have hln : nums.length ≤ 9223372036854775807 := hr2.2.1
  have HV : Hid (V c n d l a) := hv
  have hne' : ((nums.length : Int) != (caps.length : Int)) = true := by simp; omega
  have hne2 : decide ((nums.length : Int) = (caps.length : Int)) = false := by simp; omega
  clear hne
  have g1 : (caps.length : Int) ≤ 64 := by omega
  have g2 : (1 : Int) ≤ caps.length := by omega
  clear hv hr1 hr2 hw1 hw2
  go_enter Try.func26, Try.ntmps26
  go_wp2_with (first | (go_at_call 21; refine (valid21_any _ _ _ _ _ _ true (decide_eq_true HV.out).symm).mono ?_; rintro e w' ⟨rfl, rfl⟩))
  refine bodyPost_ret (v := .agg #[.slice none 0 0, .int .i64 1]) (by simp [results, Try.results26, go_sem]) rfl ?_
  exact ⟨rfl, by repeat (first | (with_reducible exact Below.refl _ _) | (with_reducible refine Below.alloc ?_ ?hs _; (case hs => first | omega | (simp; done) | (simp; omega))) | (with_reducible refine Below.setCell ?_ ?hs _; (case hs => first | omega | (simp; done) | (simp; omega))) | (with_reducible refine below_drewN ?_ _) | (with_reducible refine Below.drew ?_) | (with_reducible refine below_then ?_ ?hs hb1; (case hs => first | omega | (simp; done) | (simp; omega))))⟩
set_option maxHeartbeats 400000 in
theorem split26_s1 (c n d l a : Int) (A1 A2 : Option Addr) (c1 c2 : Nat) (caps nums : List Int) (w : World) (hr1 : ReadsInt w .i64 A1 caps.length caps) (hr2 : ReadsInt w .i64 A2 nums.length nums) (hw1 : ∀ x ∈ caps, -9223372036854775808 ≤ x ∧ x ≤ 9223372036854775807) (hw2 : ∀ x ∈ nums, -9223372036854775808 ≤ x ∧ x ≤ 9223372036854775807) (hv : V c n d l a) (hl1 : 1 ≤ caps.length) (hl2 : caps.length ≤ 64) (hlen : nums.length = caps.length) (hs1 : false = decide (sumGo c 0 caps = (c, true))) :
    Calls Try.prog 26 #[bk c n d l a, .slice A1 caps.length c1, .slice A2 nums.length c2] w fun e w' => e = .returned (.agg #[.slice none 0 0, .int .i64 1]) ∧ Below w.heap.size w w' := by
  have hlc : caps.length ≤ 9223372036854775807 := hr1.2.1
  have hln : nums.length ≤ 9223372036854775807 := hr2.2.1
  have hc0 : 0 ≤ c := hv.1
  have hc1 : c ≤ 1099511627776 := by have := hv.2.1; omega
  have hn0 : 0 ≤ n := hv.2.2.1
  have hn1 : n ≤ 1099511627776 := by have := hv.2.2.2.1; omega
  have HV : Hid (V c n d l a) := hv
  have HR1 : Hid (ReadsInt w .i64 A1 caps.length caps) := hr1
  have HR2 : Hid (ReadsInt w .i64 A2 nums.length nums) := hr2
  have HW1 : Hid (∀ x ∈ caps, -9223372036854775808 ≤ x ∧ x ≤ 9223372036854775807) := hw1
  have HW2 : Hid (∀ x ∈ nums, -9223372036854775808 ≤ x ∧ x ≤ 9223372036854775807) := hw2
  have HB0 : Hid (Below w.heap.size w (((w.alloc (bo c n d l a)).alloc (.cells #[.slice none 0 0, .int .i64 0] 56)).alloc (bo c n d l a))) := (((Below.refl _ _).alloc (Nat.le_refl _) _).alloc (by simp) _).alloc (by simp; omega) _
  have HS1 : Hid (false = decide (sumGo c 0 caps = (c, true))) := hs1
  have hne : decide ((nums.length : Int) = (caps.length : Int)) = true := by simp [hlen]
  have hne' : ((nums.length : Int) != (caps.length : Int)) = false := by simp [hlen]
  have g1 : (caps.length : Int) ≤ 64 := by omega
  have g2 : (1 : Int) ≤ caps.length := by omega
  clear hv hlen hr1 hr2 hs1 hw1 hw2
  go_enter Try.func26, Try.ntmps26
  go_wp2_with (first | (go_at_call 21; refine (valid21_any _ _ _ _ _ _ true (decide_eq_true HV.out).symm).mono ?_; rintro e w' ⟨rfl, rfl⟩) | (go_at_call 32; (with_reducible refine (sums32_any c A1 c1 caps _ hc0 hc1 (HR1.out.below HB0.out) HW1.out false HS1.out).mono ?_); rintro e w' ⟨rfl, rfl⟩))
  refine bodyPost_ret (v := .agg #[.slice none 0 0, .int .i64 1]) (by simp [results, Try.results26, go_sem]) rfl ?_
  exact ⟨rfl, by repeat (first | (with_reducible exact Below.refl _ _) | (with_reducible refine Below.alloc ?_ ?hs _; (case hs => first | omega | (simp; done) | (simp; omega))) | (with_reducible refine Below.setCell ?_ ?hs _; (case hs => first | omega | (simp; done) | (simp; omega))) | (with_reducible refine below_drewN ?_ _) | (with_reducible refine Below.drew ?_) | (with_reducible refine below_then ?_ ?hs hb1; (case hs => first | omega | (simp; done) | (simp; omega))))⟩
set_option maxHeartbeats 400000 in
theorem split26_s2 (c n d l a : Int) (A1 A2 : Option Addr) (c1 c2 : Nat) (caps nums : List Int) (w : World) (hr1 : ReadsInt w .i64 A1 caps.length caps) (hr2 : ReadsInt w .i64 A2 nums.length nums) (hw1 : ∀ x ∈ caps, -9223372036854775808 ≤ x ∧ x ≤ 9223372036854775807) (hw2 : ∀ x ∈ nums, -9223372036854775808 ≤ x ∧ x ≤ 9223372036854775807) (hv : V c n d l a) (hl1 : 1 ≤ caps.length) (hl2 : caps.length ≤ 64) (hlen : nums.length = caps.length) (hs1 : true = decide (sumGo c 0 caps = (c, true))) (hs2 : false = decide (sumGo n 0 nums = (n, true))) :
    Calls Try.prog 26 #[bk c n d l a, .slice A1 caps.length c1, .slice A2 nums.length c2] w fun e w' => e = .returned (.agg #[.slice none 0 0, .int .i64 1]) ∧ Below w.heap.size w w' := by
  have hlc : caps.length ≤ 9223372036854775807 := hr1.2.1
  have hln : nums.length ≤ 9223372036854775807 := hr2.2.1
  have hc0 : 0 ≤ c := hv.1
  have hc1 : c ≤ 1099511627776 := by have := hv.2.1; omega
  have hn0 : 0 ≤ n := hv.2.2.1
  have hn1 : n ≤ 1099511627776 := by have := hv.2.2.2.1; omega
  have HV : Hid (V c n d l a) := hv
  have HR1 : Hid (ReadsInt w .i64 A1 caps.length caps) := hr1
  have HR2 : Hid (ReadsInt w .i64 A2 nums.length nums) := hr2
  have HW1 : Hid (∀ x ∈ caps, -9223372036854775808 ≤ x ∧ x ≤ 9223372036854775807) := hw1
  have HW2 : Hid (∀ x ∈ nums, -9223372036854775808 ≤ x ∧ x ≤ 9223372036854775807) := hw2
  have HB0 : Hid (Below w.heap.size w (((w.alloc (bo c n d l a)).alloc (.cells #[.slice none 0 0, .int .i64 0] 56)).alloc (bo c n d l a))) := (((Below.refl _ _).alloc (Nat.le_refl _) _).alloc (by simp) _).alloc (by simp; omega) _
  have HS1 : Hid (true = decide (sumGo c 0 caps = (c, true))) := hs1
  have HS2 : Hid (false = decide (sumGo n 0 nums = (n, true))) := hs2
  have hne : decide ((nums.length : Int) = (caps.length : Int)) = true := by simp [hlen]
  have hne' : ((nums.length : Int) != (caps.length : Int)) = false := by simp [hlen]
  have g1 : (caps.length : Int) ≤ 64 := by omega
  have g2 : (1 : Int) ≤ caps.length := by omega
  clear hv hlen hr1 hr2 hs1 hw1 hw2
  clear hs2
  go_enter Try.func26, Try.ntmps26
  go_wp2_with (first | (go_at_call 21; refine (valid21_any _ _ _ _ _ _ true (decide_eq_true HV.out).symm).mono ?_; rintro e w' ⟨rfl, rfl⟩) | (go_at_call 32; (with_reducible refine (sums32_any c A1 c1 caps _ hc0 hc1 (HR1.out.below HB0.out) HW1.out true HS1.out).mono ?_); rintro e w' ⟨rfl, rfl⟩) | (go_at_call 32; (with_reducible refine (sums32_any n A2 c2 nums _ hn0 hn1 (HR2.out.below HB0.out) HW2.out false HS2.out).mono ?_); rintro e w' ⟨rfl, rfl⟩))
  refine bodyPost_ret (v := .agg #[.slice none 0 0, .int .i64 1]) (by simp [results, Try.results26, go_sem]) rfl ?_
  exact ⟨rfl, by repeat (first | (with_reducible exact Below.refl _ _) | (with_reducible refine Below.alloc ?_ ?hs _; (case hs => first | omega | (simp; done) | (simp; omega))) | (with_reducible refine Below.setCell ?_ ?hs _; (case hs => first | omega | (simp; done) | (simp; omega))) | (with_reducible refine below_drewN ?_ _) | (with_reducible refine Below.drew ?_) | (with_reducible refine below_then ?_ ?hs hb1; (case hs => first | omega | (simp; done) | (simp; omega))))⟩
set_option maxHeartbeats 1000000 in
theorem refsplit_ok (c n d l a : Int) (A1 A2 : Option Addr) (c1 c2 : Nat) (caps nums : List Int) (w : World) (hv : V c n d l a)
    (hr1 : ReadsInt w .i64 A1 caps.length caps) (hr2 : ReadsInt w .i64 A2 nums.length nums)
    (hlen1 : 1 ≤ caps.length) (hlen2 : caps.length ≤ 64) (hlen : nums.length = caps.length) (hs1 : sumGo c 0 caps = (c, true)) (hs2 : sumGo n 0 nums = (n, true))
    (hw1 : ∀ x ∈ caps, -9223372036854775808 ≤ x ∧ x ≤ 9223372036854775807) (hw2 : ∀ x ∈ nums, -9223372036854775808 ≤ x ∧ x ≤ 9223372036854775807) :
    Calls Try.prog 26 #[bk c n d l a, .slice A1 caps.length c1, .slice A2 nums.length c2] w fun e w' => ∃ v, e = .returned (.agg #[v, .int .i64 0]) ∧ w'.ownsRow (w.heap.size + 2) 23 5 v caps.length (cellsB (splitGo d a l caps nums)) ∧ Below w.heap.size w w' := by
  have hcb := sum_bd c caps 0 (by omega) hv.1 (by rw [hs1])
  have hnb := sum_bd n nums 0 (by omega) hv.2.2.1 (by rw [hs2])
  have hcap : c ≤ 1073741824 := hv.2.1
  have hc0 : 0 ≤ c := hv.1
  have hn0 : 0 ≤ n := hv.2.2.1
  have hn1 : n ≤ 1048576 := hv.2.2.2.1
  have hd0 : 1 ≤ d := hv.2.2.2.2.1
  have hd1 : d ≤ 1048576 := hv.2.2.2.2.2.1
  have hl0 : 0 ≤ l := hv.2.2.2.2.2.2.1
  have hcd := cd_bd hc0 hcap (by omega : 0 ≤ d) hd1
  have hl1 : l ≤ 1125899906842624 := by have := hv.2.2.2.2.2.2.2.1; omega
  have HV : Hid (V c n d l a) := hv
  have HE : Hid (nums.length = caps.length) := hlen
  have HR1 : Hid (ReadsInt w .i64 A1 caps.length caps) := hr1
  have HR2 : Hid (ReadsInt w .i64 A2 nums.length nums) := hr2
  have HS1 : Hid (true = decide (sumGo c 0 caps = (c, true))) := (decide_eq_true hs1).symm
  have HS2 : Hid (true = decide (sumGo n 0 nums = (n, true))) := (decide_eq_true hs2).symm
  have hl1' : (1 : Int) ≤ caps.length := by omega
  have hl2' : (caps.length : Int) ≤ 64 := by omega
  have HW1 : Hid (∀ x ∈ caps, -9223372036854775808 ≤ x ∧ x ≤ 9223372036854775807) := hw1
  have HW2 : Hid (∀ x ∈ nums, -9223372036854775808 ≤ x ∧ x ≤ 9223372036854775807) := hw2
  have HCB : Hid (∀ x ∈ caps, 0 ≤ x ∧ x ≤ c) := hcb
  have HNB : Hid (∀ x ∈ nums, 0 ≤ x ∧ x ≤ n) := hnb
  have hne : decide ((nums.length : Int) = (caps.length : Int)) = true := by simp [hlen]
  have hne' : ((nums.length : Int) != (caps.length : Int)) = false := by simp [hlen]
  have hbel : Below w.heap.size w (((w.alloc (bo c n d l a)).alloc (.cells #[.slice none 0 0, .int .i64 0] 56)).alloc (bo c n d l a)) := (((Below.refl _ _).alloc (Nat.le_refl _) _).alloc (by simp) _).alloc (by simp; omega) _
  have HB0 : Hid (Below w.heap.size w (((w.alloc (bo c n d l a)).alloc (.cells #[.slice none 0 0, .int .i64 0] 56)).alloc (bo c n d l a))) := hbel
  clear hv hlen hr1 hr2 hs1 hs2 hw1 hw2 hcb hnb hbel hcd
  obtain ⟨i0, hi, hz0, hz1, hz2⟩ := info_parts info23
  go_enter Try.func26, Try.ntmps26
  go_wp2_with (first | (go_at_call 21; refine (valid21_any _ _ _ _ _ _ true (decide_eq_true HV.out).symm).mono ?_; rintro e w' ⟨rfl, rfl⟩) | (go_at_call 32; (with_reducible refine (sums32_any c A1 c1 caps _ (by omega) (by omega) (HR1.out.below HB0.out) HW1.out true HS1.out).mono ?_); rintro e w' ⟨rfl, rfl⟩) | (go_at_call 32; (with_reducible refine (sums32_any n A2 c2 nums _ (by omega) (by omega) (HR2.out.below HB0.out) HW2.out true HS2.out).mono ?_); rintro e w' ⟨rfl, rfl⟩))
  go_loopw [7, 8, 9] (fun u v i wr => ∃ (k : Nat) (q : Int) (out : List BK), k ≤ caps.length ∧ i = .int .i64 k ∧ u = .int .i64 q ∧ 0 ≤ q ∧ q ≤ 1125899906842624 ∧ Hid (SplitRel d a l caps nums k q out) ∧ Hid (Below w.heap.size w wr) ∧ Hid (wr.heap[w.heap.size]? = some (.cells #[.int .i64 c, .int .i64 n, .int .i64 d, .int .i64 l, .int .i64 a] 23 (0, 0))) ∧ Hid (wr.heap[w.heap.size + 1]? = some (.cells #[.slice none 0 0, .int .i64 0] 56 (0, 0))) ∧ Hid (wr.ownsRow (w.heap.size + 2) 23 5 v k (cellsB out))) (fun _ _ i _ => caps.length - (intOf i).toNat)
  case atStart =>
    exact ⟨0, l, [], Nat.zero_le _, rfl, rfl, hl0, hl1, ⟨rfl, rfl⟩, HB0, blk_alloc (blk_alloc (heap_alloc_new _ _) _) _, blk_alloc (heap2 _ _ _) _, own_nil _ _ _ _⟩
  case round =>
    obtain ⟨k, q, out, hk, rfl, rfl, hq0, hq1, HS, HB, HBK, HRES, HO⟩ := hrel
    have hwrlt : w.heap.size + 1 < wr.heap.size := (Array.getElem?_eq_some_iff.1 HRES.out).1
    by_cases hlt : k < caps.length
    · obtain ⟨ad1, rfl, hc1⟩ := (HR1.out.below HB.out).at_ (k : Int) (by omega) (by omega)
      obtain ⟨ad2, rfl, hc2⟩ := (HR2.out.below HB.out).at_ (k : Int) (by omega) (by rw [HE.out]; omega)
      obtain ⟨x, hx⟩ : ∃ x, x = rd caps (k : Int) := ⟨_, rfl⟩
      obtain ⟨y, hy⟩ : ∃ y, y = rd nums (k : Int) := ⟨_, rfl⟩
      rw [← hx] at hc1
      rw [← hy] at hc2
      have hxb := HCB.out x (by rw [hx]; exact rd_mem hlt)
      have hx0 := hxb.1
      have hx1 := hxb.2
      have hxd := cd_bd hx0 (by omega) (by omega : 0 ≤ d) hd1
      have hxd0 := hxd.1
      have hxd1 := hxd.2
      simp only [Int.toNat_natCast] at hc1 hc2
      have HX : Hid (x = rd caps (k : Int)) := hx
      have HY : Hid (y = rd nums (k : Int)) := hy
      have hb2 : wr.cell? ⟨w.heap.size, 2, none⟩ = some (.int .i64 d) := (cell_of_row wr w.heap.size 2 _ _ _ HBK.out).trans rfl
      have hb4 : wr.cell? ⟨w.heap.size, 4, none⟩ = some (.int .i64 a) := (cell_of_row wr w.heap.size 4 _ _ _ HBK.out).trans rfl
      have hk64 : (k : Int) < (caps.length : Int) := by omega
      have hk65 : (k : Int) < (nums.length : Int) := by rw [HE.out]; exact hk64
      have hk0 : (0 : Int) ≤ (k : Int) := by omega
      have had1 : ad1.block < w.heap.size := by
        obtain ⟨ad3, e3, h3⟩ := HR1.out.at_ (k : Int) (by omega) (by omega)
        injection e3 with e3
        subst e3
        have := World.block_lt_of_cell? w _ h3
        rwa [add_block] at this
      have had2 : ad2.block < w.heap.size := by
        obtain ⟨ad3, e3, h3⟩ := HR2.out.at_ (k : Int) (by omega) (by rw [HE.out]; omega)
        injection e3 with e3
        subst e3
        have := World.block_lt_of_cell? w _ h3
        rwa [add_block] at this
      have hnb : some w.heap.size ≠ u8.ownBlock := fun e => by have h9 : w.heap.size + 2 ≤ w.heap.size := own_base HO.out _ e.symm; omega
      have hnr : some (w.heap.size + 1) ≠ u8.ownBlock := fun e => by have h9 : w.heap.size + 2 ≤ w.heap.size + 1 := own_base HO.out _ e.symm; omega
      have hna1 : some (ad1.add k).block ≠ u8.ownBlock := fun e => by rw [add_block] at e; have h9 : w.heap.size + 2 ≤ ad1.block := own_base HO.out _ e.symm; omega
      have hna2 : some (ad2.add k).block ≠ u8.ownBlock := fun e => by rw [add_block] at e; have h9 : w.heap.size + 2 ≤ ad2.block := own_base HO.out _ e.symm; omega
      have hmx : k + 1 ≤ maxLen := by unfold maxLen; omega
      have hby : (k + 1) * 40 ≤ 140737488355328 := by omega
      have hbs : ∀ o : Obj, w.heap.size + 2 ≤ (wr.alloc o).heap.size := fun o => by simp; omega
      have hwxd : IntKind.i64.wrap (x * d) = x * d := IntWalk.i64_in _ (by omega)
      clear hx hy hxb hxd
      have hsp : x * d < q ∨ q ≤ x * d := by omega
      rcases hsp with hsp | hsp
      · have hmin : x * d < q := hsp
        go_wp2
        go_quiet (fail)
        clear hwxd
        go_wp2
        generalize hWe : wr.drewN _ = W
        have hwW : wr.heap = W.heap := by rw [← hWe]; rfl
        have hcW : ∀ p v, wr.cell? p = some v → W.cell? p = some v := by intro p v h; rw [← hWe]; exact h
        have HBW : Hid (Below w.heap.size w W) := by rw [← hWe]; exact below_drewN HB.out _
        have HBKW : Hid (W.heap[w.heap.size]? = some (.cells #[.int .i64 c, .int .i64 n, .int .i64 d, .int .i64 l, .int .i64 a] 23 (0, 0))) := by rw [← hwW]; exact HBK.out
        have HRESW : Hid (W.heap[w.heap.size + 1]? = some (.cells #[.slice none 0 0, .int .i64 0] 56 (0, 0))) := by rw [← hwW]; exact HRES.out
        have HOW : Hid (W.ownsRow (w.heap.size + 2) 23 5 u8 k (cellsB out)) := by rw [← hWe]; exact HO.out
        have gc1 := hcW _ _ hc1
        have gc2 := hcW _ _ hc2
        have gb2 := hcW _ _ hb2
        have gb4 := hcW _ _ hb4
        have hWlt : w.heap.size + 1 < W.heap.size := (Array.getElem?_eq_some_iff.1 HRESW.out).1
        have hbsW : ∀ o : Obj, w.heap.size + 2 ≤ (W.alloc o).heap.size := fun o => by simp; omega
        clear hWe hwW hcW hc1 hc2 hb2 hb4 hbs
        have hone : ∀ u ∈ [Value.int .i64 x, .int .i64 y, .int .i64 d, .int .i64 (x * d), .int .i64 a], u.oneCell' = true := by simp [Value.oneCell']
        go_region_held3 (fun w' => w'.cell? (ad1.add k) = some (.int .i64 x) ∧ w'.cell? (ad2.add k) = some (.int .i64 y) ∧ w'.cell? ⟨w.heap.size, 2, none⟩ = some (.int .i64 d) ∧ w'.cell? ⟨w.heap.size, 4, none⟩ = some (.int .i64 a)) (go_keep)
          ((refine step_append_lies _ (by rfl) _ _ _ (by rfl) (w.heap.size + 2) 23 i0 _ 5 40 Try.underlying51 hi hz0 hz1 hz2 rfl (by decide) _ k (cellsB out) (by rfl) (HOW.out.alloc _) ⟨W.heap.size, 0, none⟩ 1 1 [.int .i64 x, .int .i64 y, .int .i64 d, .int .i64 (x * d), .int .i64 a] (by rfl) rfl (World.news_of_block (cs := #[.int .i64 x, .int .i64 y, .int .i64 d, .int .i64 (x * d), .int .i64 a]) (t := 23) (fr := (0, 0)) (heap_alloc_new _ _)) hone (by decide) hmx hby (hbsW _) (W.heap.size + 1) (by simp) ?_; intro g cap w1 hown1 hgrow hat hlt1; have hd2' := far_cell hgrow gb2 hnb; have hd4' := far_cell hgrow gb4 hnb; have hx' := far_cell hgrow gc1 hna1; have hy' := far_cell hgrow gc2 hna2))
        go_wp2
        go_roundw
        case rel =>
          have hbl : w1.heap[w.heap.size]? = some (.cells #[.int .i64 c, .int .i64 n, .int .i64 d, .int .i64 l, .int .i64 a] 23 (0, 0)) := (hgrow.block w.heap.size (by simp; omega) hnb).trans ((Below.heap_alloc W _ w.heap.size (by omega)).trans HBKW.out)
          have hbr : w1.heap[w.heap.size + 1]? = some (.cells #[.slice none 0 0, .int .i64 0] 56 (0, 0)) := (hgrow.block (w.heap.size + 1) (by simp; omega) hnr).trans ((Below.heap_alloc W _ (w.heap.size + 1) (by omega)).trans HRESW.out)
          have hbe : Below w.heap.size w w1 := ((HBW.out.alloc (by omega) _).drew).grown hgrow (by simp; omega) (fun j e => by have h9 : w.heap.size + 2 ≤ j := own_base HO.out _ e; omega)
          exact ⟨k + 1, q - x * d, out ++ [(⟨x, y, d, x * d, a⟩ : BK)], by omega, by go_num, rfl, by omega, by omega, show SplitRel d a l caps nums (k + 1) (q - x * d) (out ++ [⟨x, y, d, x * d, a⟩]) from split_step HS.out (by omega) (by rw [HE.out]; omega) HX.out HY.out (by unfold mn2; split <;> omega), hbe, hbl, hbr, by rw [cellsB_snoc]; exact hown1⟩
        case measure => simp [intOf]; omega
      · have hmin : q ≤ x * d := hsp
        go_wp2
        go_quiet (fail)
        clear hwxd
        go_wp2
        generalize hWe : wr.drewN _ = W
        have hwW : wr.heap = W.heap := by rw [← hWe]; rfl
        have hcW : ∀ p v, wr.cell? p = some v → W.cell? p = some v := by intro p v h; rw [← hWe]; exact h
        have HBW : Hid (Below w.heap.size w W) := by rw [← hWe]; exact below_drewN HB.out _
        have HBKW : Hid (W.heap[w.heap.size]? = some (.cells #[.int .i64 c, .int .i64 n, .int .i64 d, .int .i64 l, .int .i64 a] 23 (0, 0))) := by rw [← hwW]; exact HBK.out
        have HRESW : Hid (W.heap[w.heap.size + 1]? = some (.cells #[.slice none 0 0, .int .i64 0] 56 (0, 0))) := by rw [← hwW]; exact HRES.out
        have HOW : Hid (W.ownsRow (w.heap.size + 2) 23 5 u8 k (cellsB out)) := by rw [← hWe]; exact HO.out
        have gc1 := hcW _ _ hc1
        have gc2 := hcW _ _ hc2
        have gb2 := hcW _ _ hb2
        have gb4 := hcW _ _ hb4
        have hWlt : w.heap.size + 1 < W.heap.size := (Array.getElem?_eq_some_iff.1 HRESW.out).1
        have hbsW : ∀ o : Obj, w.heap.size + 2 ≤ (W.alloc o).heap.size := fun o => by simp; omega
        clear hWe hwW hcW hc1 hc2 hb2 hb4 hbs
        have hone : ∀ u ∈ [Value.int .i64 x, .int .i64 y, .int .i64 d, .int .i64 (q), .int .i64 a], u.oneCell' = true := by simp [Value.oneCell']
        go_region_held3 (fun w' => w'.cell? (ad1.add k) = some (.int .i64 x) ∧ w'.cell? (ad2.add k) = some (.int .i64 y) ∧ w'.cell? ⟨w.heap.size, 2, none⟩ = some (.int .i64 d) ∧ w'.cell? ⟨w.heap.size, 4, none⟩ = some (.int .i64 a)) (go_keep)
          ((refine step_append_lies _ (by rfl) _ _ _ (by rfl) (w.heap.size + 2) 23 i0 _ 5 40 Try.underlying51 hi hz0 hz1 hz2 rfl (by decide) _ k (cellsB out) (by rfl) (HOW.out.alloc _) ⟨W.heap.size, 0, none⟩ 1 1 [.int .i64 x, .int .i64 y, .int .i64 d, .int .i64 (q), .int .i64 a] (by rfl) rfl (World.news_of_block (cs := #[.int .i64 x, .int .i64 y, .int .i64 d, .int .i64 (q), .int .i64 a]) (t := 23) (fr := (0, 0)) (heap_alloc_new _ _)) hone (by decide) hmx hby (hbsW _) (W.heap.size + 1) (by simp) ?_; intro g cap w1 hown1 hgrow hat hlt1; have hd2' := far_cell hgrow gb2 hnb; have hd4' := far_cell hgrow gb4 hnb; have hx' := far_cell hgrow gc1 hna1; have hy' := far_cell hgrow gc2 hna2))
        go_wp2
        go_roundw
        case rel =>
          have hbl : w1.heap[w.heap.size]? = some (.cells #[.int .i64 c, .int .i64 n, .int .i64 d, .int .i64 l, .int .i64 a] 23 (0, 0)) := (hgrow.block w.heap.size (by simp; omega) hnb).trans ((Below.heap_alloc W _ w.heap.size (by omega)).trans HBKW.out)
          have hbr : w1.heap[w.heap.size + 1]? = some (.cells #[.slice none 0 0, .int .i64 0] 56 (0, 0)) := (hgrow.block (w.heap.size + 1) (by simp; omega) hnr).trans ((Below.heap_alloc W _ (w.heap.size + 1) (by omega)).trans HRESW.out)
          have hbe : Below w.heap.size w w1 := ((HBW.out.alloc (by omega) _).drew).grown hgrow (by simp; omega) (fun j e => by have h9 : w.heap.size + 2 ≤ j := own_base HO.out _ e; omega)
          exact ⟨k + 1, 0, out ++ [(⟨x, y, d, q, a⟩ : BK)], by omega, by go_num, rfl, by omega, by omega, show SplitRel d a l caps nums (k + 1) (0) (out ++ [⟨x, y, d, q, a⟩]) from (Int.sub_self q) ▸ split_step (lv := q) HS.out (by omega) (by rw [HE.out]; omega) HX.out HY.out (by unfold mn2; split <;> omega), hbe, hbl, hbr, by rw [cellsB_snoc]; exact hown1⟩
        case measure => simp [intOf]; omega
    · have hk2 : k = caps.length := by omega
      have HF : Hid (splitGo d a l caps nums = out) := by
        rw [HS.out.1, List.drop_of_length_le (by omega : caps.length ≤ k)]
        unfold Hid; unfold splitGo; simp
      have hr0 : wr.cell? ⟨w.heap.size + 1, 0, none⟩ = some (.slice none 0 0) := (cell_of_row wr (w.heap.size + 1) 0 _ _ _ HRES.out).trans rfl
      have hr1' : wr.cell? ⟨w.heap.size + 1, 1, none⟩ = some (.int .i64 0) := (cell_of_row wr (w.heap.size + 1) 1 _ _ _ HRES.out).trans rfl
      have hrf : ∀ i, wr.frozen? ⟨w.heap.size + 1, i, none⟩ = false := fun i => blk_frozen HRES.out i
      obtain ⟨A9, c9, rfl⟩ := own_slice HO.out
      have HK2 : Hid (k = caps.length) := hk2
      clear hk2
      go_wp2
      refine bodyPost_ret (v := .agg #[.slice A9 k c9, .int .i64 0]) (by simp [results, Try.results26, go_sem, hr0, hr1']) rfl ?_
      refine ⟨_, rfl, ?_, ?_⟩
      · rw [HF.out, ← HK2.out]
        refine own_setCell (own_setCell HO.out ?_ _) ?_ _
        all_goals exact fun e => by have h9 : w.heap.size + 2 ≤ w.heap.size + 1 := own_base HO.out _ e.symm; omega
      · exact (HB.out.setCell (p := ⟨w.heap.size + 1, 0, none⟩) (by show w.heap.size ≤ w.heap.size + 1; omega) _).setCell (p := ⟨w.heap.size + 1, 1, none⟩) (by show w.heap.size ≤ w.heap.size + 1; omega) _

end Go.Proofs.Ytcikmloklbdddaa
