/- The law BucketPartsKeepTheRate, walked at all its inputs. Condition: the lists can be read. -/
import Derived.Test.YtcikmloklbdddaaWWords
import Derived.Test.YtcikmloklbdddaaLaw8
import Derived.Deep.DeepCutAuto
import Derived.Tactics2
import Derived.StillTailTactics
set_option linter.unusedVariables false
set_option linter.unusedSimpArgs false
namespace Go.Proofs.Ytcikmloklbdddaa
open Go.RowKit
open Go.Proofs.YtcikmloklbdddaaW.PrintWords (ReadsInt rd own_nil blk_frozen own_weaken own_setCell own_base own_lt blk_set add_block blk_alloc blk_below blk_far blk_grown pw_own_below add_field own_slice blk_cell)
/-! ### Split of both sides, in one -/
theorem splitGo_len (d a : Int) : ∀ (l : Int) (cs ns : List Int), ns.length = cs.length → (splitGo d a l cs ns).length = cs.length := by
  intro l cs
  induction cs generalizing l with
  | nil => intro ns _; cases ns <;> rfl
  | cons c cs ih =>
    intro ns h
    cases ns with
    | nil => simp at h
    | cons n ns => simp only [splitGo, List.length_cons]; rw [ih _ _ (by simpa using h)]
def splitS (c n d l a : Int) (caps nums : List Int) : List BK × Int :=
  if V c n d l a ∧ 1 ≤ caps.length ∧ caps.length ≤ 64 ∧ nums.length = caps.length ∧ sumGo c 0 caps = (c, true) ∧ sumGo n 0 nums = (n, true) then (splitGo d a l caps nums, 0) else ([], 1)
theorem rdB_nil (w : World) : RdB w none [] := ⟨by decide, fun j hj => absurd hj (Nat.not_lt_zero _)⟩
theorem split24_all (c n d l a : Int) (A1 A2 : Option Addr) (c1 c2 : Nat) (caps nums : List Int) (w : World)
    (hr1 : ReadsInt w .i64 A1 caps.length caps) (hr2 : ReadsInt w .i64 A2 nums.length nums)
    (hw1 : ∀ x ∈ caps, -9223372036854775808 ≤ x ∧ x ≤ 9223372036854775807) (hw2 : ∀ x ∈ nums, -9223372036854775808 ≤ x ∧ x ≤ 9223372036854775807)
    (L : List BK) (E : Int) (hres : splitS c n d l a caps nums = (L, E)) :
    Calls Try.prog 24 #[bk c n d l a, .slice A1 caps.length c1, .slice A2 nums.length c2] w fun e w' => ∃ A cp, e = .returned (.tuple #[.slice A L.length cp, .int .i64 E]) ∧ RdB w' A L ∧ Below w.heap.size w w' := by
  have bad : splitS c n d l a caps nums = ([], 1) → Calls Try.prog 24 #[bk c n d l a, .slice A1 caps.length c1, .slice A2 nums.length c2] w (fun e w' => e = .returned (.tuple #[.slice none 0 0, .int .i64 1]) ∧ Below w.heap.size w w') →
      Calls Try.prog 24 #[bk c n d l a, .slice A1 caps.length c1, .slice A2 nums.length c2] w fun e w' => ∃ A cp, e = .returned (.tuple #[.slice A L.length cp, .int .i64 E]) ∧ RdB w' A L ∧ Below w.heap.size w w' := by
    intro hS hC
    refine hC.mono ?_
    rintro e w' ⟨rfl, hB⟩
    rw [hS] at hres
    injection hres with h1 h2
    subst h1 h2
    exact ⟨none, 0, rfl, rdB_nil _, hB⟩
  by_cases hv : V c n d l a
  · by_cases hl : 1 ≤ caps.length ∧ caps.length ≤ 64
    · obtain ⟨hl1, hl2⟩ := hl
      by_cases hn : nums.length = caps.length
      · obtain ⟨⟨r1, b1⟩, hs1⟩ : ∃ r, sumGo c 0 caps = r := ⟨_, rfl⟩
        obtain ⟨⟨r2, b2⟩, hs2⟩ : ∃ r, sumGo n 0 nums = r := ⟨_, rfl⟩
        cases b1 with
        | false => exact bad (if_neg (fun h => by have := h.2.2.2.2.1; rw [hs1] at this; injection this with _ h9; cases h9)) (split24_s1 c n d l a A1 A2 c1 c2 caps nums r1 r2 b2 w hr1 hr2 hw1 hw2 hv hl1 hl2 hn hs1 hs2)
        | true =>
          cases b2 with
          | false => exact bad (if_neg (fun h => by have := h.2.2.2.2.2; rw [hs2] at this; injection this with _ h9; cases h9)) (split24_s2 c n d l a A1 A2 c1 c2 caps nums r1 r2 w hr1 hr2 hw1 hw2 hv hl1 hl2 hn hs1 hs2)
          | true =>
            by_cases hx : r1 = c
            · subst hx
              by_cases hy : r2 = n
              · subst hy
                rw [show splitS r1 r2 d l a caps nums = (splitGo d a l caps nums, 0) from if_pos ⟨hv, hl1, hl2, hn, hs1, hs2⟩] at hres
                injection hres with h1 h2
                subst h1 h2
                refine (split_ok r1 r2 d l a A1 A2 c1 c2 caps nums w hv hr1 hr2 hl1 hl2 hn hs1 hs2 hw1 hw2).mono ?_
                rintro e w' ⟨v, rfl, ho, hB⟩
                obtain ⟨A, cp, rfl, hR⟩ := own_rdb ho (splitGo_len d a l caps nums hn).symm
                exact ⟨A, cp, rfl, hR, hB⟩
              · exact bad (if_neg (fun h => by have := h.2.2.2.2.2; rw [hs2] at this; injection this with h9 _; exact hy h9)) (split24_s4 r1 n d l a A1 A2 c1 c2 caps nums r2 w hr1 hr2 hw1 hw2 hv hl1 hl2 hn hs1 hs2 hy)
            · exact bad (if_neg (fun h => by have := h.2.2.2.2.1; rw [hs1] at this; injection this with h9 _; exact hx h9)) (split24_s3 c n d l a A1 A2 c1 c2 caps nums r1 r2 w hr1 hr2 hw1 hw2 hv hl1 hl2 hn hs1 hs2 hx)
      · exact bad (if_neg (fun h => hn h.2.2.2.1)) (split24_ne c n d l a A1 A2 c1 c2 caps nums w hr1 hr2 hw1 hw2 hv (wi_t (by omega) (by omega)) hn)
    · refine bad (if_neg (fun h => hl ⟨h.2.1, h.2.2.1⟩)) (split24_len c n d l a A1 A2 c1 c2 caps nums w hr1 hr2 hw1 hw2 hv ?_)
      exact decide_eq_false (fun h => hl ⟨by omega, by omega⟩)
  · exact bad (if_neg (fun h => hv h.1)) (split24_v c n d l a A1 A2 c1 c2 caps nums w hr1 hr2 hw1 hw2 hv)
set_option maxHeartbeats 400000 in
set_option maxRecDepth 100000 in
theorem law8_long1 (c n d l a : Int) (A1 A2 A3 : Option Addr) (k1 k2 k3 c1 c2 c3 : Nat) (w : World) (h : 64 < k1) :
    Calls Try.prog 8 #[bk c n d l a, .slice A1 k1 c1, .slice A2 k2 c2, .slice A3 k3 c3] w fun e w' => e = .returned (.bool true) ∧ Below w.heap.size w w' := by
  have hn1 : decide ((64 : Int) < (k1 : Int)) = true := decide_eq_true (by omega)
  clear h
  go_enter Try.func8, Try.ntmps8
  go_wp2_with (go_at_call 19; refine (sanity_any _).mono ?_; rintro e w1 ⟨rfl, hB⟩)
  go_ret
  exact ⟨rfl, below_then ((Below.refl _ _).alloc (Nat.le_refl _) _) (by simp) hB⟩
set_option maxHeartbeats 400000 in
set_option maxRecDepth 100000 in
theorem law8_long2 (c n d l a : Int) (A1 A2 A3 : Option Addr) (k1 k2 k3 c1 c2 c3 : Nat) (w : World) (h : k1 ≤ 64) (h2 : 60 < k3) :
    Calls Try.prog 8 #[bk c n d l a, .slice A1 k1 c1, .slice A2 k2 c2, .slice A3 k3 c3] w fun e w' => e = .returned (.bool true) ∧ Below w.heap.size w w' := by
  have hn1 : decide ((64 : Int) < (k1 : Int)) = false := decide_eq_false (by omega)
  have hn2 : decide ((60 : Int) < (k3 : Int)) = true := decide_eq_true (by omega)
  clear h h2
  go_enter Try.func8, Try.ntmps8
  go_wp2_with (go_at_call 19; refine (sanity_any _).mono ?_; rintro e w1 ⟨rfl, hB⟩)
  go_ret
  exact ⟨rfl, below_then ((Below.refl _ _).alloc (Nat.le_refl _) _) (by simp) hB⟩
set_option maxHeartbeats 400000 in
set_option maxRecDepth 100000 in
theorem law8_bad (c n d l a : Int) (A1 A2 A3 : Option Addr) (k1 k2 k3 c1 c2 c3 : Nat) (w : World) (h : k1 ≤ 64) (h2 : k3 ≤ 60) (hv : ¬ V c n d l a) :
    Calls Try.prog 8 #[bk c n d l a, .slice A1 k1 c1, .slice A2 k2 c2, .slice A3 k3 c3] w fun e w' => e = .returned (.bool true) ∧ Below w.heap.size w w' := by
  have hn1 : decide ((64 : Int) < (k1 : Int)) = false := decide_eq_false (by omega)
  have hn2 : decide ((60 : Int) < (k3 : Int)) = false := decide_eq_false (by omega)
  have HV : Hid (¬ V c n d l a) := hv
  clear h h2 hv
  go_enter Try.func8, Try.ntmps8
  go_wp2_with (go_at_call 20; refine (valid20_any _ _ _ _ _ _ false (decide_eq_false HV.out).symm).mono ?_; rintro e w' ⟨rfl, rfl⟩)
  go_at_call 19
  refine (sanity_any _).mono ?_
  rintro e w1 ⟨rfl, hB⟩
  go_wp2
  go_ret
  exact ⟨rfl, below_then (((Below.refl _ _).alloc (Nat.le_refl _) _).alloc (by simp) _) (by first | (simp; done) | (simp; omega)) hB⟩
set_option maxHeartbeats 400000 in
set_option maxRecDepth 100000 in
theorem law8_late (c n d l a : Int) (A1 A2 A3 : Option Addr) (k1 k2 k3 c1 c2 c3 : Nat) (w : World) (h : k1 ≤ 64) (h2 : k3 ≤ 60) (hv : V c n d l a) (ha : 1099511527776 < a) :
    Calls Try.prog 8 #[bk c n d l a, .slice A1 k1 c1, .slice A2 k2 c2, .slice A3 k3 c3] w fun e w' => e = .returned (.bool true) ∧ Below w.heap.size w w' := by
  have hn1 : decide ((64 : Int) < (k1 : Int)) = false := decide_eq_false (by omega)
  have hn2 : decide ((60 : Int) < (k3 : Int)) = false := decide_eq_false (by omega)
  have hn3 : decide ((1099511527776 : Int) < a) = true := decide_eq_true ha
  have HV : Hid (V c n d l a) := hv
  clear h h2 hv ha
  go_enter Try.func8, Try.ntmps8
  go_wp2_with (go_at_call 20; refine (valid20_any _ _ _ _ _ _ true (decide_eq_true HV.out).symm).mono ?_; rintro e w' ⟨rfl, rfl⟩)
  go_at_call 19
  refine (sanity_any _).mono ?_
  rintro e w1 ⟨rfl, hB⟩
  go_wp2
  go_ret
  exact ⟨rfl, below_then (((Below.refl _ _).alloc (Nat.le_refl _) _).alloc (by simp) _) (by first | (simp; done) | (simp; omega)) hB⟩
set_option maxHeartbeats 400000 in
set_option maxRecDepth 100000 in
theorem law8_no (c n d l a : Int) (A1 A2 A3 : Option Addr) (c1 c2 c3 k3 : Nat) (caps nums : List Int) (w : World) (h : caps.length ≤ 64) (h2 : k3 ≤ 60) (hv : V c n d l a) (ha : a ≤ 1099511527776)
    (hr1 : ReadsInt w .i64 A1 caps.length caps) (hr2 : ReadsInt w .i64 A2 nums.length nums)
    (hw1 : ∀ x ∈ caps, -9223372036854775808 ≤ x ∧ x ≤ 9223372036854775807) (hw2 : ∀ x ∈ nums, -9223372036854775808 ≤ x ∧ x ≤ 9223372036854775807)
    (hs : splitS c n d l a caps nums = ([], 1)) :
    Calls Try.prog 8 #[bk c n d l a, .slice A1 caps.length c1, .slice A2 nums.length c2, .slice A3 k3 c3] w fun e w' => e = .returned (.bool true) ∧ Below w.heap.size w w' := by
  have hn1 : decide ((64 : Int) < (caps.length : Int)) = false := decide_eq_false (by omega)
  have hn2 : decide ((60 : Int) < (k3 : Int)) = false := decide_eq_false (by omega)
  have hn3 : decide ((1099511527776 : Int) < a) = false := decide_eq_false (by omega)
  have HV : Hid (V c n d l a) := hv
  have HSO : Hid (∀ W : World, Below w.heap.size w W → Calls Try.prog 24 #[bk c n d l a, .slice A1 caps.length c1, .slice A2 nums.length c2] W fun e w' => ∃ A cp, e = .returned (.tuple #[.slice A ([] : List BK).length cp, .int .i64 1]) ∧ RdB w' A [] ∧ Below W.heap.size W w') :=
    fun W hB => split24_all c n d l a A1 A2 c1 c2 caps nums W (hr1.below hB) (hr2.below hB) hw1 hw2 _ _ hs
  clear h h2 hv ha hr1 hr2 hw1 hw2 hs
  go_enter Try.func8, Try.ntmps8
  go_wp2_with (go_at_call 20; refine (valid20_any _ _ _ _ _ _ true (decide_eq_true HV.out).symm).mono ?_; rintro e w' ⟨rfl, rfl⟩)
  have hB0 : Hid (Below w.heap.size w ((w.alloc (bo c n d l a)).alloc (bo c n d l a))) := ((Below.refl _ _).alloc (Nat.le_refl _) _).alloc (by simp) _
  go_at_call 24
  with_reducible refine (HSO.out _ hB0.out).mono ?_
  rintro e w1 ⟨A, cp, rfl, _, hB⟩
  have HB1 : Hid (Below w.heap.size w w1) := below_then hB0.out (by simp; omega) hB
  clear hB hB0 HSO
  go_wp2_with fail
  go_at_call 19
  refine (sanity_any _).mono ?_
  rintro e w2 ⟨rfl, hB⟩
  have HB2 : Hid (Below w.heap.size w w2) := below_then HB1.out HB1.out.size hB
  clear hB
  go_wp2_with fail
  go_ret
  exact ⟨rfl, HB2.out⟩
theorem law8 (c n d l a : Int) (A1 A2 A3 : Option Addr) (c1 c2 c3 : Nat) (caps nums : List Int) (ts : List TRY) (w : World)
    (hr1 : ReadsInt w .i64 A1 caps.length caps) (hr2 : ReadsInt w .i64 A2 nums.length nums) (hr : RdT w A3 ts)
    (hw1 : ∀ x ∈ caps, -9223372036854775808 ≤ x ∧ x ≤ 9223372036854775807) (hw2 : ∀ x ∈ nums, -9223372036854775808 ≤ x ∧ x ≤ 9223372036854775807) :
    Calls Try.prog 8 #[bk c n d l a, .slice A1 caps.length c1, .slice A2 nums.length c2, .slice A3 ts.length c3] w fun e w' => e = .returned (.bool true) ∧ Below w.heap.size w w' := by
  by_cases h64 : caps.length ≤ 64
  · by_cases h60 : ts.length ≤ 60
    · by_cases hv : V c n d l a
      · by_cases ha : a ≤ 1099511527776
        · by_cases hs : 1 ≤ caps.length ∧ caps.length ≤ 64 ∧ nums.length = caps.length ∧ sumGo c 0 caps = (c, true) ∧ sumGo n 0 nums = (n, true)
          · exact law8_walk c n d l a A1 A2 A3 c1 c2 c3 caps nums ts w hv ha hs.1 h64 h60 hr1 hr2 hw1 hw2 hs.2.2.1 hs.2.2.2.1 hs.2.2.2.2 hr
          · exact law8_no c n d l a A1 A2 A3 c1 c2 c3 ts.length caps nums w h64 h60 hv ha hr1 hr2 hw1 hw2 (if_neg fun h => hs h.2)
        · exact law8_late c n d l a A1 A2 A3 _ _ _ c1 c2 c3 w h64 h60 hv (by omega)
      · exact law8_bad c n d l a A1 A2 A3 _ _ _ c1 c2 c3 w h64 h60 hv
    · exact law8_long2 c n d l a A1 A2 A3 _ _ _ c1 c2 c3 w h64 (by omega)
  · exact law8_long1 c n d l a A1 A2 A3 _ _ _ c1 c2 c3 w (by omega)

end Go.Proofs.Ytcikmloklbdddaa
