/- The walk of BucketPartsMatchSpec. Condition: the lists can be read. -/
import Derived.Test.YtcikmloklbdddaaWWords
import Derived.Test.YtcikmloklbdddaaPart7c
import Derived.Deep.DeepCutAuto
import Derived.Tactics2
set_option linter.unusedVariables false
set_option linter.unusedSimpArgs false
namespace Go.Proofs.Ytcikmloklbdddaa
open Go.RowKit
open Go.Proofs.YtcikmloklbdddaaW.PrintWords (ReadsInt rd own_nil blk_frozen own_weaken own_setCell own_base own_lt blk_set add_block blk_alloc blk_below blk_far blk_grown pw_own_below add_field own_slice)
/-! ### Split of both sides, in one -/
theorem splitGo_len (d a : Int) : ∀ (l : Int) (cs ns : List Int), ns.length = cs.length → (splitGo d a l cs ns).length = cs.length := by
  intro l cs
  induction cs generalizing l with
  | nil => intro ns _; cases ns <;> rfl
  | cons c cs ih =>
    intro ns h
    cases ns with
    | nil => simp at h
    | cons n ns => simp only [splitGo, List.length_cons]; rw [ih _ _ (by simpa using h)]
def splitS (c n d l a : Int) (caps nums : List Int) : List BK × Int :=
  if V c n d l a ∧ 1 ≤ caps.length ∧ caps.length ≤ 64 ∧ nums.length = caps.length ∧ sumGo c 0 caps = (c, true) ∧ sumGo n 0 nums = (n, true) then (splitGo d a l caps nums, 0) else ([], 1)
theorem rdB_nil (w : World) : RdB w none [] := ⟨by decide, fun j hj => absurd hj (Nat.not_lt_zero _)⟩
theorem split24_all (c n d l a : Int) (A1 A2 : Option Addr) (c1 c2 : Nat) (caps nums : List Int) (w : World)
    (hr1 : ReadsInt w .i64 A1 caps.length caps) (hr2 : ReadsInt w .i64 A2 nums.length nums)
    (hw1 : ∀ x ∈ caps, -9223372036854775808 ≤ x ∧ x ≤ 9223372036854775807) (hw2 : ∀ x ∈ nums, -9223372036854775808 ≤ x ∧ x ≤ 9223372036854775807)
    (L : List BK) (E : Int) (hres : splitS c n d l a caps nums = (L, E)) :
    Calls Try.prog 24 #[bk c n d l a, .slice A1 caps.length c1, .slice A2 nums.length c2] w fun e w' => ∃ A cp, e = .returned (.tuple #[.slice A L.length cp, .int .i64 E]) ∧ RdB w' A L ∧ Below w.heap.size w w' := by
  have bad : splitS c n d l a caps nums = ([], 1) → Calls Try.prog 24 #[bk c n d l a, .slice A1 caps.length c1, .slice A2 nums.length c2] w (fun e w' => e = .returned (.tuple #[.slice none 0 0, .int .i64 1]) ∧ Below w.heap.size w w') →
      Calls Try.prog 24 #[bk c n d l a, .slice A1 caps.length c1, .slice A2 nums.length c2] w fun e w' => ∃ A cp, e = .returned (.tuple #[.slice A L.length cp, .int .i64 E]) ∧ RdB w' A L ∧ Below w.heap.size w w' := by
    intro hS hC
    refine hC.mono ?_
    rintro e w' ⟨rfl, hB⟩
    rw [hS] at hres
    injection hres with h1 h2
    subst h1 h2
    exact ⟨none, 0, rfl, rdB_nil _, hB⟩
  by_cases hv : V c n d l a
  · by_cases hl : 1 ≤ caps.length ∧ caps.length ≤ 64
    · obtain ⟨hl1, hl2⟩ := hl
      by_cases hn : nums.length = caps.length
      · obtain ⟨⟨r1, b1⟩, hs1⟩ : ∃ r, sumGo c 0 caps = r := ⟨_, rfl⟩
        obtain ⟨⟨r2, b2⟩, hs2⟩ : ∃ r, sumGo n 0 nums = r := ⟨_, rfl⟩
        cases b1 with
        | false => exact bad (if_neg (fun h => by have := h.2.2.2.2.1; rw [hs1] at this; injection this with _ h9; cases h9)) (split24_s1 c n d l a A1 A2 c1 c2 caps nums r1 r2 b2 w hr1 hr2 hw1 hw2 hv hl1 hl2 hn hs1 hs2)
        | true =>
          cases b2 with
          | false => exact bad (if_neg (fun h => by have := h.2.2.2.2.2; rw [hs2] at this; injection this with _ h9; cases h9)) (split24_s2 c n d l a A1 A2 c1 c2 caps nums r1 r2 w hr1 hr2 hw1 hw2 hv hl1 hl2 hn hs1 hs2)
          | true =>
            by_cases hx : r1 = c
            · subst hx
              by_cases hy : r2 = n
              · subst hy
                rw [show splitS r1 r2 d l a caps nums = (splitGo d a l caps nums, 0) from if_pos ⟨hv, hl1, hl2, hn, hs1, hs2⟩] at hres
                injection hres with h1 h2
                subst h1 h2
                refine (split_ok r1 r2 d l a A1 A2 c1 c2 caps nums w hv hr1 hr2 hl1 hl2 hn hs1 hs2 hw1 hw2).mono ?_
                rintro e w' ⟨v, rfl, ho, hB⟩
                obtain ⟨A, cp, rfl, hR⟩ := own_rdb ho (splitGo_len d a l caps nums hn).symm
                exact ⟨A, cp, rfl, hR, hB⟩
              · exact bad (if_neg (fun h => by have := h.2.2.2.2.2; rw [hs2] at this; injection this with h9 _; exact hy h9)) (split24_s4 r1 n d l a A1 A2 c1 c2 caps nums r2 w hr1 hr2 hw1 hw2 hv hl1 hl2 hn hs1 hs2 hy)
            · exact bad (if_neg (fun h => by have := h.2.2.2.2.1; rw [hs1] at this; injection this with h9 _; exact hx h9)) (split24_s3 c n d l a A1 A2 c1 c2 caps nums r1 r2 w hr1 hr2 hw1 hw2 hv hl1 hl2 hn hs1 hs2 hx)
      · exact bad (if_neg (fun h => hn h.2.2.2.1)) (split24_ne c n d l a A1 A2 c1 c2 caps nums w hr1 hr2 hw1 hw2 hv (wi_t (by omega) (by omega)) hn)
    · refine bad (if_neg (fun h => hl ⟨h.2.1, h.2.2.1⟩)) (split24_len c n d l a A1 A2 c1 c2 caps nums w hr1 hr2 hw1 hw2 hv ?_)
      exact decide_eq_false (fun h => hl ⟨by omega, by omega⟩)
  · exact bad (if_neg (fun h => hv h.1)) (split24_v c n d l a A1 A2 c1 c2 caps nums w hr1 hr2 hw1 hw2 hv)
theorem split26_all (c n d l a : Int) (A1 A2 : Option Addr) (c1 c2 : Nat) (caps nums : List Int) (w : World)
    (hr1 : ReadsInt w .i64 A1 caps.length caps) (hr2 : ReadsInt w .i64 A2 nums.length nums)
    (hw1 : ∀ x ∈ caps, -9223372036854775808 ≤ x ∧ x ≤ 9223372036854775807) (hw2 : ∀ x ∈ nums, -9223372036854775808 ≤ x ∧ x ≤ 9223372036854775807)
    (L : List BK) (E : Int) (hres : splitS c n d l a caps nums = (L, E)) :
    Calls Try.prog 26 #[bk c n d l a, .slice A1 caps.length c1, .slice A2 nums.length c2] w fun e w' => ∃ A cp, e = .returned (.agg #[.slice A L.length cp, .int .i64 E]) ∧ RdB w' A L ∧ Below w.heap.size w w' := by
  have bad : splitS c n d l a caps nums = ([], 1) → Calls Try.prog 26 #[bk c n d l a, .slice A1 caps.length c1, .slice A2 nums.length c2] w (fun e w' => e = .returned (.agg #[.slice none 0 0, .int .i64 1]) ∧ Below w.heap.size w w') →
      Calls Try.prog 26 #[bk c n d l a, .slice A1 caps.length c1, .slice A2 nums.length c2] w fun e w' => ∃ A cp, e = .returned (.agg #[.slice A L.length cp, .int .i64 E]) ∧ RdB w' A L ∧ Below w.heap.size w w' := by
    intro hS hC
    refine hC.mono ?_
    rintro e w' ⟨rfl, hB⟩
    rw [hS] at hres
    injection hres with h1 h2
    subst h1 h2
    exact ⟨none, 0, rfl, rdB_nil _, hB⟩
  by_cases hv : V c n d l a
  · by_cases hl1 : 1 ≤ caps.length
    · by_cases hl2 : caps.length ≤ 64
      · by_cases hn : nums.length = caps.length
        · by_cases hs1 : sumGo c 0 caps = (c, true)
          · by_cases hs2 : sumGo n 0 nums = (n, true)
            · rw [show splitS c n d l a caps nums = (splitGo d a l caps nums, 0) from if_pos ⟨hv, hl1, hl2, hn, hs1, hs2⟩] at hres
              injection hres with h1 h2
              subst h1 h2
              refine (refsplit_ok c n d l a A1 A2 c1 c2 caps nums w hv hr1 hr2 hl1 hl2 hn hs1 hs2 hw1 hw2).mono ?_
              rintro e w' ⟨v, rfl, ho, hB⟩
              obtain ⟨A, cp, rfl, hR⟩ := own_rdb ho (splitGo_len d a l caps nums hn).symm
              exact ⟨A, cp, rfl, hR, hB⟩
            · exact bad (if_neg (fun h => hs2 h.2.2.2.2.2)) (split26_s2 c n d l a A1 A2 c1 c2 caps nums w hr1 hr2 hw1 hw2 hv hl1 hl2 hn (decide_eq_true hs1).symm (decide_eq_false hs2).symm)
          · exact bad (if_neg (fun h => hs1 h.2.2.2.2.1)) (split26_s1 c n d l a A1 A2 c1 c2 caps nums w hr1 hr2 hw1 hw2 hv hl1 hl2 hn (decide_eq_false hs1).symm)
        · exact bad (if_neg (fun h => hn h.2.2.2.1)) (split26_ne c n d l a A1 A2 c1 c2 caps nums w hr1 hr2 hw1 hw2 hv hl1 hl2 hn)
      · exact bad (if_neg (fun h => hl2 h.2.2.1)) (split26_hi c n d l a A1 A2 c1 c2 caps nums w hr1 hr2 hw1 hw2 hv hl1 (by omega))
    · exact bad (if_neg (fun h => hl1 h.2.1)) (split26_lo c n d l a A1 A2 c1 c2 caps nums w hr1 hr2 hw1 hw2 hv (by omega))
  · exact bad (if_neg (fun h => hv h.1)) (split26_v c n d l a A1 A2 c1 c2 caps nums w hr1 hr2 hw1 hw2 hv)
set_option maxHeartbeats 2000000 in
set_option maxRecDepth 100000 in
theorem law7_any (c n d l a : Int) (A1 A2 A3 : Option Addr) (c1 c2 c3 : Nat) (caps nums : List Int) (bs : List BK) (w : World)
    (hr1 : ReadsInt w .i64 A1 caps.length caps) (hr2 : ReadsInt w .i64 A2 nums.length nums) (hr3 : RdB w A3 bs)
    (hw1 : ∀ x ∈ caps, -9223372036854775808 ≤ x ∧ x ≤ 9223372036854775807) (hw2 : ∀ x ∈ nums, -9223372036854775808 ≤ x ∧ x ≤ 9223372036854775807)
    (hl1 : caps.length ≤ 70) (hl2 : nums.length ≤ 70) (hl3 : bs.length ≤ 70) :
    Calls Try.prog 7 #[bk c n d l a, .slice A1 caps.length c1, .slice A2 nums.length c2, .slice A3 bs.length c3] w fun e w' => e = .returned (.bool true) ∧ Below w.heap.size w w' := by
  have HR1 : Hid (ReadsInt w .i64 A1 caps.length caps) := hr1
  have HR2 : Hid (ReadsInt w .i64 A2 nums.length nums) := hr2
  have HR3 : Hid (RdB w A3 bs) := hr3
  have HW1 : Hid (∀ x ∈ caps, -9223372036854775808 ≤ x ∧ x ≤ 9223372036854775807) := hw1
  have HW2 : Hid (∀ x ∈ nums, -9223372036854775808 ≤ x ∧ x ≤ 9223372036854775807) := hw2
  have hn1 : decide ((70 : Int) < (caps.length : Int)) = false := decide_eq_false (by omega)
  have hn2 : decide ((70 : Int) < (nums.length : Int)) = false := decide_eq_false (by omega)
  have hn3 : decide ((70 : Int) < (bs.length : Int)) = false := decide_eq_false (by omega)
  obtain ⟨⟨L, E⟩, hS⟩ : ∃ r, splitS c n d l a caps nums = r := ⟨_, rfl⟩
  obtain ⟨⟨X, F⟩, hM⟩ : ∃ r, mergeS bs = r := ⟨_, rfl⟩
  have HS : Hid (splitS c n d l a caps nums = (L, E)) := hS
  have HM : Hid (mergeS bs = (X, F)) := hM
  clear hr1 hr2 hr3 hw1 hw2 hl1 hl2 hl3 hS hM
  go_enter Try.func7, Try.ntmps7
  go_wp2_with fail
  have HB0 : Hid (Below w.heap.size w (w.alloc (bo c n d l a))) := (Below.refl _ _).alloc (Nat.le_refl _) _
  go_at_call 24
  refine (split24_all c n d l a A1 A2 c1 c2 caps nums _ (HR1.out.below HB0.out) (HR2.out.below HB0.out) HW1.out HW2.out L E HS.out).mono ?_
  rintro e w1 ⟨B1, p1, rfl, hR, hB⟩
  have HP1 : Hid (RdB w1 B1 L) := hR
  have HB1 : Hid (Below w.heap.size w w1) := below_then HB0.out (by simp) hB
  have HX1 : Hid (w1.heap[w.heap.size]? = some (bo c n d l a)) := kb_ hB (heap_alloc_new _ _)
  clear hR hB HB0
  go_wp2_with fail
  go_at_call 25
  refine (merge25_any A3 c3 bs _ (HR3.out.to HB1.out) X F HM.out).mono ?_
  rintro e w2 ⟨rfl, hB⟩
  have HP2 : Hid (RdB w2 B1 L) := HP1.out.to hB
  have HB2 : Hid (Below w.heap.size w w2) := below_then HB1.out HB1.out.size hB
  have HX2 : Hid (w2.heap[w.heap.size]? = some (bo c n d l a)) := kb_ hB HX1.out
  clear hB
  have hx0 : w2.cell? ⟨w.heap.size, 0, none⟩ = some (.int .i64 c) := (cell_of_row w2 w.heap.size 0 _ _ _ HX2.out).trans rfl
  have hx1 : w2.cell? ⟨w.heap.size, 1, none⟩ = some (.int .i64 n) := (cell_of_row w2 w.heap.size 1 _ _ _ HX2.out).trans rfl
  have hx2 : w2.cell? ⟨w.heap.size, 2, none⟩ = some (.int .i64 d) := (cell_of_row w2 w.heap.size 2 _ _ _ HX2.out).trans rfl
  have hx3 : w2.cell? ⟨w.heap.size, 3, none⟩ = some (.int .i64 l) := (cell_of_row w2 w.heap.size 3 _ _ _ HX2.out).trans rfl
  have hx4 : w2.cell? ⟨w.heap.size, 4, none⟩ = some (.int .i64 a) := (cell_of_row w2 w.heap.size 4 _ _ _ HX2.out).trans rfl
  have hs2 : w.heap.size < w2.heap.size := (Array.getElem?_eq_some_iff.1 HX2.out).1
  go_wp2_with fail
  have HB3 : Hid (Below w.heap.size w (w2.alloc (bo X.c X.n X.d X.l X.a))) := HB2.out.alloc HB2.out.size _
  have HM3 : Hid ((w2.alloc (bo X.c X.n X.d X.l X.a)).heap[w2.heap.size]? = some (bo X.c X.n X.d X.l X.a)) := heap_alloc_new _ _
  go_at_call 26
  refine (split26_all c n d l a A1 A2 c1 c2 caps nums _ (HR1.out.below HB3.out) (HR2.out.below HB3.out) HW1.out HW2.out L E HS.out).mono ?_
  rintro e w3 ⟨B3, p3, rfl, hR, hB⟩
  have HP3 : Hid (RdB w3 B1 L) := (HP2.out.to ((Below.refl _ _).alloc (Nat.le_refl _) _)).to hB
  have HQ3 : Hid (RdB w3 B3 L) := hR
  have HB4 : Hid (Below w.heap.size w w3) := below_then HB3.out HB3.out.size hB
  have HM4 : Hid (w3.heap[w2.heap.size]? = some (bo X.c X.n X.d X.l X.a)) := kb_ hB HM3.out
  clear hB hR hx0 hx1 hx2 hx3 hx4
  go_wp2_with fail
  obtain ⟨o56, ho56⟩ : ∃ o : Obj, o = .cells #[.slice B3 L.length p3, .int .i64 E] 56 (0, 0) := ⟨_, rfl⟩
  rw [← ho56]
  have HO5 : Hid (o56 = .cells #[.slice B3 L.length p3, .int .i64 E] 56 (0, 0)) := ho56
  have HB5 : Hid (Below w.heap.size w (w3.alloc o56)) := HB4.out.alloc HB4.out.size _
  have HM5 : Hid ((w3.alloc o56).heap[w2.heap.size]? = some (bo X.c X.n X.d X.l X.a)) := blk_alloc HM4.out _
  have HX5 : Hid ((w3.alloc o56).heap[w3.heap.size]? = some (.cells #[.slice B3 L.length p3, .int .i64 E] 56 (0, 0))) := by rw [← HO5.out]; exact heap_alloc_new _ _
  have hbl : Below w3.heap.size w3 (w3.alloc o56) := (Below.refl _ _).alloc (Nat.le_refl _) _
  have HP5 : Hid (RdB (w3.alloc o56) B1 L) := HP3.out.to hbl
  have HQ5 : Hid (RdB (w3.alloc o56) B3 L) := HQ3.out.to hbl
  clear ho56 hbl
  generalize w3.alloc o56 = w4 at HB5 HM5 HX5 HP5 HQ5 ⊢
  go_at_call 27
  refine (merge27_any A3 c3 bs _ (HR3.out.to HB5.out) X F HM.out).mono ?_
  rintro e w5 ⟨rfl, hB⟩
  have HP6 : Hid (RdB w5 B1 L) := HP5.out.to hB
  have HQ6 : Hid (RdB w5 B3 L) := HQ5.out.to hB
  have HB6 : Hid (Below w.heap.size w w5) := below_then HB5.out HB5.out.size hB
  have HM6 : Hid (w5.heap[w2.heap.size]? = some (bo X.c X.n X.d X.l X.a)) := kb_ hB HM5.out
  have HX6 : Hid (w5.heap[w3.heap.size]? = some (.cells #[.slice B3 L.length p3, .int .i64 E] 56 (0, 0))) := kb_ hB HX5.out
  clear hB
  go_wp2_with fail
  obtain ⟨o33, ho33⟩ : ∃ o : Obj, o = .cells #[.int .i64 X.c, .int .i64 X.n, .int .i64 X.d, .int .i64 X.l, .int .i64 X.a, .int .i64 F] 33 (0, 0) := ⟨_, rfl⟩
  rw [← ho33]
  have HO7 : Hid (o33 = .cells #[.int .i64 X.c, .int .i64 X.n, .int .i64 X.d, .int .i64 X.l, .int .i64 X.a, .int .i64 F] 33 (0, 0)) := ho33
  have HB7 : Hid (Below w.heap.size w (w5.alloc o33)) := HB6.out.alloc HB6.out.size _
  have HM7 : Hid ((w5.alloc o33).heap[w2.heap.size]? = some (bo X.c X.n X.d X.l X.a)) := blk_alloc HM6.out _
  have HX7 : Hid ((w5.alloc o33).heap[w3.heap.size]? = some (.cells #[.slice B3 L.length p3, .int .i64 E] 56 (0, 0))) := blk_alloc HX6.out _
  have HY7 : Hid ((w5.alloc o33).heap[w5.heap.size]? = some (.cells #[.int .i64 X.c, .int .i64 X.n, .int .i64 X.d, .int .i64 X.l, .int .i64 X.a, .int .i64 F] 33 (0, 0))) := by rw [← HO7.out]; exact heap_alloc_new _ _
  have hbl : Below w5.heap.size w5 (w5.alloc o33) := (Below.refl _ _).alloc (Nat.le_refl _) _
  have HP7 : Hid (RdB (w5.alloc o33) B1 L) := HP6.out.to hbl
  have HQ7 : Hid (RdB (w5.alloc o33) B3 L) := HQ6.out.to hbl
  clear ho33 hbl
  generalize w5.alloc o33 = w6 at HB7 HM7 HX7 HY7 HP7 HQ7 ⊢
  go_at_call 19
  refine (sanity_any _).mono ?_
  rintro e w7 ⟨rfl, hB⟩
  have HP8 : Hid (RdB w7 B1 L) := HP7.out.to hB
  have HQ8 : Hid (RdB w7 B3 L) := HQ7.out.to hB
  have HB8 : Hid (Below w.heap.size w w7) := below_then HB7.out HB7.out.size hB
  have HM8 : Hid (w7.heap[w2.heap.size]? = some (bo X.c X.n X.d X.l X.a)) := kb_ hB HM7.out
  have HX8 : Hid (w7.heap[w3.heap.size]? = some (.cells #[.slice B3 L.length p3, .int .i64 E] 56 (0, 0))) := kb_ hB HX7.out
  have HY8 : Hid (w7.heap[w5.heap.size]? = some (.cells #[.int .i64 X.c, .int .i64 X.n, .int .i64 X.d, .int .i64 X.l, .int .i64 X.a, .int .i64 F] 33 (0, 0))) := kb_ hB HY7.out
  clear hB
  have gx0 : w7.cell? ⟨w3.heap.size, 0, none⟩ = some (.slice B3 L.length p3) := (cell_of_row w7 w3.heap.size 0 _ _ _ HX8.out).trans rfl
  go_wp2_with fail
  go_at_call 28
  refine (same_any B1 B3 p1 p3 L _ HP8.out HQ8.out).mono ?_
  rintro e w8 ⟨rfl, hB⟩
  have HB9 : Hid (Below w.heap.size w w8) := below_then HB8.out HB8.out.size hB
  have HM9 : Hid (w8.heap[w2.heap.size]? = some (bo X.c X.n X.d X.l X.a)) := kb_ hB HM8.out
  have HX9 : Hid (w8.heap[w3.heap.size]? = some (.cells #[.slice B3 L.length p3, .int .i64 E] 56 (0, 0))) := kb_ hB HX8.out
  have HY9 : Hid (w8.heap[w5.heap.size]? = some (.cells #[.int .i64 X.c, .int .i64 X.n, .int .i64 X.d, .int .i64 X.l, .int .i64 X.a, .int .i64 F] 33 (0, 0))) := kb_ hB HY8.out
  clear hB gx0
  have gx1 : w8.cell? ⟨w3.heap.size, 1, none⟩ = some (.int .i64 E) := (cell_of_row w8 w3.heap.size 1 _ _ _ HX9.out).trans rfl
  have gy0 : w8.cell? ⟨w5.heap.size, 0, none⟩ = some (.int .i64 X.c) := (cell_of_row w8 w5.heap.size 0 _ _ _ HY9.out).trans rfl
  have gy1 : w8.cell? ⟨w5.heap.size, 1, none⟩ = some (.int .i64 X.n) := (cell_of_row w8 w5.heap.size 1 _ _ _ HY9.out).trans rfl
  have gy2 : w8.cell? ⟨w5.heap.size, 2, none⟩ = some (.int .i64 X.d) := (cell_of_row w8 w5.heap.size 2 _ _ _ HY9.out).trans rfl
  have gy3 : w8.cell? ⟨w5.heap.size, 3, none⟩ = some (.int .i64 X.l) := (cell_of_row w8 w5.heap.size 3 _ _ _ HY9.out).trans rfl
  have gy4 : w8.cell? ⟨w5.heap.size, 4, none⟩ = some (.int .i64 X.a) := (cell_of_row w8 w5.heap.size 4 _ _ _ HY9.out).trans rfl
  have gy5 : w8.cell? ⟨w5.heap.size, 5, none⟩ = some (.int .i64 F) := (cell_of_row w8 w5.heap.size 5 _ _ _ HY9.out).trans rfl
  have gm0 : w8.cell? ⟨w2.heap.size, 0, none⟩ = some (.int .i64 X.c) := (cell_of_row w8 w2.heap.size 0 _ _ _ HM9.out).trans rfl
  have gm1 : w8.cell? ⟨w2.heap.size, 1, none⟩ = some (.int .i64 X.n) := (cell_of_row w8 w2.heap.size 1 _ _ _ HM9.out).trans rfl
  have gm2 : w8.cell? ⟨w2.heap.size, 2, none⟩ = some (.int .i64 X.d) := (cell_of_row w8 w2.heap.size 2 _ _ _ HM9.out).trans rfl
  have gm3 : w8.cell? ⟨w2.heap.size, 3, none⟩ = some (.int .i64 X.l) := (cell_of_row w8 w2.heap.size 3 _ _ _ HM9.out).trans rfl
  have gm4 : w8.cell? ⟨w2.heap.size, 4, none⟩ = some (.int .i64 X.a) := (cell_of_row w8 w2.heap.size 4 _ _ _ HM9.out).trans rfl
  go_wp2_with fail
  go_ret
  exact ⟨rfl, HB9.out⟩
set_option maxHeartbeats 1000000 in
set_option maxRecDepth 100000 in
theorem law7_long (c n d l a : Int) (A1 A2 A3 : Option Addr) (c1 c2 c3 k1 k2 k3 : Nat) (w : World) (h : 70 < k1 ∨ 70 < k2 ∨ 70 < k3) :
    Calls Try.prog 7 #[bk c n d l a, .slice A1 k1 c1, .slice A2 k2 c2, .slice A3 k3 c3] w fun e w' => e = .returned (.bool true) ∧ Below w.heap.size w w' := by
  have HB0 : Hid (Below w.heap.size w (w.alloc (bo c n d l a))) := (Below.refl _ _).alloc (Nat.le_refl _) _
  by_cases h1 : 70 < k1
  · have hn1 : decide ((70 : Int) < (k1 : Int)) = true := decide_eq_true (by omega)
    clear h h1
    go_enter Try.func7, Try.ntmps7
    go_wp2_with (go_at_call 19; refine (sanity_any _).mono ?_; rintro e w1 ⟨rfl, hB⟩)
    go_ret
    exact ⟨rfl, below_then HB0.out (by simp) hB⟩
  · have hn1 : decide ((70 : Int) < (k1 : Int)) = false := decide_eq_false (by omega)
    by_cases h2 : 70 < k2
    · have hn2 : decide ((70 : Int) < (k2 : Int)) = true := decide_eq_true (by omega)
      clear h h1 h2
      go_enter Try.func7, Try.ntmps7
      go_wp2_with (go_at_call 19; refine (sanity_any _).mono ?_; rintro e w1 ⟨rfl, hB⟩)
      go_ret
      exact ⟨rfl, below_then HB0.out (by simp) hB⟩
    · have hn2 : decide ((70 : Int) < (k2 : Int)) = false := decide_eq_false (by omega)
      have hn3 : decide ((70 : Int) < (k3 : Int)) = true := decide_eq_true (by omega)
      clear h h1 h2
      go_enter Try.func7, Try.ntmps7
      go_wp2_with (go_at_call 19; refine (sanity_any _).mono ?_; rintro e w1 ⟨rfl, hB⟩)
      go_ret
      exact ⟨rfl, below_then HB0.out (by simp) hB⟩
theorem law7 (c n d l a : Int) (A1 A2 A3 : Option Addr) (c1 c2 c3 : Nat) (caps nums : List Int) (bs : List BK) (w : World)
    (hr1 : ReadsInt w .i64 A1 caps.length caps) (hr2 : ReadsInt w .i64 A2 nums.length nums) (hr3 : RdB w A3 bs)
    (hw1 : ∀ x ∈ caps, -9223372036854775808 ≤ x ∧ x ≤ 9223372036854775807) (hw2 : ∀ x ∈ nums, -9223372036854775808 ≤ x ∧ x ≤ 9223372036854775807) :
    Calls Try.prog 7 #[bk c n d l a, .slice A1 caps.length c1, .slice A2 nums.length c2, .slice A3 bs.length c3] w fun e w' => e = .returned (.bool true) ∧ Below w.heap.size w w' := by
  by_cases h : 70 < caps.length ∨ 70 < nums.length ∨ 70 < bs.length
  · exact law7_long c n d l a A1 A2 A3 c1 c2 c3 _ _ _ w h
  · exact law7_any c n d l a A1 A2 A3 c1 c2 c3 caps nums bs w hr1 hr2 hr3 hw1 hw2 (by omega) (by omega) (by omega)

end Go.Proofs.Ytcikmloklbdddaa
