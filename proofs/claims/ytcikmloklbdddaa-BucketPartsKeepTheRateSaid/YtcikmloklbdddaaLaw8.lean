/- The walk of BucketPartsKeepTheRate. Condition: the lists can be read. -/
import Derived.Test.YtcikmloklbdddaaWWords
import Derived.Test.YtcikmloklbdddaaSt8
import Derived.Deep.DeepCutAuto
import Derived.Tactics2
import Derived.StillTailTactics
set_option linter.unusedVariables false
set_option linter.unusedSimpArgs false
namespace Go.Proofs.Ytcikmloklbdddaa
open Go.RowKit
open Go.Proofs.YtcikmloklbdddaaW.PrintWords (ReadsInt rd own_nil blk_frozen own_weaken own_setCell own_base own_lt blk_set add_block blk_alloc blk_below blk_far blk_grown pw_own_below add_field own_slice blk_cell)
theorem merge8 {A : Option Addr} {cp m : Nat} {l : List BK} {w : World} {c n d L a : Int} (hm : l.length = m) (ha : RdB w A l) (hres : mergeS l = (⟨c, n, d, L, a⟩, 0)) :
    Calls Try.prog 25 #[.slice A m cp] w fun r w' => r = .returned (.tuple #[bk c n d L a, .int .i64 0]) ∧ Below w.heap.size w w' := by
  subst hm
  exact merge25_any A cp l w ha _ _ hres
set_option maxHeartbeats 4000000 in
set_option maxRecDepth 100000 in
theorem law8_walk (c n d l0 a0 : Int) (A1 A2 A3 : Option Addr) (c1 c2 c3 : Nat) (caps nums : List Int) (ts : List TRY) (w : World) (hv : V c n d l0 a0) (ha : a0 ≤ 1099511527776) (h1 : 1 ≤ caps.length) (h64 : caps.length ≤ 64) (h60 : ts.length ≤ 60)
    (hr1 : ReadsInt w .i64 A1 caps.length caps) (hr2 : ReadsInt w .i64 A2 nums.length nums)
    (hw1 : ∀ x ∈ caps, -9223372036854775808 ≤ x ∧ x ≤ 9223372036854775807) (hw2 : ∀ x ∈ nums, -9223372036854775808 ≤ x ∧ x ≤ 9223372036854775807)
    (hlen : nums.length = caps.length) (hs1 : sumGo c 0 caps = (c, true)) (hs2 : sumGo n 0 nums = (n, true)) (hr : RdT w A3 ts) :
    Calls Try.prog 8 #[bk c n d l0 a0, .slice A1 caps.length c1, .slice A2 nums.length c2, .slice A3 ts.length c3] w fun e w' => e = .returned (.bool true) ∧ Below w.heap.size w w' := by
  have HV : Hid (V c n d l0 a0) := hv
  have HR : Hid (RdT w A3 ts) := hr
  have HR1 : Hid (ReadsInt w .i64 A1 caps.length caps) := hr1
  have HR2 : Hid (ReadsInt w .i64 A2 nums.length nums) := hr2
  have HW1 : Hid (∀ x ∈ caps, -9223372036854775808 ≤ x ∧ x ≤ 9223372036854775807) := hw1
  have HW2 : Hid (∀ x ∈ nums, -9223372036854775808 ≤ x ∧ x ≤ 9223372036854775807) := hw2
  have HSP : Hid (Inv8 c n d l0 a0 a0 (splitGo d a0 l0 caps nums) caps.length ∧ mergeS (splitGo d a0 l0 caps nums) = (⟨c, n, d, l0, a0⟩, 0)) := split8 hv hlen hs1 hs2 h1 h64
  have HSO : Hid (∀ W : World, Below w.heap.size w W → Calls Try.prog 24 #[bk c n d l0 a0, .slice A1 caps.length c1, .slice A2 nums.length c2] W fun e w' => ∃ v, e = .returned (.tuple #[v, .int .i64 0]) ∧ w'.ownsRow (W.heap.size + 1) 23 5 v caps.length (cellsB (splitGo d a0 l0 caps nums)) ∧ Below W.heap.size W w') :=
    fun W hB => split_ok c n d l0 a0 A1 A2 c1 c2 caps nums W hv (hr1.below hB) (hr2.below hB) h1 h64 hlen hs1 hs2 hw1 hw2
  have ha00 : 0 ≤ a0 := hv.2.2.2.2.2.2.2.2.1
  have HLEN : Hid (nums.length = caps.length) := hlen
  have hn1 : decide ((64 : Int) < (caps.length : Int)) = false := decide_eq_false (by omega)
  have hn2 : decide ((60 : Int) < (ts.length : Int)) = false := decide_eq_false (by omega)
  have hn3 : decide ((1099511527776 : Int) < a0) = false := decide_eq_false (by omega)
  obtain ⟨m, hm⟩ : ∃ m, m = caps.length := ⟨_, rfl⟩
  rw [← hm] at h1 h64 hn1 HSP HSO HR1 HLEN ⊢
  clear hv hr hr1 hr2 hw1 hw2 hlen hs1 hs2 hm
  go_enter Try.func8, Try.ntmps8
  go_wp2_with (go_at_call 20; refine (valid20_any _ _ _ _ _ _ true (decide_eq_true HV.out).symm).mono ?_; rintro e w' ⟨rfl, rfl⟩)
  have hB0 : Hid (Below w.heap.size w ((w.alloc (bo c n d l0 a0)).alloc (bo c n d l0 a0))) := ((Below.refl _ _).alloc (Nat.le_refl _) _).alloc (by simp) _
  have HX0 : Hid (((w.alloc (bo c n d l0 a0)).alloc (bo c n d l0 a0)).heap[w.heap.size]? = some (bo c n d l0 a0)) := blk_alloc (heap_alloc_new _ _) _
  go_at_call 24
  with_reducible refine (HSO.out _ hB0.out).mono ?_
  rintro e w1 ⟨v, rfl, ho, hB⟩
  obtain ⟨g, cap, rfl, hgb, hrow⟩ := own_ownB ho HSP.out.1.len.symm (by rw [HSP.out.1.len]; exact h1)
  rw [HSP.out.1.len]
  have hst : Hid (St8 w w1 c n d l0 a0 g (splitGo d a0 l0 caps nums)) := ⟨below_then hB0.out (by simp; omega) hB, kb_ hB HX0.out, by simp at hgb; omega, hrow⟩
  clear ho hB hgb hrow hB0 HX0
  generalize splitGo d a0 l0 caps nums = P at HSP hst ⊢
  have HRB : Hid (RdB w1 (some ⟨g, 0, none⟩) P) := hst.out.row.reads (by rw [HSP.out.1.len]; omega)
  go_wp2_with fail
  go_at_call 25
  with_reducible refine (merge8 HSP.out.1.len HRB.out HSP.out.2).mono ?_
  rintro e w2 ⟨rfl, hB⟩
  have HS2 : Hid (St8 w w2 c n d l0 a0 g P) := hst.out.to hB
  clear hB
  have hb0 := HS2.out.cb.1
  have hb1 := HS2.out.cb.2.1
  have hb2 := HS2.out.cb.2.2.1
  have hb3 := HS2.out.cb.2.2.2.1
  have hb4 := HS2.out.cb.2.2.2.2
  have hsz := HS2.out.size
  have hsm : w2.heap.size ≠ w.heap.size := by omega
  go_wp2_with fail
  have HS3 : Hid (St8 w (w2.alloc (bo c n d l0 a0)) c n d l0 a0 g P) := HS2.out.alloc _
  have HI0 : Hid (Inv8 c n d l0 a0 a0 P m) := HSP.out.1
  clear hb0 hb1 hb2 hb3 hb4 hsz hsm HRB hst HSP HSO HS2
  go_loopw [13, 14] (fun t i wr => ∃ (k : Nat) (l a T : Int) (Q : List BK), k ≤ ts.length ∧ i = .int .i64 k ∧ t = .int .i64 T ∧ 0 ≤ T ∧ T ≤ 1099511527776 + 255 * k ∧ Hid (St8 w wr c n d l a g Q) ∧ Hid (Inv8 c n d l a T Q m)) (fun _ i _ => ts.length - (intOf i).toNat)
  case atStart => exact ⟨0, l0, a0, a0, P, Nat.zero_le _, rfl, rfl, ha00, by omega, HS3, HI0⟩
  case round =>
    obtain ⟨k, l, a, T, Q, hk, rfl, rfl, hT0, hT1, HS, HI⟩ := hrel
    by_cases hlt : k < ts.length
    · obtain ⟨ad, rfl, hc0, hc1, hc2⟩ := HR.out.2.2 k hlt
      obtain ⟨x, hx⟩ : ∃ x, x = tryAt ts k := ⟨_, rfl⟩
      rw [← hx] at hc0 hc1 hc2
      have hxb := HR.out.2.1 x (by rw [hx]; exact tryAt_mem hlt)
      have hf0 := hxb.1.1
      have hf1 := hxb.1.2
      have hg0 := hxb.2.1.1
      have hg1 := hxb.2.1.2
      have hh0 := hxb.2.2.1
      have hh1 := hxb.2.2.2
      clear hxb hx
      have hcw0 : wr.cell? (ad.add (k * 3)) = some (.int .u8 x.f) := cell_below' HS.out.below hc0
      have hcw1 : wr.cell? ⟨(ad.add (k * 3)).block, (ad.add (k * 3)).off + 1, none⟩ = some (.int .u8 x.g) := cell_below' HS.out.below hc1
      have hcw2 : wr.cell? ⟨(ad.add (k * 3)).block, (ad.add (k * 3)).off + 2, none⟩ = some (.int .u8 x.h) := cell_below' HS.out.below hc2
      have HC0 : Hid (w.cell? (ad.add (k * 3)) = some (.int .u8 x.f)) := hc0
      have HC1 : Hid (w.cell? ⟨(ad.add (k * 3)).block, (ad.add (k * 3)).off + 1, none⟩ = some (.int .u8 x.g)) := hc1
      have HCF : Hid (∀ W' : World, Below w.heap.size w W' → W'.cell? ⟨(ad.add (k * 3)).block, (ad.add (k * 3)).off + 1, none⟩ = some (.int .u8 x.g)) := fun W' h => cell_below' h hc1
      have hk0 : (0 : Int) ≤ (k : Int) := by omega
      have hk1 : (k : Int) < (ts.length : Int) := by omega
      have hT2 : T ≤ 1099511543076 := by omega
      clear hc0 hc1 hc2
      go_upto_region 15 with fail
      obtain ⟨q, hq, hqm⟩ : ∃ q : Nat, x.h % (m : Int) = (q : Int) ∧ q < m := ⟨(x.h % (m : Int)).toNat, by have := Int.emod_nonneg x.h (b := (m : Int)) (by omega); omega, by have := Int.emod_nonneg x.h (b := (m : Int)) (by omega); have := Int.emod_lt_of_pos x.h (b := (m : Int)) (by omega); omega⟩
      rw [hq]
      obtain ⟨U, hU⟩ : ∃ U, T + x.f = U := ⟨_, rfl⟩
      rw [hU]
      have HI1 : Hid (Inv8 c n d l a U Q m) := by rw [← hU]; exact inv8_time HI.out (by omega) (by omega)
      have hU0 : 0 ≤ U := by omega
      have hU1 : U ≤ 1099511527776 + 255 * ((k + 1 : Nat) : Int) := by omega
      have hU2 : U ≤ 1099511543331 := by omega
      clear hq hU hcw0 hcw2 hT1 hT0 hT2 hf0 hf1 hh0 hh1
      have hqQ : q < Q.length := by rw [HI1.out.len]; exact hqm
      obtain ⟨p, hp⟩ : ∃ p, p = bAt Q q := ⟨_, rfl⟩
      have HPQ : Hid (p = bAt Q q) := hp
      have hgp : Hid (Good8 d U p) := by rw [hp]; exact HI1.out.ok _ (bAt_mem hqQ)
      have HCR : Hid (∀ W : World, St8 w W c n d l a g Q → W.cell? ⟨g, q * 5, none⟩ = some (.int .i64 p.c) ∧ W.cell? ⟨g, q * 5 + 1, none⟩ = some (.int .i64 p.n) ∧ W.cell? ⟨g, q * 5 + 2, none⟩ = some (.int .i64 p.d) ∧ W.cell? ⟨g, q * 5 + 3, none⟩ = some (.int .i64 p.l) ∧ W.cell? ⟨g, q * 5 + 4, none⟩ = some (.int .i64 p.a)) := fun W h => by rw [hp]; exact h.cr q hqQ
      clear hp
      have hq0 : (0 : Int) ≤ (q : Int) := by omega
      have hq1 : (q : Int) < (m : Int) := by omega
      have hp0 := (HCR.out _ HS.out).1
      have hp1 := (HCR.out _ HS.out).2.1
      have hp2 := (HCR.out _ HS.out).2.2.1
      have hp3 := (HCR.out _ HS.out).2.2.2.1
      have hp4 := (HCR.out _ HS.out).2.2.2.2
      obtain ⟨y, e, HT, HQ⟩ := take8 (p := p) (T := U) (g := x.g) hgp.out.v hgp.out.a (by omega) hg0 hg1
      have hwg : IntKind.i64.wrap x.g = x.g := IntWalk.i64_in _ (by omega)
      go_cut [16, 17] (fun s16 s17 wx => ∃ h : Nat, s16 = .pointer (some ⟨h, 0, none⟩) ∧ s17 = .int .i64 e ∧ w.heap.size < h ∧ g ≠ h ∧ Hid (St8 w wx c n d l a g Q) ∧ Hid (wx.heap[h]? = some (.cells #[.int .i64 y.c, .int .i64 y.n, .int .i64 y.d, .int .i64 y.l, .int .i64 y.a] 23 (0, 0))))
      case first =>
        go_region_held3 (fun w' => w'.cell? ⟨g, q * 5, none⟩ = some (.int .i64 p.c) ∧ w'.cell? ⟨g, q * 5 + 1, none⟩ = some (.int .i64 p.n) ∧ w'.cell? ⟨g, q * 5 + 2, none⟩ = some (.int .i64 p.d) ∧ w'.cell? ⟨g, q * 5 + 3, none⟩ = some (.int .i64 p.l) ∧ w'.cell? ⟨g, q * 5 + 4, none⟩ = some (.int .i64 p.a) ∧ w'.cell? ⟨(ad.add (k * 3)).block, (ad.add (k * 3)).off + 1, none⟩ = some (.int .u8 x.g)) (go_keep)
          (first
          | ((go_at_call 11; (with_reducible refine (HT.out _).mono ?_); rintro e1 w1 ⟨rfl, hB⟩; have HS1 : Hid (St8 w w1 c n d l a g Q) := (HS.out.drew.to hB); have gp0 : w1.cell? ⟨g, q * 5, none⟩ = some (.int .i64 p.c) := ((HCR.out _ HS1.out).1); have gp1 : w1.cell? ⟨g, q * 5 + 1, none⟩ = some (.int .i64 p.n) := ((HCR.out _ HS1.out).2.1); have gp2 : w1.cell? ⟨g, q * 5 + 2, none⟩ = some (.int .i64 p.d) := ((HCR.out _ HS1.out).2.2.1); have gp3 : w1.cell? ⟨g, q * 5 + 3, none⟩ = some (.int .i64 p.l) := ((HCR.out _ HS1.out).2.2.2.1); have gp4 : w1.cell? ⟨g, q * 5 + 4, none⟩ = some (.int .i64 p.a) := ((HCR.out _ HS1.out).2.2.2.2); have gc1 : w1.cell? ⟨(ad.add (k * 3)).block, (ad.add (k * 3)).off + 1, none⟩ = some (.int .u8 x.g) := (HCF.out _ HS1.out.below); have hsz1 := HS1.out.size; have had : (ad.add (k * 3)).block < w1.heap.size := (by have := World.block_lt_of_cell? w _ HC0.out; omega); have hglt : g < w1.heap.size := HS1.out.row.lt))
          | ((go_at_call 11; (with_reducible refine (HT.out _).mono ?_); rintro e1 w1 ⟨rfl, hB⟩; have HS1 : Hid (St8 w w1 c n d l a g Q) := ((HS.out.drew.alloc _).to hB); have gp0 : w1.cell? ⟨g, q * 5, none⟩ = some (.int .i64 p.c) := ((HCR.out _ HS1.out).1); have gp1 : w1.cell? ⟨g, q * 5 + 1, none⟩ = some (.int .i64 p.n) := ((HCR.out _ HS1.out).2.1); have gp2 : w1.cell? ⟨g, q * 5 + 2, none⟩ = some (.int .i64 p.d) := ((HCR.out _ HS1.out).2.2.1); have gp3 : w1.cell? ⟨g, q * 5 + 3, none⟩ = some (.int .i64 p.l) := ((HCR.out _ HS1.out).2.2.2.1); have gp4 : w1.cell? ⟨g, q * 5 + 4, none⟩ = some (.int .i64 p.a) := ((HCR.out _ HS1.out).2.2.2.2); have gc1 : w1.cell? ⟨(ad.add (k * 3)).block, (ad.add (k * 3)).off + 1, none⟩ = some (.int .u8 x.g) := (HCF.out _ HS1.out.below); have hsz1 := HS1.out.size; have had : (ad.add (k * 3)).block < w1.heap.size := (by have := World.block_lt_of_cell? w _ HC0.out; omega); have hglt : g < w1.heap.size := HS1.out.row.lt; have HZ : Hid (w1.heap[wr.heap.size]? = some (.cells #[.int .i64 0, .int .i64 0, .int .i64 0, .int .i64 0, .int .i64 0] 23 (0, 0))) := (kb_ hB (heap_alloc_new wr.drew _)); have gz0 : w1.cell? ⟨wr.heap.size, 0, none⟩ = some (.int .i64 0) := ((blk_cell HZ.out 0).trans rfl); have gz1 : w1.cell? ⟨wr.heap.size, 1, none⟩ = some (.int .i64 0) := ((blk_cell HZ.out 1).trans rfl); have gz2 : w1.cell? ⟨wr.heap.size, 2, none⟩ = some (.int .i64 0) := ((blk_cell HZ.out 2).trans rfl); have gz3 : w1.cell? ⟨wr.heap.size, 3, none⟩ = some (.int .i64 0) := ((blk_cell HZ.out 3).trans rfl); have gz4 : w1.cell? ⟨wr.heap.size, 4, none⟩ = some (.int .i64 0) := ((blk_cell HZ.out 4).trans rfl); have gf : ∀ i, w1.frozen? ⟨wr.heap.size, i, none⟩ = false := (fun i => blk_frozen HZ.out i); have hszr : w.heap.size < wr.heap.size := HS.out.size; have hgr : g < wr.heap.size := HS.out.row.lt; have hn1 : ¬ w.heap.size = wr.heap.size := (by omega); have hn2 : ¬ wr.heap.size = w.heap.size := (by omega); have hn5 : ¬ g = wr.heap.size := (by omega); have hn6 : ¬ wr.heap.size = g := (by omega); have hn3 : ¬ (ad.add (k * 3)).block = wr.heap.size := (by have := World.block_lt_of_cell? w _ HC0.out; omega); have hn4 : ¬ wr.heap.size = (ad.add (k * 3)).block := (by omega)))
          | ((go_at_call 11; (with_reducible refine (HT.out _).mono ?_); rintro e1 w1 ⟨rfl, hB⟩; have HS1 : Hid (St8 w w1 c n d l a g Q) := ((HS.out.alloc _).drew.to hB); have gp0 : w1.cell? ⟨g, q * 5, none⟩ = some (.int .i64 p.c) := ((HCR.out _ HS1.out).1); have gp1 : w1.cell? ⟨g, q * 5 + 1, none⟩ = some (.int .i64 p.n) := ((HCR.out _ HS1.out).2.1); have gp2 : w1.cell? ⟨g, q * 5 + 2, none⟩ = some (.int .i64 p.d) := ((HCR.out _ HS1.out).2.2.1); have gp3 : w1.cell? ⟨g, q * 5 + 3, none⟩ = some (.int .i64 p.l) := ((HCR.out _ HS1.out).2.2.2.1); have gp4 : w1.cell? ⟨g, q * 5 + 4, none⟩ = some (.int .i64 p.a) := ((HCR.out _ HS1.out).2.2.2.2); have gc1 : w1.cell? ⟨(ad.add (k * 3)).block, (ad.add (k * 3)).off + 1, none⟩ = some (.int .u8 x.g) := (HCF.out _ HS1.out.below); have hsz1 := HS1.out.size; have had : (ad.add (k * 3)).block < w1.heap.size := (by have := World.block_lt_of_cell? w _ HC0.out; omega); have hglt : g < w1.heap.size := HS1.out.row.lt; have HZ : Hid (w1.heap[wr.heap.size]? = some (.cells #[.int .i64 0, .int .i64 0, .int .i64 0, .int .i64 0, .int .i64 0] 23 (0, 0))) := (kb_ hB (heap_alloc_new wr _)); have gz0 : w1.cell? ⟨wr.heap.size, 0, none⟩ = some (.int .i64 0) := ((blk_cell HZ.out 0).trans rfl); have gz1 : w1.cell? ⟨wr.heap.size, 1, none⟩ = some (.int .i64 0) := ((blk_cell HZ.out 1).trans rfl); have gz2 : w1.cell? ⟨wr.heap.size, 2, none⟩ = some (.int .i64 0) := ((blk_cell HZ.out 2).trans rfl); have gz3 : w1.cell? ⟨wr.heap.size, 3, none⟩ = some (.int .i64 0) := ((blk_cell HZ.out 3).trans rfl); have gz4 : w1.cell? ⟨wr.heap.size, 4, none⟩ = some (.int .i64 0) := ((blk_cell HZ.out 4).trans rfl); have gf : ∀ i, w1.frozen? ⟨wr.heap.size, i, none⟩ = false := (fun i => blk_frozen HZ.out i); have hszr : w.heap.size < wr.heap.size := HS.out.size; have hgr : g < wr.heap.size := HS.out.row.lt; have hn1 : ¬ w.heap.size = wr.heap.size := (by omega); have hn2 : ¬ wr.heap.size = w.heap.size := (by omega); have hn5 : ¬ g = wr.heap.size := (by omega); have hn6 : ¬ wr.heap.size = g := (by omega); have hn3 : ¬ (ad.add (k * 3)).block = wr.heap.size := (by have := World.block_lt_of_cell? w _ HC0.out; omega); have hn4 : ¬ wr.heap.size = (ad.add (k * 3)).block := (by omega))))
        all_goals go_wp2_with fail
        all_goals go_meet
        case rel => exact ⟨w1.heap.size, rfl, rfl, HS1.out.size, by have := HS1.out.row.lt; omega, HS1.out.alloc _, heap_alloc_new _ _⟩
        case rel => exact ⟨wr.heap.size, rfl, rfl, HS.out.size, hn5, ((((HS1.out.far hszr hn5 0 _).far hszr hn5 1 _).far hszr hn5 2 _).far hszr hn5 3 _).far hszr hn5 4 _, (blk_set (blk_set (blk_set (blk_set (blk_set HZ.out 0 _) 1 _) 2 _) 3 _) 4 _).trans rfl⟩
      case rest =>
        obtain ⟨h, rfl, rfl, hh, hgh, HS2, HG⟩ := hcut
        obtain ⟨wk, rfl⟩ : ∃ wk : World, wk = wc := ⟨_, rfl⟩
        clear hp0 hp1 hp2 hp3 hp4 hcw1
        rcases HQ.out with ⟨rfl, hq1, hq2, hq3⟩ | rfl | rfl
        · have HQ2 : Hid (y = takeB U x.g p ∧ x.g * p.d ≤ levB U p) := ⟨hq1, hq2⟩
          clear hq1 hq2 HQ
          obtain ⟨HI2, hle⟩ := inv8_take HI1.out hU0 (by omega) hqm hg0 (by have := HQ2.out.2; rw [hgp.out.d, HPQ.out] at this; exact this)
          have HT2 : Hid (∀ w : World, Calls Try.prog 11 #[bk c n d l a, .int .i64 U, .int .i64 x.g] w fun r w' => r = .returned (.tuple #[bk c n d (lev c n d l a U - x.g * d) U, .int .i64 0]) ∧ Below w.heap.size w w') :=
            fun w => take11_fine c n d l a _ _ _ w HI1.out.v hq3 (by omega) HI1.out.aT (by omega) rfl hle
          obtain ⟨L, hL⟩ : ∃ L, L = lev c n d l a U - x.g * d := ⟨_, rfl⟩
          rw [← hL] at HT2 HI2
          rw [← HPQ.out, ← HQ2.out.1] at HI2
          have HI3 : Hid (Inv8 c n d L U U (Q.set q y) m) := HI2
          clear hL hle HI2 hq3
          have hc1 := HCF.out _ HS2.out.below
          have hb0 := HS2.out.cb.1
          have hb1 := HS2.out.cb.2.1
          have hb2 := HS2.out.cb.2.2.1
          have hb3 := HS2.out.cb.2.2.2.1
          have hb4 := HS2.out.cb.2.2.2.2
          have hwk := HS2.out.size
          go_upto_region 17 with fail
          have hwg : IntKind.i64.wrap x.g = x.g := IntWalk.i64_in _ (by omega)
          go_cut [18, 19] (fun s18 s19 wx => ∃ h2 : Nat, s18 = .pointer (some ⟨h2, 0, none⟩) ∧ s19 = .int .i64 0 ∧ w.heap.size < h2 ∧ g ≠ h2 ∧ Hid (St8 w wx c n d l a g Q) ∧ Hid (wx.heap[h]? = some (.cells #[.int .i64 y.c, .int .i64 y.n, .int .i64 y.d, .int .i64 y.l, .int .i64 y.a] 23 (0, 0))) ∧ Hid (wx.heap[h2]? = some (.cells #[.int .i64 c, .int .i64 n, .int .i64 d, .int .i64 L, .int .i64 U] 23 (0, 0))))
          case first =>
            go_region_held3 (fun w' => w'.cell? ⟨w.heap.size, 0, none⟩ = some (.int .i64 c) ∧ w'.cell? ⟨w.heap.size, 1, none⟩ = some (.int .i64 n) ∧ w'.cell? ⟨w.heap.size, 2, none⟩ = some (.int .i64 d) ∧ w'.cell? ⟨w.heap.size, 3, none⟩ = some (.int .i64 l) ∧ w'.cell? ⟨w.heap.size, 4, none⟩ = some (.int .i64 a) ∧ w'.cell? ⟨(ad.add (k * 3)).block, (ad.add (k * 3)).off + 1, none⟩ = some (.int .u8 x.g)) (go_keep)
              (first
          | ((go_at_call 11; (with_reducible refine (HT2.out _).mono ?_); rintro e1 w1 ⟨rfl, hB⟩; have HS1 : Hid (St8 w w1 c n d l a g Q) := (HS2.out.drew.to hB); have gb0 : w1.cell? ⟨w.heap.size, 0, none⟩ = some (.int .i64 c) := (HS1.out.cb.1); have gb1 : w1.cell? ⟨w.heap.size, 1, none⟩ = some (.int .i64 n) := (HS1.out.cb.2.1); have gb2 : w1.cell? ⟨w.heap.size, 2, none⟩ = some (.int .i64 d) := (HS1.out.cb.2.2.1); have gb3 : w1.cell? ⟨w.heap.size, 3, none⟩ = some (.int .i64 l) := (HS1.out.cb.2.2.2.1); have gb4 : w1.cell? ⟨w.heap.size, 4, none⟩ = some (.int .i64 a) := (HS1.out.cb.2.2.2.2); have gc1 : w1.cell? ⟨(ad.add (k * 3)).block, (ad.add (k * 3)).off + 1, none⟩ = some (.int .u8 x.g) := (HCF.out _ HS1.out.below); have hsz1 := HS1.out.size; have had : (ad.add (k * 3)).block < w1.heap.size := (by have := World.block_lt_of_cell? w _ HC0.out; omega); have hglt : g < w1.heap.size := HS1.out.row.lt; have HG1 : Hid (w1.heap[h]? = some (.cells #[.int .i64 y.c, .int .i64 y.n, .int .i64 y.d, .int .i64 y.l, .int .i64 y.a] 23 (0, 0))) := (kb_ hB (HG.out))))
          | ((go_at_call 11; (with_reducible refine (HT2.out _).mono ?_); rintro e1 w1 ⟨rfl, hB⟩; have HS1 : Hid (St8 w w1 c n d l a g Q) := ((HS2.out.drew.alloc _).to hB); have gb0 : w1.cell? ⟨w.heap.size, 0, none⟩ = some (.int .i64 c) := (HS1.out.cb.1); have gb1 : w1.cell? ⟨w.heap.size, 1, none⟩ = some (.int .i64 n) := (HS1.out.cb.2.1); have gb2 : w1.cell? ⟨w.heap.size, 2, none⟩ = some (.int .i64 d) := (HS1.out.cb.2.2.1); have gb3 : w1.cell? ⟨w.heap.size, 3, none⟩ = some (.int .i64 l) := (HS1.out.cb.2.2.2.1); have gb4 : w1.cell? ⟨w.heap.size, 4, none⟩ = some (.int .i64 a) := (HS1.out.cb.2.2.2.2); have gc1 : w1.cell? ⟨(ad.add (k * 3)).block, (ad.add (k * 3)).off + 1, none⟩ = some (.int .u8 x.g) := (HCF.out _ HS1.out.below); have hsz1 := HS1.out.size; have had : (ad.add (k * 3)).block < w1.heap.size := (by have := World.block_lt_of_cell? w _ HC0.out; omega); have hglt : g < w1.heap.size := HS1.out.row.lt; have HZ : Hid (w1.heap[wk.heap.size]? = some (.cells #[.int .i64 0, .int .i64 0, .int .i64 0, .int .i64 0, .int .i64 0] 23 (0, 0))) := (kb_ hB (heap_alloc_new wk.drew _)); have gz0 : w1.cell? ⟨wk.heap.size, 0, none⟩ = some (.int .i64 0) := ((blk_cell HZ.out 0).trans rfl); have gz1 : w1.cell? ⟨wk.heap.size, 1, none⟩ = some (.int .i64 0) := ((blk_cell HZ.out 1).trans rfl); have gz2 : w1.cell? ⟨wk.heap.size, 2, none⟩ = some (.int .i64 0) := ((blk_cell HZ.out 2).trans rfl); have gz3 : w1.cell? ⟨wk.heap.size, 3, none⟩ = some (.int .i64 0) := ((blk_cell HZ.out 3).trans rfl); have gz4 : w1.cell? ⟨wk.heap.size, 4, none⟩ = some (.int .i64 0) := ((blk_cell HZ.out 4).trans rfl); have gf : ∀ i, w1.frozen? ⟨wk.heap.size, i, none⟩ = false := (fun i => blk_frozen HZ.out i); have hszr : w.heap.size < wk.heap.size := HS2.out.size; have hgr : g < wk.heap.size := HS2.out.row.lt; have hn1 : ¬ w.heap.size = wk.heap.size := (by omega); have hn2 : ¬ wk.heap.size = w.heap.size := (by omega); have hn5 : ¬ g = wk.heap.size := (by omega); have hn6 : ¬ wk.heap.size = g := (by omega); have hn3 : ¬ (ad.add (k * 3)).block = wk.heap.size := (by have := World.block_lt_of_cell? w _ HC0.out; omega); have hn4 : ¬ wk.heap.size = (ad.add (k * 3)).block := (by omega); have HG1 : Hid (w1.heap[h]? = some (.cells #[.int .i64 y.c, .int .i64 y.n, .int .i64 y.d, .int .i64 y.l, .int .i64 y.a] 23 (0, 0))) := (kb_ hB (blk_alloc HG.out _)); have hhw : h ≠ wk.heap.size := (by have := (Array.getElem?_eq_some_iff.1 HG.out).1; omega)))
          | ((go_at_call 11; (with_reducible refine (HT2.out _).mono ?_); rintro e1 w1 ⟨rfl, hB⟩; have HS1 : Hid (St8 w w1 c n d l a g Q) := ((HS2.out.alloc _).drew.to hB); have gb0 : w1.cell? ⟨w.heap.size, 0, none⟩ = some (.int .i64 c) := (HS1.out.cb.1); have gb1 : w1.cell? ⟨w.heap.size, 1, none⟩ = some (.int .i64 n) := (HS1.out.cb.2.1); have gb2 : w1.cell? ⟨w.heap.size, 2, none⟩ = some (.int .i64 d) := (HS1.out.cb.2.2.1); have gb3 : w1.cell? ⟨w.heap.size, 3, none⟩ = some (.int .i64 l) := (HS1.out.cb.2.2.2.1); have gb4 : w1.cell? ⟨w.heap.size, 4, none⟩ = some (.int .i64 a) := (HS1.out.cb.2.2.2.2); have gc1 : w1.cell? ⟨(ad.add (k * 3)).block, (ad.add (k * 3)).off + 1, none⟩ = some (.int .u8 x.g) := (HCF.out _ HS1.out.below); have hsz1 := HS1.out.size; have had : (ad.add (k * 3)).block < w1.heap.size := (by have := World.block_lt_of_cell? w _ HC0.out; omega); have hglt : g < w1.heap.size := HS1.out.row.lt; have HZ : Hid (w1.heap[wk.heap.size]? = some (.cells #[.int .i64 0, .int .i64 0, .int .i64 0, .int .i64 0, .int .i64 0] 23 (0, 0))) := (kb_ hB (heap_alloc_new wk _)); have gz0 : w1.cell? ⟨wk.heap.size, 0, none⟩ = some (.int .i64 0) := ((blk_cell HZ.out 0).trans rfl); have gz1 : w1.cell? ⟨wk.heap.size, 1, none⟩ = some (.int .i64 0) := ((blk_cell HZ.out 1).trans rfl); have gz2 : w1.cell? ⟨wk.heap.size, 2, none⟩ = some (.int .i64 0) := ((blk_cell HZ.out 2).trans rfl); have gz3 : w1.cell? ⟨wk.heap.size, 3, none⟩ = some (.int .i64 0) := ((blk_cell HZ.out 3).trans rfl); have gz4 : w1.cell? ⟨wk.heap.size, 4, none⟩ = some (.int .i64 0) := ((blk_cell HZ.out 4).trans rfl); have gf : ∀ i, w1.frozen? ⟨wk.heap.size, i, none⟩ = false := (fun i => blk_frozen HZ.out i); have hszr : w.heap.size < wk.heap.size := HS2.out.size; have hgr : g < wk.heap.size := HS2.out.row.lt; have hn1 : ¬ w.heap.size = wk.heap.size := (by omega); have hn2 : ¬ wk.heap.size = w.heap.size := (by omega); have hn5 : ¬ g = wk.heap.size := (by omega); have hn6 : ¬ wk.heap.size = g := (by omega); have hn3 : ¬ (ad.add (k * 3)).block = wk.heap.size := (by have := World.block_lt_of_cell? w _ HC0.out; omega); have hn4 : ¬ wk.heap.size = (ad.add (k * 3)).block := (by omega); have HG1 : Hid (w1.heap[h]? = some (.cells #[.int .i64 y.c, .int .i64 y.n, .int .i64 y.d, .int .i64 y.l, .int .i64 y.a] 23 (0, 0))) := (kb_ hB (blk_alloc HG.out _)); have hhw : h ≠ wk.heap.size := (by have := (Array.getElem?_eq_some_iff.1 HG.out).1; omega))))
            all_goals go_wp2_with fail
            all_goals go_meet
            case rel => exact ⟨w1.heap.size, rfl, rfl, HS1.out.size, by have := HS1.out.row.lt; omega, HS1.out.alloc _, blk_alloc HG1.out _, heap_alloc_new _ _⟩
            case rel => exact ⟨wk.heap.size, rfl, rfl, HS2.out.size, hn5, ((((HS1.out.far hszr hn5 0 _).far hszr hn5 1 _).far hszr hn5 2 _).far hszr hn5 3 _).far hszr hn5 4 _, blk_far (blk_far (blk_far (blk_far (blk_far HG1.out hhw _) hhw _) hhw _) hhw _) hhw _, (blk_set (blk_set (blk_set (blk_set (blk_set HZ.out 0 _) 1 _) 2 _) 3 _) 4 _).trans rfl⟩
          case rest =>
            obtain ⟨h2, rfl, rfl, hh2, hgh2, HS3, HG3, HH3⟩ := hcut
            clear hb0 hb1 hb2 hb3 hb4 hwk hwg hc1
            have hgw := HS3.out.gt
            have e1 : ¬ h2 = g := fun e => hgh2 e.symm
            have e2 : ¬ g = h2 := hgh2
            have e3 : ¬ h = g := fun e => hgh e.symm
            have e4 : ¬ g = h := hgh
            have e5 : ¬ w.heap.size = g := by omega
            have e6 : ¬ g = w.heap.size := by omega
            have hf1 : ∀ i, wc.frozen? ⟨g, i, none⟩ = false := fun i => HS3.out.row.frozen i
            have hf2 : ∀ i, wc.frozen? ⟨w.heap.size, i, none⟩ = false := fun i => blk_frozen HS3.out.b i
            have hy0 : wc.cell? ⟨h, 0, none⟩ = some (.int .i64 y.c) := (blk_cell HG3.out 0).trans rfl
            have hy1 : wc.cell? ⟨h, 1, none⟩ = some (.int .i64 y.n) := (blk_cell HG3.out 1).trans rfl
            have hy2 : wc.cell? ⟨h, 2, none⟩ = some (.int .i64 y.d) := (blk_cell HG3.out 2).trans rfl
            have hy3 : wc.cell? ⟨h, 3, none⟩ = some (.int .i64 y.l) := (blk_cell HG3.out 3).trans rfl
            have hy4 : wc.cell? ⟨h, 4, none⟩ = some (.int .i64 y.a) := (blk_cell HG3.out 4).trans rfl
            have hz0 : wc.cell? ⟨h2, 0, none⟩ = some (.int .i64 c) := (blk_cell HH3.out 0).trans rfl
            have hz1 : wc.cell? ⟨h2, 1, none⟩ = some (.int .i64 n) := (blk_cell HH3.out 1).trans rfl
            have hz2 : wc.cell? ⟨h2, 2, none⟩ = some (.int .i64 d) := (blk_cell HH3.out 2).trans rfl
            have hz3 : wc.cell? ⟨h2, 3, none⟩ = some (.int .i64 L) := (blk_cell HH3.out 3).trans rfl
            have hz4 : wc.cell? ⟨h2, 4, none⟩ = some (.int .i64 U) := (blk_cell HH3.out 4).trans rfl
            have hb0 := HS3.out.cb.1
            have hb1 := HS3.out.cb.2.1
            have hb2 := HS3.out.cb.2.2.1
            have hb3 := HS3.out.cb.2.2.2.1
            have hb4 := HS3.out.cb.2.2.2.2
            have hp0 := (HCR.out _ HS3.out).1
            have hp1 := (HCR.out _ HS3.out).2.1
            have hp2 := (HCR.out _ HS3.out).2.2.1
            have hp3 := (HCR.out _ HS3.out).2.2.2.1
            have hp4 := (HCR.out _ HS3.out).2.2.2.2
            go_wp2_with fail
            go_roundw
            case rel => exact ⟨k + 1, L, U, U, Q.set q y, by omega, by go_num, rfl, hU0, hU1, (HS3.out.setp hqQ y).setb _ _ _ _ _ rfl rfl rfl, HI3⟩
            case measure => simp [intOf]; omega
        · go_wp2_with fail
          go_roundw
          case rel => exact ⟨k + 1, l, a, U, Q, by omega, by go_num, rfl, hU0, hU1, HS2, HI1⟩
          case measure => simp [intOf]; omega
        · go_wp2_with fail
          go_roundw
          case rel => exact ⟨k + 1, l, a, U, Q, by omega, by go_num, rfl, hU0, hU1, HS2, HI1⟩
          case measure => simp [intOf]; omega
    · obtain ⟨wo, rfl⟩ : ∃ wo : World, wo = wr := ⟨_, rfl⟩
      have hT2 : T ≤ 1099511543076 := by omega
      have HS4 : Hid (St8 w wo c n d l a g (refTo T Q 0)) := by rw [refTo_zero]; exact HS.out
      go_wp2_with fail
      go_loopw [20] (fun j wq => ∃ q : Nat, q ≤ m ∧ j = .int .i64 q ∧ Hid (St8 w wq c n d l a g (refTo T Q q))) (fun j _ => m - (intOf j).toNat)
      case atStart => exact ⟨0, Nat.zero_le _, rfl, HS4⟩
      case round =>
        obtain ⟨q, hq, rfl, HS5⟩ := hrel
        by_cases hqm : q < m
        · have hqQ : q < Q.length := by rw [HI.out.len]; exact hqm
          obtain ⟨p, hp⟩ : ∃ p, p = bAt Q q := ⟨_, rfl⟩
          have HPQ : Hid (p = bAt Q q) := hp
          have hgp : Hid (Good8 d T p) := by rw [hp]; exact HI.out.ok _ (bAt_mem hqQ)
          have HCR : Hid (∀ W : World, St8 w W c n d l a g (refTo T Q q) → W.cell? ⟨g, q * 5, none⟩ = some (.int .i64 p.c) ∧ W.cell? ⟨g, q * 5 + 1, none⟩ = some (.int .i64 p.n) ∧ W.cell? ⟨g, q * 5 + 2, none⟩ = some (.int .i64 p.d) ∧ W.cell? ⟨g, q * 5 + 3, none⟩ = some (.int .i64 p.l) ∧ W.cell? ⟨g, q * 5 + 4, none⟩ = some (.int .i64 p.a)) := fun W h => by
            have h9 := h.cr q (by rw [refTo_length T Q q (by omega)]; exact hqQ)
            rw [refTo_at hqQ, ← hp] at h9
            exact h9
          clear hp
          have hq0 : (0 : Int) ≤ (q : Int) := by omega
          have hq1 : (q : Int) < (m : Int) := by omega
          have hp0 := (HCR.out _ HS5.out).1
          have hp1 := (HCR.out _ HS5.out).2.1
          have hp2 := (HCR.out _ HS5.out).2.2.1
          have hp3 := (HCR.out _ HS5.out).2.2.2.1
          have hp4 := (HCR.out _ HS5.out).2.2.2.2
          have hwr := HS5.out.size
          have HT : Hid (∀ W : World, Calls Try.prog 10 #[bk p.c p.n p.d p.l p.a, .int .i64 T] W fun e w' => e = .returned (.tuple #[bk p.c p.n p.d (levB T p) T, .int .i64 0]) ∧ Below W.heap.size W w') := fun W => refill10_ok p.c p.n p.d p.l p.a T _ W hgp.out.v hgp.out.a (by omega) rfl
          go_wp2_with fail
          go_at_call 10
          with_reducible refine (HT.out _).mono ?_
          rintro e w3 ⟨rfl, hB⟩
          obtain ⟨L, hL⟩ : ∃ L, L = levB T p := ⟨_, rfl⟩
          rw [← hL]
          have HS6 : Hid (St8 w w3 c n d l a g (refTo T Q q)) := HS5.out.to hB
          have HE : Hid ((refTo T Q q).set q ⟨p.c, p.n, p.d, L, T⟩ = refTo T Q (q + 1)) := by rw [hL, HPQ.out]; exact refTo_step hqQ
          clear hL hB hp0 hp1 hp2 hp3 hp4
          have hgt := HS6.out.gt
          have hgl := HS6.out.row.lt
          have hg1 : ¬ g = w3.heap.size := by omega
          have hg2 : ¬ w3.heap.size = g := by omega
          have hf1 : ∀ i, w3.frozen? ⟨g, i, none⟩ = false := fun i => HS6.out.row.frozen i
          have hp0 := (HCR.out _ HS6.out).1
          have hp1 := (HCR.out _ HS6.out).2.1
          have hp2 := (HCR.out _ HS6.out).2.2.1
          have hp3 := (HCR.out _ HS6.out).2.2.2.1
          have hp4 := (HCR.out _ HS6.out).2.2.2.2
          go_wp2_with fail
          go_roundw
          case rel => exact ⟨q + 1, by omega, by go_num, by rw [← HE.out]; exact (HS6.out.setp (by rw [refTo_length T Q q (by omega)]; exact hqQ) ⟨p.c, p.n, p.d, L, T⟩).alloc _⟩
          case measure => simp [intOf]; omega
        · obtain rfl : q = m := by omega
          have HE : Hid (refTo T Q q = Q.map (refB T)) := by have := refTo_all T Q; rw [HI.out.len] at this; exact this
          have HS6 : Hid (St8 w wr c n d l a g (Q.map (refB T))) := by rw [← HE.out]; exact HS5.out
          have HM := Hid.mk' (inv8_end HI.out hT0 (by omega) h1 h64)
          obtain ⟨S, hS⟩ : ∃ S, S = sumB (levB T) Q := ⟨_, rfl⟩
          obtain ⟨L, hL⟩ : ∃ L, L = lev c n d l a T := ⟨_, rfl⟩
          have hle : S ≤ L := by rw [hS, hL]; exact HI.out.le
          rw [← hS] at HM
          have HT : Hid (∀ W : World, Calls Try.prog 10 #[bk c n d l a, .int .i64 T] W fun e w' => e = .returned (.tuple #[bk c n d L T, .int .i64 0]) ∧ Below W.heap.size W w') := fun W => refill10_ok c n d l a T _ W HI.out.v HI.out.aT (by omega) hL
          have HMM : Hid (∀ (W : World) (cp : Nat), St8 w W c n d l a g (Q.map (refB T)) → Calls Try.prog 25 #[.slice (some ⟨g, 0, none⟩) q cp] W fun r w' => r = .returned (.tuple #[bk c n d S T, .int .i64 0]) ∧ Below W.heap.size W w') := fun W cp h =>
            merge8 (by rw [List.length_map]; exact HI.out.len) (h.row.reads (by rw [List.length_map, HI.out.len]; omega)) HM.out
          clear hS hL HM HE HS5
          have hb0 := HS6.out.cb.1
          have hb1 := HS6.out.cb.2.1
          have hb2 := HS6.out.cb.2.2.1
          have hb3 := HS6.out.cb.2.2.2.1
          have hb4 := HS6.out.cb.2.2.2.2
          go_wp2_with fail
          go_at_call 10
          with_reducible refine (HT.out _).mono ?_
          rintro e w3 ⟨rfl, hB⟩
          have HS7 : Hid (St8 w w3 c n d l a g (Q.map (refB T))) := HS6.out.to hB
          clear hB
          go_wp2_with fail
          have HX3 : Hid ((w3.alloc (bo c n d L T)).heap[w3.heap.size]? = some (bo c n d L T)) := heap_alloc_new _ _
          have HS8 : Hid (St8 w (w3.alloc (bo c n d L T)) c n d l a g (Q.map (refB T))) := HS7.out.alloc _
          go_at_call 25
          with_reducible refine (HMM.out _ _ HS8.out).mono ?_
          rintro e w4 ⟨rfl, hB⟩
          have HS9 : Hid (St8 w w4 c n d l a g (Q.map (refB T))) := HS8.out.to hB
          have HX4 : Hid (w4.heap[w3.heap.size]? = some (bo c n d L T)) := kb_ hB HX3.out
          clear hB
          go_wp2_with fail
          have HX5 : Hid ((w4.alloc (bo c n d S T)).heap[w3.heap.size]? = some (bo c n d L T)) := blk_alloc HX4.out _
          have HY5 : Hid ((w4.alloc (bo c n d S T)).heap[w4.heap.size]? = some (bo c n d S T)) := heap_alloc_new _ _
          have HB5 : Hid (Below w.heap.size w (w4.alloc (bo c n d S T))) := (HS9.out.alloc _).below
          go_at_call 19
          refine (sanity_any _).mono ?_
          rintro e w5 ⟨rfl, hB⟩
          have hx3 : w5.cell? ⟨w3.heap.size, 3, none⟩ = some (.int .i64 L) := (blk_cell (kb_ hB HX5.out) 3).trans rfl
          have hy3 : w5.cell? ⟨w4.heap.size, 3, none⟩ = some (.int .i64 S) := (blk_cell (kb_ hB HY5.out) 3).trans rfl
          have HB6 : Hid (Below w.heap.size w w5) := below_then HB5.out HB5.out.size hB
          clear hB
          go_wp2_with fail
          go_ret
          exact ⟨rfl, HB6.out⟩


end Go.Proofs.Ytcikmloklbdddaa
