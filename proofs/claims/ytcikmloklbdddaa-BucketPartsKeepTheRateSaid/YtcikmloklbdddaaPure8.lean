/- Parts of a bucket that is split give together what the bucket gives, in numbers. No condition. -/
import Derived.Test.YtcikmloklbdddaaWWords
import Derived.Test.YtcikmloklbdddaaPart7b
import Derived.Deep.DeepCutAuto
import Derived.Tactics2
import Derived.StillTailTactics
set_option linter.unusedVariables false
set_option linter.unusedSimpArgs false
namespace Go.Proofs.Ytcikmloklbdddaa
open Go.RowKit
open Go.Proofs.YtcikmloklbdddaaW.PrintWords (ReadsInt rd own_nil blk_frozen own_weaken own_setCell own_base own_lt blk_set add_block blk_alloc blk_below blk_far blk_grown pw_own_below add_field own_slice blk_cell)
theorem lev_later {c n d l a t u : Int} (hv : V c n d l a) (h1 : a ≤ t) (h2 : t ≤ u) : lev c n d l a u ≤ lev c n d l a t + n * (u - t) := by
  have e : n * (u - a) = n * (t - a) + n * (u - t) := by rw [← Int.mul_add]; congr 1; omega
  have hp : 0 ≤ n * (u - t) := Int.mul_nonneg hv.2.2.1 (by omega)
  unfold lev
  rw [e]
  split <;> split <;> omega
/-! ### law 8, plain -/
def sumB (f : BK → Int) : List BK → Int
  | [] => 0
  | b :: l => f b + sumB f l
theorem bAt_zero (b : BK) (l : List BK) : bAt (b :: l) 0 = b := rfl
theorem bAt_succ (b : BK) (l : List BK) (k : Nat) : bAt (b :: l) (k + 1) = bAt l k := rfl
theorem sumB_set (f : BK → Int) (q : BK) : ∀ (l : List BK) (k : Nat), k < l.length → sumB f (l.set k q) = sumB f l - f (bAt l k) + f q := by
  intro l
  induction l with
  | nil => intro k h; simp at h
  | cons b l ih =>
    intro k h
    cases k with
    | zero => simp only [List.set_cons_zero, sumB, bAt_zero]; omega
    | succ k =>
      have := ih k (by simpa using h)
      simp only [List.set_cons_succ, sumB, bAt_succ]; omega
theorem sumB_le {f g : BK → Int} : ∀ (l : List BK), (∀ p ∈ l, f p ≤ g p) → sumB f l ≤ sumB g l := by
  intro l
  induction l with
  | nil => intro _; exact Int.le_refl _
  | cons b l ih =>
    intro h
    have h1 := h b (List.mem_cons_self ..)
    have h2 := ih (fun p hp => h p (List.mem_cons_of_mem _ hp))
    simp only [sumB]; omega
theorem sumB_eq {f g : BK → Int} (l : List BK) (h : ∀ p ∈ l, f p = g p) : sumB f l = sumB g l :=
  Int.le_antisymm (sumB_le l fun p hp => Int.le_of_eq (h p hp)) (sumB_le l fun p hp => Int.le_of_eq (h p hp).symm)
theorem sumB_add (f g : BK → Int) : ∀ l : List BK, sumB (fun p => f p + g p) l = sumB f l + sumB g l := by
  intro l
  induction l with
  | nil => rfl
  | cons b l ih => simp only [sumB, ih]; omega
theorem sumB_mul (f : BK → Int) (k : Int) : ∀ l : List BK, sumB (fun p => f p * k) l = sumB f l * k := by
  intro l
  induction l with
  | nil => simp [sumB]
  | cons b l ih => simp only [sumB, ih, Int.add_mul]
theorem sumB_nonneg {f : BK → Int} : ∀ (l : List BK), (∀ p ∈ l, 0 ≤ f p) → 0 ≤ sumB f l := by
  intro l
  induction l with
  | nil => intro _; exact Int.le_refl _
  | cons b l ih =>
    intro h
    have h1 := h b (List.mem_cons_self ..)
    have h2 := ih (fun p hp => h p (List.mem_cons_of_mem _ hp))
    simp only [sumB]; omega
theorem sumB_one {f : BK → Int} : ∀ (l : List BK) (k : Nat), (∀ p ∈ l, 0 ≤ f p) → k < l.length → f (bAt l k) ≤ sumB f l := by
  intro l
  induction l with
  | nil => intro k _ h; simp at h
  | cons b l ih =>
    intro k h hk
    have h1 := h b (List.mem_cons_self ..)
    have h3 : ∀ p ∈ l, 0 ≤ f p := fun p hp => h p (List.mem_cons_of_mem _ hp)
    have h4 := sumB_nonneg l h3
    cases k with
    | zero => simp only [sumB, bAt_zero]; omega
    | succ k =>
      have h2 := ih k h3 (by simpa using hk)
      simp only [sumB, bAt_succ]; omega
theorem sumB_map (f : BK → Int) (g : BK → BK) : ∀ l : List BK, sumB f (l.map g) = sumB (fun p => f (g p)) l := by
  intro l
  induction l with
  | nil => rfl
  | cons b l ih => simp only [List.map_cons, sumB, ih]
def levB (T : Int) (p : BK) : Int := lev p.c p.n p.d p.l p.a T
structure Good8 (d T : Int) (p : BK) : Prop where
  v : V p.c p.n p.d p.l p.a
  d : p.d = d
  a : p.a ≤ T
structure Inv8 (c n d l a T : Int) (P : List BK) (m : Nat) : Prop where
  v : V c n d l a
  aT : a ≤ T
  len : P.length = m
  ok : ∀ p ∈ P, Good8 d T p
  cs : sumB (·.c) P = c
  ns : sumB (·.n) P = n
  le : sumB (levB T) P ≤ lev c n d l a T
theorem inv8_cap {c n d l a T : Int} {P : List BK} {m : Nat} (h : Inv8 c n d l a T P m) (hT : T ≤ 1099511627776) : sumB (levB T) P ≤ c * d := by
  have h1 : sumB (levB T) P ≤ sumB (fun p => p.c * d) P := sumB_le _ fun p hp => by
    have g := h.ok p hp
    have := (lev_le g.v g.a hT).2.1
    rw [g.d] at this
    unfold levB
    rw [g.d]
    exact this
  rw [sumB_mul, h.cs] at h1
  exact h1
theorem inv8_time {c n d l a T U : Int} {P : List BK} {m : Nat} (h : Inv8 c n d l a T P m) (hTU : T ≤ U) (hU : U ≤ 1099511627776) : Inv8 c n d l a U P m := by
  have hok : ∀ p ∈ P, Good8 d U p := fun p hp => ⟨(h.ok p hp).v, (h.ok p hp).d, Int.le_trans (h.ok p hp).a hTU⟩
  have hcap : sumB (levB U) P ≤ c * d := by
    have h1 : sumB (levB U) P ≤ sumB (fun p => p.c * d) P := sumB_le _ fun p hp => by
      have g := hok p hp
      have := (lev_le g.v g.a hU).2.1
      rw [g.d] at this
      unfold levB
      rw [g.d]
      exact this
    rw [sumB_mul, h.cs] at h1
    exact h1
  have hsum : sumB (levB U) P ≤ sumB (levB T) P + n * (U - T) := by
    have h1 : sumB (levB U) P ≤ sumB (fun p => levB T p + p.n * (U - T)) P := sumB_le _ fun p hp => lev_later (h.ok p hp).v (h.ok p hp).a hTU
    rw [sumB_add, sumB_mul, h.ns] at h1
    exact h1
  refine ⟨h.v, Int.le_trans h.aT hTU, h.len, hok, h.cs, h.ns, ?_⟩
  have hle := h.le
  have e : n * (U - a) = n * (T - a) + n * (U - T) := by rw [← Int.mul_add]; congr 1; omega
  have h3 := (lev_le h.v h.aT (by omega)).2.2.1
  unfold lev
  split <;> omega
theorem lev_self8 {c n d l a : Int} (h : V c n d l a) : lev c n d l a a = l := by
  unfold lev
  have h1 := h.2.2.2.2.2.2.2.1
  rw [Int.sub_self, Int.mul_zero, Int.add_zero, if_neg (by omega)]
theorem mem_set8 {q p : BK} : ∀ (l : List BK) (k : Nat), p ∈ l.set k q → p = q ∨ p ∈ l := by
  intro l k h
  rcases List.mem_or_eq_of_mem_set h with h | h
  · exact .inr h
  · exact .inl h
def takeB (T g : Int) (p : BK) : BK := ⟨p.c, p.n, p.d, levB T p - g * p.d, T⟩
theorem inv8_take {c n d l a T g : Int} {P : List BK} {m k : Nat} (h : Inv8 c n d l a T P m) (hT0 : 0 ≤ T) (hT : T ≤ 1099511627776) (hk : k < m) (hg : 0 ≤ g) (hx : g * d ≤ levB T (bAt P k)) :
    Inv8 c n d (lev c n d l a T - g * d) T T (P.set k (takeB T g (bAt P k))) m ∧ g * d ≤ lev c n d l a T := by
  have hk' : k < P.length := by rw [h.len]; exact hk
  have gp := h.ok _ (bAt_mem hk')
  have hlv := lev_le h.v h.aT hT
  have hd0 : 0 ≤ d := by have := h.v.2.2.2.2.1; omega
  have hgd : 0 ≤ g * d := Int.mul_nonneg hg hd0
  have hone := sumB_one P k (f := levB T) (fun p hp => (lev_le (h.ok p hp).v (h.ok p hp).a hT).2.2.2) hk'
  have hle := h.le
  have hw : g * d ≤ lev c n d l a T := by omega
  have hlp := lev_le gp.v gp.a hT
  have hV : V c n d (lev c n d l a T - g * d) T := ⟨h.v.1, h.v.2.1, h.v.2.2.1, h.v.2.2.2.1, h.v.2.2.2.2.1, h.v.2.2.2.2.2.1, by omega, by omega, hT0, hT⟩
  have hVp : V (takeB T g (bAt P k)).c (takeB T g (bAt P k)).n (takeB T g (bAt P k)).d (takeB T g (bAt P k)).l (takeB T g (bAt P k)).a := by
    have hx' : g * (bAt P k).d ≤ levB T (bAt P k) := by rw [gp.d]; exact hx
    have hgd' : 0 ≤ g * (bAt P k).d := by rw [gp.d]; exact hgd
    unfold levB at hx'
    refine ⟨gp.v.1, gp.v.2.1, gp.v.2.2.1, gp.v.2.2.2.1, gp.v.2.2.2.2.1, gp.v.2.2.2.2.2.1, ?_, ?_, hT0, hT⟩
    · show 0 ≤ levB T (bAt P k) - g * (bAt P k).d
      unfold levB; omega
    · show levB T (bAt P k) - g * (bAt P k).d ≤ (bAt P k).c * (bAt P k).d
      unfold levB; omega
  refine ⟨⟨hV, Int.le_refl _, by simp [h.len], ?_, ?_, ?_, ?_⟩, hw⟩
  · intro p hp
    rcases mem_set8 _ _ hp with rfl | hp
    · exact ⟨hVp, gp.d, Int.le_refl _⟩
    · exact h.ok p hp
  · have e := sumB_set (·.c) (takeB T g (bAt P k)) P k hk'
    have e2 := h.cs
    simp only [takeB] at e ⊢
    omega
  · have e := sumB_set (·.n) (takeB T g (bAt P k)) P k hk'
    have e2 := h.ns
    simp only [takeB] at e ⊢
    omega
  · have e := sumB_set (levB T) (takeB T g (bAt P k)) P k hk'
    have e2 : levB T (takeB T g (bAt P k)) = levB T (bAt P k) - g * d := by
      have := lev_self8 hVp
      exact this.trans (by show levB T (bAt P k) - g * (bAt P k).d = _; rw [gp.d])
    rw [e, e2, lev_self8 hV]
    omega
/-! the end -/
def refB (T : Int) (p : BK) : BK := ⟨p.c, p.n, p.d, levB T p, T⟩
theorem foldB {d T : Int} : ∀ (l : List BK) (x : BK), x.d = d → x.a = T → (∀ p ∈ l, p.d = d ∧ p.a = T) → l.foldl addB x = ⟨x.c + sumB (·.c) l, x.n + sumB (·.n) l, d, x.l + sumB (·.l) l, T⟩ := by
  intro l
  induction l with
  | nil => intro x h1 h2 _; subst h1 h2; simp [sumB]
  | cons b l ih =>
    intro x h1 h2 h
    have hb := h b (List.mem_cons_self ..)
    rw [List.foldl_cons, ih (addB x b) hb.1 hb.2 (fun p hp => h p (List.mem_cons_of_mem _ hp))]
    simp only [addB, sumB, BK.mk.injEq, true_and, and_true]
    refine ⟨?_, ?_, ?_⟩ <;> omega
theorem merge_good {d T : Int} {l : List BK} (h1 : 1 ≤ l.length) (h2 : l.length ≤ 64) (ok : ∀ p ∈ l, V p.c p.n p.d p.l p.a ∧ p.d = d ∧ p.a = T) (hV : V (sumB (·.c) l) (sumB (·.n) l) d (sumB (·.l) l) T) :
    mergeS l = (⟨sumB (·.c) l, sumB (·.n) l, d, sumB (·.l) l, T⟩, 0) := by
  have hacc : accB l = ⟨sumB (·.c) l, sumB (·.n) l, d, sumB (·.l) l, T⟩ := by
    cases l with
    | nil => simp at h1
    | cons b l =>
      have hb := ok b (List.mem_cons_self ..)
      unfold accB
      rw [List.foldl_cons, foldB l (addB zB b) hb.2.1 hb.2.2 (fun p hp => (ok p (List.mem_cons_of_mem _ hp)).2)]
      simp only [addB, sumB, zB, BK.mk.injEq, true_and, and_true]
      refine ⟨?_, ?_, ?_⟩ <;> omega
  have h0 := (ok _ (bAt_mem (l := l) (j := 0) (by omega))).2
  unfold mergeS
  rw [if_pos ⟨h1, h2, fun b hb => ⟨(ok b hb).1, by rw [(ok b hb).2.1, h0.1], by rw [(ok b hb).2.2, h0.2]⟩⟩, hacc, if_pos hV]
theorem inv8_end {c n d l a T : Int} {P : List BK} {m : Nat} (h : Inv8 c n d l a T P m) (hT0 : 0 ≤ T) (hT : T ≤ 1099511627776) (h1 : 1 ≤ m) (h2 : m ≤ 64) :
    mergeS (P.map (refB T)) = (⟨c, n, d, sumB (levB T) P, T⟩, 0) := by
  have e1 : sumB (·.c) (P.map (refB T)) = c := by rw [sumB_map]; exact h.cs
  have e2 : sumB (·.n) (P.map (refB T)) = n := by rw [sumB_map]; exact h.ns
  have e3 : sumB (·.l) (P.map (refB T)) = sumB (levB T) P := by rw [sumB_map]; rfl
  have hok : ∀ p ∈ P.map (refB T), V p.c p.n p.d p.l p.a ∧ p.d = d ∧ p.a = T := by
    intro p hp
    obtain ⟨q, hq, rfl⟩ := List.mem_map.1 hp
    have g := h.ok q hq
    have hl := lev_le g.v g.a hT
    exact ⟨⟨g.v.1, g.v.2.1, g.v.2.2.1, g.v.2.2.2.1, g.v.2.2.2.2.1, g.v.2.2.2.2.2.1, hl.2.2.2, hl.2.1, hT0, hT⟩, g.d, rfl⟩
  have hnn : 0 ≤ sumB (levB T) P := sumB_nonneg _ fun p hp => (lev_le (h.ok p hp).v (h.ok p hp).a hT).2.2.2
  have hm := merge_good (d := d) (T := T) (l := P.map (refB T)) (by rw [List.length_map, h.len]; exact h1) (by rw [List.length_map, h.len]; exact h2) hok
    (by rw [e1, e2, e3]; exact ⟨h.v.1, h.v.2.1, h.v.2.2.1, h.v.2.2.2.1, h.v.2.2.2.2.1, h.v.2.2.2.2.2.1, hnn, inv8_cap h hT, hT0, hT⟩)
  rw [hm, e1, e2, e3]
/-! the beginning -/
def totI : List Int → Int
  | [] => 0
  | x :: r => x + totI r
theorem sumGo_tot (most : Int) : ∀ (xs : List Int) (t r : Int), sumGo most t xs = (r, true) → r = t + totI xs := by
  intro xs
  induction xs with
  | nil => intro t r h; simp only [sumGo, Prod.mk.injEq] at h; simp [totI, h.1]
  | cons x xs ih =>
    intro t r h
    unfold sumGo at h
    by_cases hb : x < 0 ∨ most - t < x
    · rw [if_pos hb] at h; injection h with _ h9; cases h9
    · rw [if_neg hb] at h
      have := ih _ _ h
      simp only [totI]; omega
theorem totI_nonneg : ∀ xs : List Int, (∀ x ∈ xs, 0 ≤ x) → 0 ≤ totI xs := by
  intro xs
  induction xs with
  | nil => intro _; exact Int.le_refl _
  | cons x xs ih =>
    intro h
    have h1 := h x (List.mem_cons_self ..)
    have h2 := ih (fun y hy => h y (List.mem_cons_of_mem _ hy))
    simp only [totI]; omega
theorem splitGo_sums {d a : Int} (hd : 0 ≤ d) : ∀ (cs ns : List Int) (l : Int), ns.length = cs.length → 0 ≤ l → (∀ x ∈ cs, 0 ≤ x) →
    sumB (·.c) (splitGo d a l cs ns) = totI cs ∧ sumB (·.n) (splitGo d a l cs ns) = totI ns ∧ sumB (·.l) (splitGo d a l cs ns) = mn2 l (totI cs * d) := by
  intro cs
  induction cs with
  | nil =>
    intro ns l h hl _
    obtain rfl : ns = [] := by cases ns <;> simp_all
    refine ⟨rfl, rfl, ?_⟩
    show (0 : Int) = mn2 l (0 * d)
    rw [Int.zero_mul]
    unfold mn2
    split <;> omega
  | cons x cs ih =>
    intro ns l h hl hx
    cases ns with
    | nil => simp at h
    | cons y ns =>
      have hx0 := hx x (List.mem_cons_self ..)
      have hxs : ∀ z ∈ cs, 0 ≤ z := fun z hz => hx z (List.mem_cons_of_mem _ hz)
      have hxd : 0 ≤ x * d := Int.mul_nonneg hx0 hd
      have hS : 0 ≤ totI cs * d := Int.mul_nonneg (totI_nonneg cs hxs) hd
      have hm : 0 ≤ l - mn2 l (x * d) := by unfold mn2; split <;> omega
      obtain ⟨i1, i2, i3⟩ := ih ns (l - mn2 l (x * d)) (by simpa using h) hm hxs
      simp only [splitGo, sumB, totI]
      refine ⟨by rw [i1], by rw [i2], ?_⟩
      rw [i3, Int.add_mul]
      unfold mn2
      by_cases q : x * d < l
      · rw [if_pos q]; (repeat' split) <;> omega
      · rw [if_neg q]; (repeat' split) <;> omega
theorem splitGo_ok {c n d a : Int} (hc : c ≤ 1073741824) (hn : n ≤ 1048576) (hd : 1 ≤ d) (hd2 : d ≤ 1048576) (ha0 : 0 ≤ a) (ha : a ≤ 1099511627776) : ∀ (cs ns : List Int) (l : Int), ns.length = cs.length → 0 ≤ l → (∀ x ∈ cs, 0 ≤ x ∧ x ≤ c) → (∀ x ∈ ns, 0 ≤ x ∧ x ≤ n) →
    ∀ p ∈ splitGo d a l cs ns, V p.c p.n p.d p.l p.a ∧ p.d = d ∧ p.a = a := by
  intro cs
  induction cs with
  | nil => intro ns l h hl _ _ p hp; cases ns <;> simp [splitGo] at hp
  | cons x cs ih =>
    intro ns l h hl hx hy p hp
    cases ns with
    | nil => simp at h
    | cons y ns =>
      have hx0 := hx x (List.mem_cons_self ..)
      have hy0 := hy y (List.mem_cons_self ..)
      have hxd : 0 ≤ x * d := Int.mul_nonneg hx0.1 (by omega)
      have hm : 0 ≤ l - mn2 l (x * d) := by unfold mn2; split <;> omega
      have hb : 0 ≤ mn2 l (x * d) ∧ mn2 l (x * d) ≤ x * d := by unfold mn2; split <;> omega
      simp only [splitGo] at hp
      rcases List.mem_cons.1 hp with rfl | hp
      · exact ⟨⟨hx0.1, by show x ≤ _; omega, hy0.1, by show y ≤ _; omega, hd, hd2, hb.1, hb.2, ha0, ha⟩, rfl, rfl⟩
      · exact ih ns _ (by simpa using h) hm (fun z hz => hx z (List.mem_cons_of_mem _ hz)) (fun z hz => hy z (List.mem_cons_of_mem _ hz)) p hp
theorem splitGo_len8 (d a : Int) : ∀ (l : Int) (cs ns : List Int), ns.length = cs.length → (splitGo d a l cs ns).length = cs.length := by
  intro l cs
  induction cs generalizing l with
  | nil => intro ns _; cases ns <;> rfl
  | cons c cs ih =>
    intro ns h
    cases ns with
    | nil => simp at h
    | cons n ns => simp only [splitGo, List.length_cons]; rw [ih _ _ (by simpa using h)]
/-- What Split makes: parts that are the bucket together. -/
theorem split8 {c n d l a : Int} {caps nums : List Int} (hv : V c n d l a) (h2 : nums.length = caps.length) (hs1 : sumGo c 0 caps = (c, true)) (hs2 : sumGo n 0 nums = (n, true)) (h1 : 1 ≤ caps.length) (h64 : caps.length ≤ 64) :
    Inv8 c n d l a a (splitGo d a l caps nums) caps.length ∧ mergeS (splitGo d a l caps nums) = (⟨c, n, d, l, a⟩, 0) := by
  have b1 := sum_bd c caps 0 (by omega) hv.1 (by rw [hs1])
  have b2 := sum_bd n nums 0 (by omega) hv.2.2.1 (by rw [hs2])
  have t1 := sumGo_tot c caps 0 c hs1
  have t2 := sumGo_tot n nums 0 n hs2
  have hok := splitGo_ok hv.2.1 hv.2.2.2.1 hv.2.2.2.2.1 hv.2.2.2.2.2.1 hv.2.2.2.2.2.2.2.2.1 hv.2.2.2.2.2.2.2.2.2 caps nums l h2 hv.2.2.2.2.2.2.1 b1 b2
  obtain ⟨s1, s2, s3⟩ := splitGo_sums (a := a) (show 0 ≤ d by have := hv.2.2.2.2.1; omega) caps nums l h2 hv.2.2.2.2.2.2.1 (fun x hx => (b1 x hx).1)
  have e1 : totI caps = c := by omega
  have e2 : totI nums = n := by omega
  have e3 : mn2 l (totI caps * d) = l := by
    rw [e1]
    have := hv.2.2.2.2.2.2.2.1
    unfold mn2; rw [if_neg (by omega)]
  rw [e1] at s1
  rw [e2] at s2
  rw [e3] at s3
  have hlen := splitGo_len8 d a l caps nums h2
  refine ⟨⟨hv, Int.le_refl _, hlen, fun p hp => ⟨(hok p hp).1, (hok p hp).2.1, Int.le_of_eq (hok p hp).2.2⟩, s1, s2, ?_⟩, ?_⟩
  · rw [lev_self8 hv, sumB_eq (g := (·.l)) _ (fun p hp => by
      have h := hok p hp
      have := lev_self8 h.1
      rw [h.2.2] at this
      unfold levB
      rw [h.2.2]
      exact this), s3]
    exact Int.le_refl _
  · have := merge_good (d := d) (T := a) (l := splitGo d a l caps nums) (by rw [hlen]; exact h1) (by rw [hlen]; exact h64) hok (by rw [s1, s2, s3]; exact hv)
    rw [s1, s2, s3] at this
    exact this

end Go.Proofs.Ytcikmloklbdddaa
