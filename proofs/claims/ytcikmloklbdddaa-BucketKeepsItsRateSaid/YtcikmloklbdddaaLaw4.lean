/- The walk of BucketKeepsItsRate. Condition: the tries can be read. -/
import Derived.Test.YtcikmloklbdddaaWWords
import Derived.Test.YtcikmloklbdddaaSane
import Derived.Deep.DeepCutAuto
import Derived.Tactics2
set_option linter.unusedVariables false
set_option linter.unusedSimpArgs false
namespace Go.Proofs.Ytcikmloklbdddaa
open Go.RowKit
open Go.Proofs.YtcikmloklbdddaaW.PrintWords (ReadsInt rd own_nil blk_frozen own_weaken own_setCell own_base blk_set add_block blk_alloc blk_below NeRow nums pw_own_below blk_far blk_grown own_other ne_other ne_append ne_append' ne_symm print_append_num own_lt)
theorem cell_below' {w w1 : World} (h : Below w.heap.size w w1) {a : Addr} {v : Value} (hc : w.cell? a = some v) : w1.cell? a = some v := (h.cell (World.block_lt_of_cell? w a hc)).trans hc
/-! ### the rate, in plain numbers -/
def tot (l : List Int) : Int := l.foldr (· + ·) 0
theorem tot_snoc (l : List Int) (x : Int) : tot (l ++ [x]) = tot l + x := by
  induction l with
  | nil => simp [tot]
  | cons y l ih => simp only [tot, List.cons_append, List.foldr_cons] at *; omega
theorem tot_bd (l : List Int) (h : ∀ x ∈ l, 0 ≤ x ∧ x ≤ 255) : 0 ≤ tot l ∧ tot l ≤ 255 * l.length := by
  induction l with
  | nil => simp [tot]
  | cons y l ih =>
    have h1 := h y List.mem_cons_self
    have h2 := ih (fun x hx => h x (List.mem_cons_of_mem _ hx))
    simp only [tot, List.foldr_cons, List.length_cons] at *
    omega
theorem tot_drop (l : List Int) (j : Nat) (h : j < l.length) : tot (l.drop j) = rd l (j : Int) + tot (l.drop (j + 1)) := by
  rw [drop_at l j h 0]; rfl
/-- What holds behind k tries: T is the instant, l at a the bucket, Ts and Ks the instants and what was taken. -/
structure Inv4 (c n d l0 a0 : Int) (k : Nat) (l a T : Int) (Ts Ks : List Int) : Prop where
  v : V c n d l a
  aT : a ≤ T
  aT0 : a0 ≤ T
  Tmax : T ≤ a0 + 255 * k
  lt : Ts.length = k
  lk : Ks.length = k
  kb : ∀ x ∈ Ks, 0 ≤ x ∧ x ≤ 255
  tb : ∀ j, j < k → a0 ≤ rd Ts (j : Int) ∧ rd Ts (j : Int) ≤ T
  rate : ∀ j, j < k → tot (Ks.drop j) * d + lev c n d l a T ≤ c * d + n * (T - rd Ts (j : Int))
  all : tot Ks * d + lev c n d l a T ≤ l0 + n * (T - a0)
theorem lev_self {c n d l a : Int} (h : V c n d l a) : lev c n d l a a = l := by
  have := h.2.2.2.2.2.2.2.1
  unfold lev
  rw [show a - a = 0 by omega, Int.mul_zero]
  split <;> omega
theorem inv4_start {c n d l a : Int} (h : V c n d l a) : Inv4 c n d l a 0 l a a [] [] :=
  ⟨h, Int.le_refl _, Int.le_refl _, by omega, rfl, rfl, by simp, by intro j hj; omega, by intro j hj; omega, by
    rw [lev_self h, show a - a = 0 by omega, Int.mul_zero]; simp [tot]⟩
theorem rd_snoc_lt {l : List Int} {x : Int} {j : Nat} (h : j < l.length) : rd (l ++ [x]) (j : Int) = rd l (j : Int) := by
  unfold rd
  simp [List.getD_eq_getElem?_getD, List.getElem?_append_left h]
theorem rd_snoc_eq {l : List Int} {x : Int} {j : Nat} (h : j = l.length) : rd (l ++ [x]) (j : Int) = x := by
  subst h; unfold rd
  simp [List.getD_eq_getElem?_getD]
theorem lev_later {c n d l a t u : Int} (hv : V c n d l a) (h1 : a ≤ t) (h2 : t ≤ u) : lev c n d l a u ≤ lev c n d l a t + n * (u - t) := by
  have e : n * (u - a) = n * (t - a) + n * (u - t) := by rw [← Int.mul_add]; congr 1; omega
  have hp : 0 ≤ n * (u - t) := Int.mul_nonneg hv.2.2.1 (by omega)
  unfold lev
  rw [e]
  split <;> split <;> omega
theorem inv4_step {c n d l0 a0 : Int} {k : Nat} {l a T : Int} {Ts Ks : List Int} (h : Inv4 c n d l0 a0 k l a T Ts Ks) {f K l' a' : Int} (hf0 : 0 ≤ f) (hf : f ≤ 255) (hK0 : 0 ≤ K) (hK : K ≤ 255)
    (hv : V c n d l' a') (ha : a' ≤ T + f) (he : K * d + lev c n d l' a' (T + f) = lev c n d l a (T + f)) (hM : T + f ≤ 1099511627776) : Inv4 c n d l0 a0 (k + 1) l' a' (T + f) (Ts ++ [T + f]) (Ks ++ [K]) := by
  have hl := lev_later h.v h.aT (show T ≤ T + f by omega)
  have hle := lev_le h.v (show a ≤ T + f by have := h.aT; omega) hM
  have e1 : n * (T + f - T) = n * f := by congr 1; omega
  rw [e1] at hl
  refine ⟨hv, ha, by have := h.aT0; omega, by have := h.Tmax; omega, by simp [h.lt], by simp [h.lk], ?_, ?_, ?_, ?_⟩
  · intro x hx
    rcases List.mem_append.1 hx with hx | hx
    · exact h.kb x hx
    · simp at hx; subst hx; exact ⟨hK0, hK⟩
  · intro j hj
    by_cases hjk : j < k
    · rw [rd_snoc_lt (by rw [h.lt]; exact hjk)]
      have := h.tb j hjk
      omega
    · rw [rd_snoc_eq (by rw [h.lt]; omega)]
      have := h.aT0
      omega
  · intro j hj
    by_cases hjk : j < k
    · rw [rd_snoc_lt (by rw [h.lt]; exact hjk), List.drop_append_of_le_length (by rw [h.lk]; omega), tot_snoc, Int.add_mul]
      have h1 := h.rate j hjk
      have e2 : n * (T + f - rd Ts (j : Int)) = n * (T - rd Ts (j : Int)) + n * f := by rw [← Int.mul_add]; congr 1; omega
      rw [e2]
      omega
    · rw [rd_snoc_eq (by rw [h.lt]; omega), List.drop_append, List.drop_of_length_le (by rw [h.lk]; omega), show j - Ks.length = 0 by rw [h.lk]; omega]
      rw [show T + f - (T + f) = 0 by omega, Int.mul_zero]
      simp only [List.drop_zero, List.nil_append, tot, List.foldr_cons, List.foldr_nil, Int.add_zero]
      omega
  · rw [tot_snoc, Int.add_mul]
    have h1 := h.all
    have e2 : n * (T + f - a0) = n * (T - a0) + n * f := by rw [← Int.mul_add]; congr 1; omega
    rw [e2]
    omega
/-- What the law asks of each part of the tries, and of all of them. -/
theorem inv4_part {c n d l0 a0 : Int} {k : Nat} {l a T : Int} {Ts Ks : List Int} (h : Inv4 c n d l0 a0 k l a T Ts Ks) (hk : k ≤ 60) (hM : T ≤ 1099511627776) (ha0 : 0 ≤ a0) (hl0 : 0 ≤ l0) (hl0' : l0 ≤ c * d) (j : Nat) (hj : j < k) :
    0 ≤ tot (Ks.drop j) ∧ tot (Ks.drop j) ≤ 15300 ∧ 0 ≤ tot (Ks.drop (j + 1)) ∧ tot (Ks.drop (j + 1)) ≤ 15300 ∧ 0 ≤ rd Ks (j : Int) ∧ rd Ks (j : Int) ≤ 255 ∧ 0 ≤ tot (Ks.drop j) * d ∧ tot (Ks.drop j) * d ≤ 17179869184000 ∧ 0 ≤ n * (T - rd Ts (j : Int)) ∧ n * (T - rd Ts (j : Int)) ≤ 1152921504606846976 ∧
      tot (Ks.drop j) * d ≤ c * d + n * (T - rd Ts (j : Int)) ∧ tot (Ks.drop j) = tot (Ks.drop (j + 1)) + rd Ks (j : Int) ∧ 0 ≤ rd Ts (j : Int) ∧ rd Ts (j : Int) ≤ T := by
  have hd : ∀ i, 0 ≤ tot (Ks.drop i) ∧ tot (Ks.drop i) ≤ 15300 := by
    intro i
    have := tot_bd (Ks.drop i) (fun x hx => h.kb x (List.mem_of_mem_drop hx))
    have h2 : (Ks.drop i).length ≤ 60 := by rw [List.length_drop, h.lk]; omega
    omega
  have h1 := hd j
  have h2 := hd (j + 1)
  have h3 : 0 ≤ rd Ks (j : Int) ∧ rd Ks (j : Int) ≤ 255 := h.kb _ (rd_mem (by rw [h.lk]; exact hj))
  have h4 := mul_bd h1.1 h1.2 (show 0 ≤ d by have := h.v.2.2.2.2.1; omega) h.v.2.2.2.2.2.1
  have h5 := h.tb j hj
  have h6 := mul_bd h.v.2.2.1 h.v.2.2.2.1 (show 0 ≤ T - rd Ts (j : Int) by omega) (show T - rd Ts (j : Int) ≤ 1099511627776 by omega)
  have h7 := h.rate j hj
  have h8 := (lev_le h.v h.aT hM).2.2.2
  have h9 := tot_drop Ks j (by rw [h.lk]; exact hj)
  refine ⟨h1.1, h1.2, h2.1, h2.2, h3.1, h3.2, h4.1, by omega, h6.1, by omega, by omega, by omega, by omega, h5.2⟩
theorem inv4_all {c n d l0 a0 : Int} {k : Nat} {l a T : Int} {Ts Ks : List Int} (h : Inv4 c n d l0 a0 k l a T Ts Ks) (hM : T ≤ 1099511627776) : tot Ks ≤ (l0 + n * (T + 1 - 1 - a0)) / d := by
  have h1 := h.all
  have h8 := (lev_le h.v h.aT hM).2.2.2
  have h5 := h.v.2.2.2.2.1
  refine (Int.le_ediv_iff_mul_le (by omega)).2 ?_
  rw [show T + 1 - 1 - a0 = T - a0 by omega]
  omega
/-- The state of the law's own memory. -/
structure St4 (w W : World) (c n d l a l0 a0 : Int) (vt vk : Value) (Ts Ks : List Int) : Prop where
  below : Below w.heap.size w W
  b : W.heap[w.heap.size]? = some (.cells #[.int .i64 c, .int .i64 n, .int .i64 d, .int .i64 l, .int .i64 a] 23 (0, 0))
  s : W.heap[w.heap.size + 2]? = some (.cells #[.int .i64 c, .int .i64 n, .int .i64 d, .int .i64 l0, .int .i64 a0] 23 (0, 0))
  t : W.ownsRow (w.heap.size + 3) 3 1 vt Ts.length (nums .i64 Ts)
  k : W.ownsRow (w.heap.size + 3) 3 1 vk Ks.length (nums .i64 Ks)
  ne : NeRow vt vk
section
variable {w W W1 : World} {c n d l a l0 a0 : Int} {vt vk : Value} {Ts Ks : List Int}
theorem St4.to (h : St4 w W c n d l a l0 a0 vt vk Ts Ks) (hb : Below W.heap.size W W1) : St4 w W1 c n d l a l0 a0 vt vk Ts Ks :=
  ⟨below_then h.below h.below.size hb, kb_ hb h.b, kb_ hb h.s, pw_own_below h.t hb, pw_own_below h.k hb, h.ne⟩
theorem St4.drew (h : St4 w W c n d l a l0 a0 vt vk Ts Ks) : St4 w W.drew c n d l a l0 a0 vt vk Ts Ks := ⟨h.below.drew, h.b, h.s, h.t, h.k, h.ne⟩
theorem St4.alloc (h : St4 w W c n d l a l0 a0 vt vk Ts Ks) (o : Obj) : St4 w (W.alloc o) c n d l a l0 a0 vt vk Ts Ks := h.to ((Below.refl _ _).alloc (Nat.le_refl _) o)
theorem St4.size (h : St4 w W c n d l a l0 a0 vt vk Ts Ks) : w.heap.size + 2 < W.heap.size := (Array.getElem?_eq_some_iff.1 h.s).1
theorem St4.setb (h : St4 w W c n d l a l0 a0 vt vk Ts Ks) (c' n' d' l' a' : Int) (hc : c' = c) (hn : n' = n) (hd : d' = d) :
    St4 w (((((W.setCell ⟨w.heap.size, 0, none⟩ (.int .i64 c')).setCell ⟨w.heap.size, 1, none⟩ (.int .i64 n')).setCell ⟨w.heap.size, 2, none⟩ (.int .i64 d')).setCell ⟨w.heap.size, 3, none⟩ (.int .i64 l')).setCell ⟨w.heap.size, 4, none⟩ (.int .i64 a')) c n d l' a' l0 a0 vt vk Ts Ks := by
  subst hc hn hd
  have hne : ∀ {v : Value} {m : Nat} {xs : List Value}, W.ownsRow (w.heap.size + 3) 3 1 v m xs → some w.heap.size ≠ v.ownBlock := fun ho e => by have h9 : w.heap.size + 3 ≤ w.heap.size := own_base ho _ e.symm; omega
  have far : ∀ {X : World} {v : Value} {m : Nat} {xs : List Value} (i : Nat) (u : Value), some w.heap.size ≠ v.ownBlock → X.ownsRow (w.heap.size + 3) 3 1 v m xs → (X.setCell ⟨w.heap.size, i, none⟩ u).ownsRow (w.heap.size + 3) 3 1 v m xs := fun i u hn ho => own_setCell ho hn u
  refine ⟨?_, ?_, ?_, ?_, ?_, h.ne⟩
  · exact ((((h.below.setCell (p := ⟨w.heap.size, 0, none⟩) (Nat.le_refl _) _).setCell (p := ⟨w.heap.size, 1, none⟩) (Nat.le_refl _) _).setCell (p := ⟨w.heap.size, 2, none⟩) (Nat.le_refl _) _).setCell (p := ⟨w.heap.size, 3, none⟩) (Nat.le_refl _) _).setCell (p := ⟨w.heap.size, 4, none⟩) (Nat.le_refl _) _
  · exact (blk_set (blk_set (blk_set (blk_set (blk_set h.b 0 _) 1 _) 2 _) 3 _) 4 _).trans rfl
  · exact blk_far (blk_far (blk_far (blk_far (blk_far h.s (by show w.heap.size + 2 ≠ w.heap.size; omega) _) (by show w.heap.size + 2 ≠ w.heap.size; omega) _) (by show w.heap.size + 2 ≠ w.heap.size; omega) _) (by show w.heap.size + 2 ≠ w.heap.size; omega) _) (by show w.heap.size + 2 ≠ w.heap.size; omega) _
  · have hn := hne h.t
    exact far 4 _ hn (far 3 _ hn (far 2 _ hn (far 1 _ hn (far 0 _ hn h.t))))
  · have hn := hne h.k
    exact far 4 _ hn (far 3 _ hn (far 2 _ hn (far 1 _ hn (far 0 _ hn h.k))))
theorem St4.far (h : St4 w W c n d l a l0 a0 vt vk Ts Ks) {g : Nat} (hb : w.heap.size + 2 < g) (ht : some g ≠ vt.ownBlock) (hk : some g ≠ vk.ownBlock) (i : Nat) (u : Value) : St4 w (W.setCell ⟨g, i, none⟩ u) c n d l a l0 a0 vt vk Ts Ks :=
  ⟨h.below.setCell (p := ⟨g, i, none⟩) (by show w.heap.size ≤ g; omega) _, blk_far h.b (by show w.heap.size ≠ g; omega) _, blk_far h.s (by show w.heap.size + 2 ≠ g; omega) _, own_setCell h.t ht _, own_setCell h.k hk _, h.ne⟩
theorem St4.new (h : St4 w W c n d l a l0 a0 vt vk Ts Ks) : some W.heap.size ≠ vt.ownBlock ∧ some W.heap.size ≠ vk.ownBlock :=
  ⟨fun e => by have := own_lt h.t _ e.symm; omega, fun e => by have := own_lt h.k _ e.symm; omega⟩
theorem St4.app_t (h : St4 w W c n d l a l0 a0 vt vk Ts Ks) {v1 : Value} {x : Int} (ho : W1.ownsRow (w.heap.size + 3) 3 1 v1 (Ts ++ [x]).length (nums .i64 (Ts ++ [x]))) 
    (hg : W.grownBy W1 vt.ownBlock) (hat : v1.ownBlock = vt.ownBlock ∨ ∃ b, v1.ownBlock = some b ∧ W.heap.size ≤ b) : St4 w W1 c n d l a l0 a0 v1 vk (Ts ++ [x]) Ks := by
  have hne : ∀ g, g < w.heap.size + 3 → some g ≠ vt.ownBlock := fun g hg e => by have h9 : w.heap.size + 3 ≤ g := own_base h.t _ e.symm; omega
  exact ⟨h.below.grown hg h.below.size (fun j e => by have h9 : w.heap.size + 3 ≤ j := own_base h.t _ e; omega), blk_grown h.b hg (hne _ (by omega)), blk_grown h.s hg (hne _ (by omega)), ho, own_other h.k hg (ne_other h.ne), ne_append h.ne hat h.k⟩
theorem St4.app_k (h : St4 w W c n d l a l0 a0 vt vk Ts Ks) {v1 : Value} {x : Int} (ho : W1.ownsRow (w.heap.size + 3) 3 1 v1 (Ks ++ [x]).length (nums .i64 (Ks ++ [x]))) 
    (hg : W.grownBy W1 vk.ownBlock) (hat : v1.ownBlock = vk.ownBlock ∨ ∃ b, v1.ownBlock = some b ∧ W.heap.size ≤ b) : St4 w W1 c n d l a l0 a0 vt v1 Ts (Ks ++ [x]) := by
  have hne : ∀ g, g < w.heap.size + 3 → some g ≠ vk.ownBlock := fun g hg e => by have h9 : w.heap.size + 3 ≤ g := own_base h.k _ e.symm; omega
  exact ⟨h.below.grown hg h.below.size (fun j e => by have h9 : w.heap.size + 3 ≤ j := own_base h.k _ e; omega), blk_grown h.b hg (hne _ (by omega)), blk_grown h.s hg (hne _ (by omega)), own_other h.t hg (ne_other (ne_symm h.ne)), ho, ne_append' h.ne hat h.t⟩
end
/-! ### the walk -/
structure TRY where
  (f g h : Int)
def tryAt (ts : List TRY) (j : Nat) : TRY := ts.getD j ⟨0, 0, 0⟩
/-- A slice of tries that is read. -/
def RdT (w : World) (A : Option Addr) (ts : List TRY) : Prop :=
  ts.length ≤ 9223372036854775807 ∧ (∀ x ∈ ts, (0 ≤ x.f ∧ x.f ≤ 255) ∧ (0 ≤ x.g ∧ x.g ≤ 255) ∧ (0 ≤ x.h ∧ x.h ≤ 255)) ∧
  ∀ j, j < ts.length → ∃ ad, A = some ad ∧ w.cell? (ad.add (j * 3)) = some (.int .u8 (tryAt ts j).f) ∧ w.cell? ⟨(ad.add (j * 3)).block, (ad.add (j * 3)).off + 1, none⟩ = some (.int .u8 (tryAt ts j).g) ∧ w.cell? ⟨(ad.add (j * 3)).block, (ad.add (j * 3)).off + 2, none⟩ = some (.int .u8 (tryAt ts j).h)
theorem tryAt_mem {ts : List TRY} {j : Nat} (h : j < ts.length) : tryAt ts j ∈ ts := by
  unfold tryAt; rw [List.getD_eq_getElem?_getD, List.getElem?_eq_getElem h]; exact List.getElem_mem h
theorem info3 : (Try.prog.info? 3).map (fun i => (i.zero, i.size, i.bytes)) = some (some (.int .i64 0), 1, 8) := by kernel_rfl
theorem own_int {w : World} {base n : Nat} {v : Value} {xs : List Int} (h : w.ownsRow base 3 1 v n (nums .i64 xs)) (j : Nat) (hj : j < xs.length) : ∃ g cap, v = .slice (some ⟨g, 0, none⟩) n cap ∧ w.cell? ⟨g, j, none⟩ = some (.int .i64 (rd xs (j : Int))) := by
  have hl : n = xs.length := by have := h.1; simp [nums] at this; omega
  obtain ⟨g, cap, rfl, _, _⟩ := h.form (by omega)
  refine ⟨g, cap, rfl, ?_⟩
  have hc := h.cells (g := g) rfl j (.int .i64 (rd xs (j : Int))) (by unfold rd nums; simp [List.getElem?_eq_getElem hj, List.getD_eq_getElem?_getD])
  rw [show (⟨g, 0, none⟩ : Addr).add j = ⟨g, 0 + j, none⟩ from by unfold Addr.add; split <;> simp_all] at hc
  simpa using hc
/-- One try: the answer of Take (y, e), and what holds behind it. -/
def Try4 (c n d l a T : Int) (x : TRY) (y : BK) (e : Int) : Prop :=
  (e = 0 ∧ y.c = c ∧ y.n = n ∧ y.d = d ∧ V c n d y.l y.a ∧ y.a ≤ T + x.f ∧ x.g * d + lev c n d y.l y.a (T + x.f) = lev c n d l a (T + x.f)) ∨ (e == 0) = false
theorem take4 {c n d l a T : Int} {x : TRY} (hv : V c n d l a) (ha : a ≤ T) (hT0 : 0 ≤ T) (hT1 : T ≤ 1099511543076) (hf0 : 0 ≤ x.f) (hf1 : x.f ≤ 255) (hg0 : 0 ≤ x.g) (hg1 : x.g ≤ 255) :
    ∃ (y : BK) (e : Int), Hid (∀ w : World, Calls Try.prog 11 #[bk c n d l a, .int .i64 (T + x.f), .int .i64 x.g] w fun r w' => r = .returned (.tuple #[bk y.c y.n y.d y.l y.a, .int .i64 e]) ∧ Below w.heap.size w w') ∧ Hid (Try4 c n d l a T x y e) := by
  by_cases hg : 1 ≤ x.g
  · by_cases hx : lev c n d l a (T + x.f) < x.g * d
    · exact ⟨⟨0, 0, 0, 0, 0⟩, 4, fun w => take11_short c n d l a _ _ _ w hv hg (by omega) (by omega) (by omega) rfl hx, .inr rfl⟩
    · have hle := lev_le hv (show a ≤ T + x.f by omega) (by omega)
      have hmd := cd_bd (show 0 ≤ x.g by omega) (by omega) (show 0 ≤ d by have := hv.2.2.2.2.1; omega) hv.2.2.2.2.2.1
      have hV : V c n d (lev c n d l a (T + x.f) - x.g * d) (T + x.f) := ⟨hv.1, hv.2.1, hv.2.2.1, hv.2.2.2.1, hv.2.2.2.2.1, hv.2.2.2.2.2.1, by omega, by omega, by omega, by omega⟩
      exact ⟨⟨c, n, d, lev c n d l a (T + x.f) - x.g * d, T + x.f⟩, 0, fun w => take11_fine c n d l a _ _ _ w hv hg (by omega) (by omega) (by omega) rfl (by omega), .inl ⟨rfl, rfl, rfl, rfl, hV, Int.le_refl _, by show x.g * d + lev c n d (lev c n d l a (T + x.f) - x.g * d) (T + x.f) (T + x.f) = _; rw [lev_self hV]; omega⟩⟩
  · exact ⟨⟨0, 0, 0, 0, 0⟩, 1, fun w => take11_arg2 c n d l a _ _ w hv (decide_eq_false (by omega)), .inr rfl⟩
set_option maxHeartbeats 2000000 in
set_option maxRecDepth 100000 in
theorem law4_walk (c n d l0 a0 : Int) (A : Option Addr) (cp : Nat) (ts : List TRY) (w : World) (hv : V c n d l0 a0) (ha : a0 ≤ 1099511527776) (h60 : ts.length ≤ 60) (hr : RdT w A ts) :
    Calls Try.prog 4 #[bk c n d l0 a0, .slice A ts.length cp] w fun e w' => e = .returned (.bool true) ∧ Below w.heap.size w w' := by
  have HV : Hid (V c n d l0 a0) := hv
  have HR : Hid (RdT w A ts) := hr
  have hst : St4 w (((w.alloc (bo c n d l0 a0)).alloc (bo c n d l0 a0)).alloc (bo c n d l0 a0)) c n d l0 a0 l0 a0 (.slice none 0 0) (.slice none 0 0) [] [] :=
    ⟨(((Below.refl _ _).alloc (Nat.le_refl _) _).alloc (by simp) _).alloc (by simp; omega) _, blk_alloc (blk_alloc (heap_alloc_new _ _) _) _, by
      have h9 := heap_alloc_new ((w.alloc (bo c n d l0 a0)).alloc (bo c n d l0 a0)) (bo c n d l0 a0)
      simp only [World.size_alloc] at h9
      exact h9, own_nil _ _ _ _, own_nil _ _ _ _, by intro k hk; simp [Value.ownBlock] at hk⟩
  have HS0 : Hid (St4 w (((w.alloc (bo c n d l0 a0)).alloc (bo c n d l0 a0)).alloc (bo c n d l0 a0)) c n d l0 a0 l0 a0 (.slice none 0 0) (.slice none 0 0) [] []) := hst
  have HI0 : Hid (Inv4 c n d l0 a0 0 l0 a0 a0 [] []) := inv4_start hv
  have ha00 : 0 ≤ a0 := hv.2.2.2.2.2.2.2.2.1
  clear hv hr hst
  go_enter Try.func4, Try.ntmps4
  go_wp2_with (go_at_call 20; refine (valid20_any _ _ _ _ _ _ true (decide_eq_true HV.out).symm).mono ?_; rintro e w' ⟨rfl, rfl⟩)
  go_loopw [5, 6, 7, 9] (fun vt vk t i wr => ∃ (k : Nat) (l a T : Int) (Ts Ks : List Int), k ≤ ts.length ∧ i = .int .i64 k ∧ t = .int .i64 T ∧ 0 ≤ T ∧ T ≤ 1099511543076 ∧ Hid (St4 w wr c n d l a l0 a0 vt vk Ts Ks) ∧ Hid (Inv4 c n d l0 a0 k l a T Ts Ks)) (fun _ _ _ i _ => ts.length - (intOf i).toNat)
  case atStart => exact ⟨0, l0, a0, a0, [], [], Nat.zero_le _, rfl, rfl, ha00, by omega, HS0, HI0⟩
  case round =>
    obtain ⟨k, l, a, T, Ts, Ks, hk, rfl, rfl, hT0, hT1, HS, HI⟩ := hrel
    by_cases hlt : k < ts.length
    · obtain ⟨ad, rfl, hc0, hc1, _⟩ := HR.out.2.2 k hlt
      obtain ⟨x, hx⟩ : ∃ x, x = tryAt ts k := ⟨_, rfl⟩
      rw [← hx] at hc0 hc1
      have hxb := HR.out.2.1 x (by rw [hx]; exact tryAt_mem hlt)
      have hf0 := hxb.1.1
      have hf1 := hxb.1.2
      have hg0 := hxb.2.1.1
      have hg1 := hxb.2.1.2
      clear hxb
      have hcw0 : wr.cell? (ad.add (k * 3)) = some (.int .u8 x.f) := cell_below' HS.out.below hc0
      have hcw1 : wr.cell? ⟨(ad.add (k * 3)).block, (ad.add (k * 3)).off + 1, none⟩ = some (.int .u8 x.g) := cell_below' HS.out.below hc1
      have HX : Hid (x = tryAt ts k) := hx
      have HC0 : Hid (w.cell? (ad.add (k * 3)) = some (.int .u8 x.f)) := hc0
      have HC1 : Hid (w.cell? ⟨(ad.add (k * 3)).block, (ad.add (k * 3)).off + 1, none⟩ = some (.int .u8 x.g)) := hc1
      have HCF : Hid (∀ W' : World, Below w.heap.size w W' → W'.cell? ⟨(ad.add (k * 3)).block, (ad.add (k * 3)).off + 1, none⟩ = some (.int .u8 x.g)) := fun W' h => cell_below' h hc1
      have hb0 : wr.cell? ⟨w.heap.size, 0, none⟩ = some (.int .i64 c) := (cell_of_row wr w.heap.size 0 _ _ _ HS.out.b).trans rfl
      have hb1 : wr.cell? ⟨w.heap.size, 1, none⟩ = some (.int .i64 n) := (cell_of_row wr w.heap.size 1 _ _ _ HS.out.b).trans rfl
      have hb2 : wr.cell? ⟨w.heap.size, 2, none⟩ = some (.int .i64 d) := (cell_of_row wr w.heap.size 2 _ _ _ HS.out.b).trans rfl
      have hb3 : wr.cell? ⟨w.heap.size, 3, none⟩ = some (.int .i64 l) := (cell_of_row wr w.heap.size 3 _ _ _ HS.out.b).trans rfl
      have hb4 : wr.cell? ⟨w.heap.size, 4, none⟩ = some (.int .i64 a) := (cell_of_row wr w.heap.size 4 _ _ _ HS.out.b).trans rfl
      have hk0 : (0 : Int) ≤ (k : Int) := by omega
      have hk1 : (k : Int) < (ts.length : Int) := by omega
      clear hx hc0 hc1
      obtain ⟨y, e, HT, HQ⟩ := take4 (x := x) HI.out.v HI.out.aT hT0 hT1 hf0 hf1 hg0 hg1
      go_upto_region 12 with fail
      have hwg : IntKind.i64.wrap x.g = x.g := IntWalk.i64_in _ (by omega)
      go_cut [11, 12] (fun s11 s12 wx => ∃ g : Nat, s11 = .pointer (some ⟨g, 0, none⟩) ∧ s12 = .int .i64 e ∧ w.heap.size + 2 < g ∧ Hid (St4 w wx c n d l a l0 a0 u5 u6 Ts Ks) ∧ Hid (wx.heap[g]? = some (.cells #[.int .i64 y.c, .int .i64 y.n, .int .i64 y.d, .int .i64 y.l, .int .i64 y.a] 23 (0, 0))))
      case first =>
        go_region_held3 (fun w' => w'.cell? ⟨w.heap.size, 0, none⟩ = some (.int .i64 c) ∧ w'.cell? ⟨w.heap.size, 1, none⟩ = some (.int .i64 n) ∧ w'.cell? ⟨w.heap.size, 2, none⟩ = some (.int .i64 d) ∧ w'.cell? ⟨w.heap.size, 3, none⟩ = some (.int .i64 l) ∧ w'.cell? ⟨w.heap.size, 4, none⟩ = some (.int .i64 a) ∧ w'.cell? ⟨(ad.add (k * 3)).block, (ad.add (k * 3)).off + 1, none⟩ = some (.int .u8 x.g)) (go_keep)
          (first
          | ((go_at_call 11; (with_reducible refine (HT.out _).mono ?_); rintro e1 w1 ⟨rfl, hB⟩; have HS1 : Hid (St4 w w1 c n d l a l0 a0 u5 u6 Ts Ks) := (HS.out.drew.to hB); have gb0 : w1.cell? ⟨w.heap.size, 0, none⟩ = some (.int .i64 c) := ((cell_of_row w1 w.heap.size 0 _ _ _ HS1.out.b).trans rfl); have gb1 : w1.cell? ⟨w.heap.size, 1, none⟩ = some (.int .i64 n) := ((cell_of_row w1 w.heap.size 1 _ _ _ HS1.out.b).trans rfl); have gb2 : w1.cell? ⟨w.heap.size, 2, none⟩ = some (.int .i64 d) := ((cell_of_row w1 w.heap.size 2 _ _ _ HS1.out.b).trans rfl); have gb3 : w1.cell? ⟨w.heap.size, 3, none⟩ = some (.int .i64 l) := ((cell_of_row w1 w.heap.size 3 _ _ _ HS1.out.b).trans rfl); have gb4 : w1.cell? ⟨w.heap.size, 4, none⟩ = some (.int .i64 a) := ((cell_of_row w1 w.heap.size 4 _ _ _ HS1.out.b).trans rfl); have gc1 := HCF.out _ HS1.out.below; have hsz1 := HS1.out.size; have hsz2 : w.heap.size < w1.heap.size := (by omega); have had : (ad.add (k * 3)).block < w1.heap.size := (by have := World.block_lt_of_cell? w _ HC0.out; omega)))
          | ((go_at_call 11; (with_reducible refine (HT.out _).mono ?_); rintro e1 w1 ⟨rfl, hB⟩; have HS1 : Hid (St4 w w1 c n d l a l0 a0 u5 u6 Ts Ks) := ((HS.out.drew.alloc _).to hB); have gb0 : w1.cell? ⟨w.heap.size, 0, none⟩ = some (.int .i64 c) := ((cell_of_row w1 w.heap.size 0 _ _ _ HS1.out.b).trans rfl); have gb1 : w1.cell? ⟨w.heap.size, 1, none⟩ = some (.int .i64 n) := ((cell_of_row w1 w.heap.size 1 _ _ _ HS1.out.b).trans rfl); have gb2 : w1.cell? ⟨w.heap.size, 2, none⟩ = some (.int .i64 d) := ((cell_of_row w1 w.heap.size 2 _ _ _ HS1.out.b).trans rfl); have gb3 : w1.cell? ⟨w.heap.size, 3, none⟩ = some (.int .i64 l) := ((cell_of_row w1 w.heap.size 3 _ _ _ HS1.out.b).trans rfl); have gb4 : w1.cell? ⟨w.heap.size, 4, none⟩ = some (.int .i64 a) := ((cell_of_row w1 w.heap.size 4 _ _ _ HS1.out.b).trans rfl); have gc1 := HCF.out _ HS1.out.below; have hsz1 := HS1.out.size; have hsz2 : w.heap.size < w1.heap.size := (by omega); have had : (ad.add (k * 3)).block < w1.heap.size := (by have := World.block_lt_of_cell? w _ HC0.out; omega); have HZ : Hid (w1.heap[wr.heap.size]? = some (.cells #[.int .i64 0, .int .i64 0, .int .i64 0, .int .i64 0, .int .i64 0] 23 (0, 0))) := (kb_ hB (heap_alloc_new wr.drew _)); have gz0 : w1.cell? ⟨wr.heap.size, 0, none⟩ = some (.int .i64 0) := ((cell_of_row w1 wr.heap.size 0 _ _ _ HZ.out).trans rfl); have gz1 : w1.cell? ⟨wr.heap.size, 1, none⟩ = some (.int .i64 0) := ((cell_of_row w1 wr.heap.size 1 _ _ _ HZ.out).trans rfl); have gz2 : w1.cell? ⟨wr.heap.size, 2, none⟩ = some (.int .i64 0) := ((cell_of_row w1 wr.heap.size 2 _ _ _ HZ.out).trans rfl); have gz3 : w1.cell? ⟨wr.heap.size, 3, none⟩ = some (.int .i64 0) := ((cell_of_row w1 wr.heap.size 3 _ _ _ HZ.out).trans rfl); have gz4 : w1.cell? ⟨wr.heap.size, 4, none⟩ = some (.int .i64 0) := ((cell_of_row w1 wr.heap.size 4 _ _ _ HZ.out).trans rfl); have gf : ∀ i, w1.frozen? ⟨wr.heap.size, i, none⟩ = false := (fun i => blk_frozen HZ.out i); have hszr : w.heap.size + 2 < wr.heap.size := HS.out.size; have hszq : w.heap.size < wr.heap.size := (by omega); have hn1 : ¬ w.heap.size = wr.heap.size := (by omega); have hn2 : ¬ wr.heap.size = w.heap.size := (by omega); have hn3 : ¬ (ad.add (k * 3)).block = wr.heap.size := (by have := World.block_lt_of_cell? w _ HC0.out; omega); have hn4 : ¬ wr.heap.size = (ad.add (k * 3)).block := (by omega)))
          | ((go_at_call 11; (with_reducible refine (HT.out _).mono ?_); rintro e1 w1 ⟨rfl, hB⟩; have HS1 : Hid (St4 w w1 c n d l a l0 a0 u5 u6 Ts Ks) := ((HS.out.alloc _).drew.to hB); have gb0 : w1.cell? ⟨w.heap.size, 0, none⟩ = some (.int .i64 c) := ((cell_of_row w1 w.heap.size 0 _ _ _ HS1.out.b).trans rfl); have gb1 : w1.cell? ⟨w.heap.size, 1, none⟩ = some (.int .i64 n) := ((cell_of_row w1 w.heap.size 1 _ _ _ HS1.out.b).trans rfl); have gb2 : w1.cell? ⟨w.heap.size, 2, none⟩ = some (.int .i64 d) := ((cell_of_row w1 w.heap.size 2 _ _ _ HS1.out.b).trans rfl); have gb3 : w1.cell? ⟨w.heap.size, 3, none⟩ = some (.int .i64 l) := ((cell_of_row w1 w.heap.size 3 _ _ _ HS1.out.b).trans rfl); have gb4 : w1.cell? ⟨w.heap.size, 4, none⟩ = some (.int .i64 a) := ((cell_of_row w1 w.heap.size 4 _ _ _ HS1.out.b).trans rfl); have gc1 := HCF.out _ HS1.out.below; have hsz1 := HS1.out.size; have hsz2 : w.heap.size < w1.heap.size := (by omega); have had : (ad.add (k * 3)).block < w1.heap.size := (by have := World.block_lt_of_cell? w _ HC0.out; omega); have HZ : Hid (w1.heap[wr.heap.size]? = some (.cells #[.int .i64 0, .int .i64 0, .int .i64 0, .int .i64 0, .int .i64 0] 23 (0, 0))) := (kb_ hB (heap_alloc_new wr _)); have gz0 : w1.cell? ⟨wr.heap.size, 0, none⟩ = some (.int .i64 0) := ((cell_of_row w1 wr.heap.size 0 _ _ _ HZ.out).trans rfl); have gz1 : w1.cell? ⟨wr.heap.size, 1, none⟩ = some (.int .i64 0) := ((cell_of_row w1 wr.heap.size 1 _ _ _ HZ.out).trans rfl); have gz2 : w1.cell? ⟨wr.heap.size, 2, none⟩ = some (.int .i64 0) := ((cell_of_row w1 wr.heap.size 2 _ _ _ HZ.out).trans rfl); have gz3 : w1.cell? ⟨wr.heap.size, 3, none⟩ = some (.int .i64 0) := ((cell_of_row w1 wr.heap.size 3 _ _ _ HZ.out).trans rfl); have gz4 : w1.cell? ⟨wr.heap.size, 4, none⟩ = some (.int .i64 0) := ((cell_of_row w1 wr.heap.size 4 _ _ _ HZ.out).trans rfl); have gf : ∀ i, w1.frozen? ⟨wr.heap.size, i, none⟩ = false := (fun i => blk_frozen HZ.out i); have hszr : w.heap.size + 2 < wr.heap.size := HS.out.size; have hszq : w.heap.size < wr.heap.size := (by omega); have hn1 : ¬ w.heap.size = wr.heap.size := (by omega); have hn2 : ¬ wr.heap.size = w.heap.size := (by omega); have hn3 : ¬ (ad.add (k * 3)).block = wr.heap.size := (by have := World.block_lt_of_cell? w _ HC0.out; omega); have hn4 : ¬ wr.heap.size = (ad.add (k * 3)).block := (by omega))))
        all_goals go_wp2_with fail
        all_goals go_meet
        case rel => exact ⟨w1.heap.size, rfl, rfl, HS1.out.size, HS1.out.alloc _, heap_alloc_new _ _⟩
        case rel =>
          have hn5 := HS.out.new
          exact ⟨wr.heap.size, rfl, rfl, HS.out.size, ((((HS1.out.far hszr hn5.1 hn5.2 0 _).far hszr hn5.1 hn5.2 1 _).far hszr hn5.1 hn5.2 2 _).far hszr hn5.1 hn5.2 3 _).far hszr hn5.1 hn5.2 4 _, (blk_set (blk_set (blk_set (blk_set (blk_set HZ.out 0 _) 1 _) 2 _) 3 _) 4 _).trans rfl⟩
      case rest =>
        obtain ⟨g, rfl, rfl, hg3, HS2, HG⟩ := hcut
        clear hwg hcw0 hcw1 hb0 hb1 hb2 hb3 hb4
        have hgw : w.heap.size < g := by omega
        have hgn : ¬ g = w.heap.size := by omega
        have hgn' : ¬ w.heap.size = g := by omega
        have hfz : ∀ i, wc.frozen? ⟨w.heap.size, i, none⟩ = false := fun i => blk_frozen HS2.out.b i
        have hc1' := HCF.out _ HS2.out.below
        have hb0 : wc.cell? ⟨w.heap.size, 0, none⟩ = some (.int .i64 c) := (cell_of_row wc w.heap.size 0 _ _ _ HS2.out.b).trans rfl
        have hg0' : wc.cell? ⟨g, 0, none⟩ = some (.int .i64 y.c) := (cell_of_row wc g 0 _ _ _ HG.out).trans rfl
        have hb1 : wc.cell? ⟨w.heap.size, 1, none⟩ = some (.int .i64 n) := (cell_of_row wc w.heap.size 1 _ _ _ HS2.out.b).trans rfl
        have hg1' : wc.cell? ⟨g, 1, none⟩ = some (.int .i64 y.n) := (cell_of_row wc g 1 _ _ _ HG.out).trans rfl
        have hb2 : wc.cell? ⟨w.heap.size, 2, none⟩ = some (.int .i64 d) := (cell_of_row wc w.heap.size 2 _ _ _ HS2.out.b).trans rfl
        have hg2' : wc.cell? ⟨g, 2, none⟩ = some (.int .i64 y.d) := (cell_of_row wc g 2 _ _ _ HG.out).trans rfl
        have hb3 : wc.cell? ⟨w.heap.size, 3, none⟩ = some (.int .i64 l) := (cell_of_row wc w.heap.size 3 _ _ _ HS2.out.b).trans rfl
        have hg3' : wc.cell? ⟨g, 3, none⟩ = some (.int .i64 y.l) := (cell_of_row wc g 3 _ _ _ HG.out).trans rfl
        have hb4 : wc.cell? ⟨w.heap.size, 4, none⟩ = some (.int .i64 a) := (cell_of_row wc w.heap.size 4 _ _ _ HS2.out.b).trans rfl
        have hg4' : wc.cell? ⟨g, 4, none⟩ = some (.int .i64 y.a) := (cell_of_row wc g 4 _ _ _ HG.out).trans rfl
        go_upto_if 61 with fail
        go_cut [10] (fun s10 wx => ∃ K l' a' : Int, s10 = .int .i64 K ∧ 0 ≤ K ∧ K ≤ 255 ∧ Hid (St4 w wx c n d l' a' l0 a0 u5 u6 Ts Ks) ∧ Hid (V c n d l' a' ∧ a' ≤ T + x.f ∧ K * d + lev c n d l' a' (T + x.f) = lev c n d l a (T + x.f)))
        case first =>
          rcases HQ.out with ⟨rfl, hq1, hq2, hq3, hq4, hq5, hq6⟩ | hq
          · have HQ2 : Hid (y.c = c ∧ y.n = n ∧ y.d = d ∧ V c n d y.l y.a ∧ y.a ≤ T + x.f ∧ x.g * d + lev c n d y.l y.a (T + x.f) = lev c n d l a (T + x.f)) := ⟨hq1, hq2, hq3, hq4, hq5, hq6⟩
            clear hq1 hq2 hq3 hq4 hq5 hq6
            go_wp2_with fail
            go_meet
            case rel => exact ⟨x.g, y.l, y.a, rfl, hg0, hg1, HS2.out.setb _ _ _ _ _ HQ2.out.1 HQ2.out.2.1 HQ2.out.2.2.1, HQ2.out.2.2.2.1, HQ2.out.2.2.2.2.1, HQ2.out.2.2.2.2.2⟩
          · go_wp2_with fail
            go_meet
            case rel => exact ⟨0, l, a, rfl, Int.le_refl _, by omega, HS2, HI.out.v, by have := HI.out.aT; omega, by rw [Int.zero_mul, Int.zero_add]⟩
        case rest =>
          obtain ⟨K, l', a', rfl, hK0, hK1, HS3, HQ3⟩ := hcut
          clear hc1' hb0 hb1 hb2 hb3 hb4 hg0' hg1' hg2' hg3' hg4' hfz hgn hgn' hgw
          have HI2 : Hid (Inv4 c n d l0 a0 (k + 1) l' a' (T + x.f) (Ts ++ [T + x.f]) (Ks ++ [K])) := inv4_step HI.out hf0 hf1 hK0 hK1 HQ3.out.1 HQ3.out.2.1 HQ3.out.2.2 (by omega)
          have hlt1 : (Ts.length + 1) * 8 ≤ 140737488355328 := by rw [HI.out.lt]; omega
          have hlk1 : (Ks.length + 1) * 8 ≤ 140737488355328 := by rw [HI.out.lk]; omega
          have hbs : w.heap.size + 3 ≤ wc.heap.size := HS3.out.size
          go_wp2_with (first
            | (at_builtin; refine print_append_num (w0 := wc) (W := wc) (w.heap.size + 3) ?_ (.tmp 69) (.tmp 71) 46 3 .i64 8 ?_ Try.underlying46 info3 (by decide) u5 Ts (T + x.f) ?_ ?_ HS3.out.t (Below.refl _ _) hbs hlt1 ?_; (iterate 4 rfl); intro v1 w1 ho _ hg hat; have HS4 := Hid.mk' (HS3.out.app_t ho hg hat); clear ho hg hat; have hbs4 : w.heap.size + 3 ≤ w1.heap.size := HS4.out.size)
            | (at_builtin; refine print_append_num (w0 := w1) (W := w1) (w.heap.size + 3) ?_ (.tmp 73) (.tmp 75) 46 3 .i64 8 ?_ Try.underlying46 info3 (by decide) u6 Ks K ?_ ?_ HS4.out.k (Below.refl _ _) hbs4 hlk1 ?_; (iterate 4 rfl); intro v2 w2 ho2 _ hg2 hat2; have HS5 := Hid.mk' (HS4.out.app_k ho2 hg2 hat2); clear ho2 hg2 hat2))
          obtain ⟨Us, hUs⟩ : ∃ Us, Us = Ts ++ [T + x.f] := ⟨_, rfl⟩
          obtain ⟨Qs, hQs⟩ : ∃ Qs, Qs = Ks ++ [K] := ⟨_, rfl⟩
          have HS6 : Hid (St4 w w2 c n d l' a' l0 a0 v1 v2 Us Qs) := by rw [hUs, hQs]; exact HS5.out
          have HI3 : Hid (Inv4 c n d l0 a0 (k + 1) l' a' (T + x.f) Us Qs) := by rw [hUs, hQs]; exact HI2.out
          have hk60 : k + 1 ≤ 60 := by omega
          have hTM : T + x.f ≤ 1099511543331 := by omega
          clear hUs hQs HS4 HS5 HI2 hlt1 hlk1 hbs hbs4 HC0 HC1 HCF HX
          go_loopw [13, 14] (fun s j wq => ∃ (q m : Nat), q ≤ k + 1 ∧ j = .int .i64 ((q : Int) - 1) ∧ s = .int .i64 (tot (Qs.drop q)) ∧ wq = w2.drewN m) (fun _ j _ => ((intOf j) + 1).toNat)
          case atStart => exact ⟨k + 1, 0, Nat.le_refl _, by congr 1; omega, by rw [List.drop_of_length_le (by rw [HI3.out.lk]; exact Nat.le_refl _)]; rfl, rfl⟩
          case round =>
            obtain ⟨q, m, hq, rfl, rfl, rfl⟩ := hrel
            cases q with
            | zero =>
              obtain ⟨S, hS⟩ : ∃ S, S = tot (Qs.drop 0) := ⟨_, rfl⟩
              obtain ⟨M, hM⟩ : ∃ M, M = (l0 + n * (T + x.f + 1 - 1 - a0)) / d := ⟨_, rfl⟩
              have hSM : S ≤ M := by rw [hS, hM, List.drop_zero]; exact inv4_all HI3.out (by omega)
              rw [← hS]
              have HM : Hid (∀ w : World, Calls Try.prog 13 #[bk c n d l0 a0, .int .i64 a0, .int .i64 (T + x.f + 1)] w fun r w' => r = .returned (.tuple #[.int .i64 M, .int .i64 0]) ∧ Below w.heap.size w w') := by
                rw [hM]
                exact fun w => most13_ok c n d l0 a0 a0 (T + x.f + 1) l0 w HV.out (Int.le_refl _) (by omega) (lev_self HV.out).symm (by have := HI3.out.aT0; omega) (by omega)
              clear hS hM
              have HS7 : Hid (St4 w (w2.drewN m) c n d l' a' l0 a0 v1 v2 Us Qs) := ⟨below_drewN HS6.out.below m, HS6.out.b, HS6.out.s, HS6.out.t, HS6.out.k, HS6.out.ne⟩
              have hs0 : (w2.drewN m).cell? ⟨w.heap.size + 1 + 1, 0, none⟩ = some (.int .i64 c) := (cell_of_row (w2.drewN m) (w.heap.size + 2) 0 _ _ _ HS7.out.s).trans rfl
              have hs1 : (w2.drewN m).cell? ⟨w.heap.size + 1 + 1, 1, none⟩ = some (.int .i64 n) := (cell_of_row (w2.drewN m) (w.heap.size + 2) 1 _ _ _ HS7.out.s).trans rfl
              have hs2 : (w2.drewN m).cell? ⟨w.heap.size + 1 + 1, 2, none⟩ = some (.int .i64 d) := (cell_of_row (w2.drewN m) (w.heap.size + 2) 2 _ _ _ HS7.out.s).trans rfl
              have hs3 : (w2.drewN m).cell? ⟨w.heap.size + 1 + 1, 3, none⟩ = some (.int .i64 l0) := (cell_of_row (w2.drewN m) (w.heap.size + 2) 3 _ _ _ HS7.out.s).trans rfl
              have hs4 : (w2.drewN m).cell? ⟨w.heap.size + 1 + 1, 4, none⟩ = some (.int .i64 a0) := (cell_of_row (w2.drewN m) (w.heap.size + 2) 4 _ _ _ HS7.out.s).trans rfl
              obtain ⟨W, hW⟩ : ∃ W : World, w2.drewN m = W := ⟨_, rfl⟩
              rw [hW] at HS7 hs0 hs1 hs2 hs3 hs4 ⊢
              clear hW
              go_wp2_with (go_at_call 13; (with_reducible refine (HM.out _).mono ?_); rintro r w3 ⟨rfl, hB⟩; have HS8 := Hid.mk' (HS7.out.to hB))
              go_roundw
              case rel => exact ⟨k + 1, l', a', T + x.f, Us, Qs, by omega, by go_num, rfl, by omega, by have := HI3.out.Tmax; omega, HS8, HI3⟩
              case measure => simp [intOf]; omega
            | succ p =>
              have hp := inv4_part HI3.out hk60 (by omega) ha00 (by have := HV.out.2.2.2.2.2.2.1; exact this) (by have := HV.out.2.2.2.2.2.2.2.1; exact this) p (by omega)
              obtain ⟨p1, p2, p3, p4, p5, p6, p7, p8, p9, p10, p11, p12, p13, p14⟩ := hp
              obtain ⟨S, hS⟩ : ∃ S, S = tot (Qs.drop (p + 1)) := ⟨_, rfl⟩
              obtain ⟨R, hR⟩ : ∃ R, R = rd Qs (p : Int) := ⟨_, rfl⟩
              obtain ⟨U, hU⟩ : ∃ U, U = rd Us (p : Int) := ⟨_, rfl⟩
              have HE : Hid (tot (Qs.drop p) = S + R) := by rw [hS, hR]; exact p12
              rw [HE.out, ← hU] at p11
              rw [HE.out] at p7 p8
              rw [← hS] at p3 p4
              rw [← hR] at p5 p6
              rw [← hU] at p9 p10 p13 p14
              obtain ⟨g1, cap1, hv1, hcU⟩ := own_int HS6.out.t p (by rw [HI3.out.lt]; omega)
              obtain ⟨g2, cap2, hv2, hcR⟩ := own_int HS6.out.k p (by rw [HI3.out.lk]; omega)
              rw [HI3.out.lt] at hv1
              rw [HI3.out.lk] at hv2
              rw [← hU] at hcU
              rw [← hR] at hcR
              subst hv1 hv2
              rw [show ((p + 1 : Nat) : Int) - 1 = (p : Int) by omega, ← hS]
              have hb0 : w2.cell? ⟨w.heap.size, 0, none⟩ = some (.int .i64 c) := (cell_of_row w2 w.heap.size 0 _ _ _ HS6.out.b).trans rfl
              have hb1 : w2.cell? ⟨w.heap.size, 1, none⟩ = some (.int .i64 n) := (cell_of_row w2 w.heap.size 1 _ _ _ HS6.out.b).trans rfl
              have hb2 : w2.cell? ⟨w.heap.size, 2, none⟩ = some (.int .i64 d) := (cell_of_row w2 w.heap.size 2 _ _ _ HS6.out.b).trans rfl
              have hp0 : (0 : Int) ≤ (p : Int) := by omega
              have hp1 : (p : Int) < ((k + 1 : Nat) : Int) := by omega
              have hp1' : (p : Int) < (k : Int) + 1 := by omega
              have hcd := cd_bd HI3.out.v.1 HI3.out.v.2.1 (by have := HI3.out.v.2.2.2.2.1; omega : 0 ≤ d) HI3.out.v.2.2.2.2.2.1
              have HS9 : Hid (S = tot (Qs.drop (p + 1))) := hS
              clear hS hR hU p1 p2 p12
              go_upto_region 23 with fail
              have q1 : IntKind.i64.wrap ((S + R) * d) = (S + R) * d := IntWalk.i64_in _ (by omega)
              have q2 : IntKind.i64.wrap (c * d) = c * d := IntWalk.i64_in _ (by omega)
              have q3 : IntKind.i64.wrap (T + x.f - U) = T + x.f - U := IntWalk.i64_in _ (by omega)
              have q4 : IntKind.i64.wrap (n * (T + x.f - U)) = n * (T + x.f - U) := IntWalk.i64_in _ (by omega)
              have q5 : IntKind.i64.wrap (c * d + n * (T + x.f - U)) = c * d + n * (T + x.f - U) := IntWalk.i64_in _ (by omega)
              have q6 : decide (c * d + n * (T + x.f - U) < (S + R) * d) = false := decide_eq_false (by omega)
              go_quiet (fail)
              clear q1 q2 q3 q4 q5
              go_wp2
              go_roundw
              case rel => exact ⟨p, _, by omega, rfl, by rw [HE.out], rfl⟩
              case measure => first | (simp [intOf]; done) | (simp [intOf]; omega)
    · go_wp2_with fail
      go_at_call 19
      refine (sanity_any _).mono ?_
      rintro e w1 ⟨rfl, hb⟩
      go_wp2
      go_ret
      exact ⟨rfl, below_then HS.out.below HS.out.below.size hb⟩
set_option maxHeartbeats 400000 in
theorem law4_long (c n d l0 a0 : Int) (A : Option Addr) (cp : Nat) (k : Nat) (w : World) (h60 : 60 < k) (hk : k ≤ 9223372036854775807) :
    Calls Try.prog 4 #[bk c n d l0 a0, .slice A k cp] w fun e w' => e = .returned (.bool true) ∧ Below w.heap.size w w' := by
  have h61 : (60 : Int) < (k : Int) := by omega
  go_enter Try.func4, Try.ntmps4
  go_wp2_with fail
  go_at_call 19
  refine (sanity_any _).mono ?_
  rintro e w1 ⟨rfl, hb⟩
  go_wp2
  go_ret
  exact ⟨rfl, below_then ((Below.refl _ _).alloc (Nat.le_refl _) _) (by simp) hb⟩
set_option maxHeartbeats 400000 in
theorem law4_bad (c n d l0 a0 : Int) (A : Option Addr) (cp : Nat) (k : Nat) (w : World) (h60 : k ≤ 60) (hv : ¬ V c n d l0 a0) :
    Calls Try.prog 4 #[bk c n d l0 a0, .slice A k cp] w fun e w' => e = .returned (.bool true) ∧ Below w.heap.size w w' := by
  have h61 : (k : Int) ≤ 60 := by omega
  have HV : Hid (¬ V c n d l0 a0) := hv
  clear hv
  go_enter Try.func4, Try.ntmps4
  go_wp2_with (go_at_call 20; refine (valid20_any _ _ _ _ _ _ false (decide_eq_false HV.out).symm).mono ?_; rintro e w' ⟨rfl, rfl⟩)
  go_at_call 19
  refine (sanity_any _).mono ?_
  rintro e w1 ⟨rfl, hb⟩
  go_wp2
  go_ret
  exact ⟨rfl, below_then (((Below.refl _ _).alloc (Nat.le_refl _) _).alloc (by simp) _) (by first | (simp; done) | (simp; omega)) hb⟩
set_option maxHeartbeats 400000 in
theorem law4_late (c n d l0 a0 : Int) (A : Option Addr) (cp : Nat) (k : Nat) (w : World) (h60 : k ≤ 60) (hv : V c n d l0 a0) (ha : 1099511527776 < a0) :
    Calls Try.prog 4 #[bk c n d l0 a0, .slice A k cp] w fun e w' => e = .returned (.bool true) ∧ Below w.heap.size w w' := by
  have h61 : (k : Int) ≤ 60 := by omega
  have HV : Hid (V c n d l0 a0) := hv
  clear hv
  go_enter Try.func4, Try.ntmps4
  go_wp2_with (go_at_call 20; refine (valid20_any _ _ _ _ _ _ true (decide_eq_true HV.out).symm).mono ?_; rintro e w' ⟨rfl, rfl⟩)
  go_at_call 19
  refine (sanity_any _).mono ?_
  rintro e w1 ⟨rfl, hb⟩
  go_wp2
  go_ret
  exact ⟨rfl, below_then (((Below.refl _ _).alloc (Nat.le_refl _) _).alloc (by simp) _) (by first | (simp; done) | (simp; omega)) hb⟩
theorem law4 (c n d l0 a0 : Int) (A : Option Addr) (cp : Nat) (ts : List TRY) (w : World) (hr : RdT w A ts) :
    Calls Try.prog 4 #[bk c n d l0 a0, .slice A ts.length cp] w fun e w' => e = .returned (.bool true) ∧ Below w.heap.size w w' := by
  by_cases h60 : ts.length ≤ 60
  · by_cases hv : V c n d l0 a0
    · by_cases ha : a0 ≤ 1099511527776
      · exact law4_walk c n d l0 a0 A cp ts w hv ha h60 hr
      · exact law4_late c n d l0 a0 A cp _ w h60 hv (by omega)
    · exact law4_bad c n d l0 a0 A cp _ w h60 hv
  · exact law4_long c n d l0 a0 A cp _ w (by omega) hr.1
end Go.Proofs.Ytcikmloklbdddaa
