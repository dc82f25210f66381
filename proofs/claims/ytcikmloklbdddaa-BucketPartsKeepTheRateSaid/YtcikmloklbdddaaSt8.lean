/- The parts of a bucket in memory, and one try. No condition. -/
import Derived.Test.YtcikmloklbdddaaWWords
import Derived.Test.YtcikmloklbdddaaPure8
import Derived.Deep.DeepCutAuto
import Derived.Tactics2
import Derived.StillTailTactics
set_option linter.unusedVariables false
set_option linter.unusedSimpArgs false
namespace Go.Proofs.Ytcikmloklbdddaa
open Go.RowKit
open Go.Proofs.YtcikmloklbdddaaW.PrintWords (ReadsInt rd own_nil blk_frozen own_weaken own_setCell own_base own_lt blk_set add_block blk_alloc blk_below blk_far blk_grown pw_own_below add_field own_slice blk_cell)
/-! ### the walk -/
structure TRY where
  (f g h : Int)
def tryAt (ts : List TRY) (j : Nat) : TRY := ts.getD j ⟨0, 0, 0⟩
/-- A slice of tries that is read. -/
def RdT (w : World) (A : Option Addr) (ts : List TRY) : Prop :=
  ts.length ≤ 9223372036854775807 ∧ (∀ x ∈ ts, (0 ≤ x.f ∧ x.f ≤ 255) ∧ (0 ≤ x.g ∧ x.g ≤ 255) ∧ (0 ≤ x.h ∧ x.h ≤ 255)) ∧
  ∀ j, j < ts.length → ∃ ad, A = some ad ∧ w.cell? (ad.add (j * 3)) = some (.int .u8 (tryAt ts j).f) ∧ w.cell? ⟨(ad.add (j * 3)).block, (ad.add (j * 3)).off + 1, none⟩ = some (.int .u8 (tryAt ts j).g) ∧ w.cell? ⟨(ad.add (j * 3)).block, (ad.add (j * 3)).off + 2, none⟩ = some (.int .u8 (tryAt ts j).h)
theorem tryAt_mem {ts : List TRY} {j : Nat} (h : j < ts.length) : tryAt ts j ∈ ts := by
  unfold tryAt; rw [List.getD_eq_getElem?_getD, List.getElem?_eq_getElem h]; exact List.getElem_mem h
/-! ### the parts in memory -/
def OwnB (w : World) (g : Nat) (P : List BK) : Prop := ∃ cur : Array Value, w.heap[g]? = some (.cells cur 23 (0, 0)) ∧ ∀ j, j < P.length → ∀ i v, (bAt P j).cells[i]? = some v → cur[j * 5 + i]? = some v
theorem OwnB.lt {w : World} {g : Nat} {P : List BK} (h : OwnB w g P) : g < w.heap.size := by obtain ⟨_, h, _⟩ := h; exact (Array.getElem?_eq_some_iff.1 h).1
theorem OwnB.to {w W : World} {g : Nat} {P : List BK} (h : OwnB w g P) (hb : Below w.heap.size w W) : OwnB W g P := by
  obtain ⟨cur, h1, h2⟩ := h
  exact ⟨cur, blk_below h1 hb, h2⟩
theorem OwnB.far {w : World} {g : Nat} {P : List BK} (h : OwnB w g P) {p : Addr} (hp : g ≠ p.block) (u : Value) : OwnB (w.setCell p u) g P := by
  obtain ⟨cur, h1, h2⟩ := h
  exact ⟨cur, blk_far h1 hp u, h2⟩
theorem OwnB.frozen {w : World} {g : Nat} {P : List BK} (h : OwnB w g P) (i : Nat) : w.frozen? ⟨g, i, none⟩ = false := by
  obtain ⟨cur, h1, h2⟩ := h
  exact blk_frozen h1 i
theorem OwnB.cell {w : World} {g : Nat} {P : List BK} (h : OwnB w g P) (j i : Nat) (hj : j < P.length) {v : Value} (hv : (bAt P j).cells[i]? = some v) : w.cell? ⟨g, j * 5 + i, none⟩ = some v := by
  obtain ⟨cur, h1, h2⟩ := h
  rw [blk_cell h1]
  exact h2 j hj i v hv
theorem bAt_set {P : List BK} {k j : Nat} {q : BK} (hk : k < P.length) : bAt (P.set k q) j = if j = k then q else bAt P j := by
  unfold bAt
  rw [List.getD_eq_getElem?_getD, List.getD_eq_getElem?_getD, List.getElem?_set]
  by_cases h : k = j
  · subst h; simp [hk]
  · rw [if_neg h, if_neg (fun e => h e.symm)]
theorem OwnB.set {w : World} {g : Nat} {P : List BK} (h : OwnB w g P) {k : Nat} (hk : k < P.length) (q : BK) :
    OwnB (((((w.setCell ⟨g, k * 5, none⟩ (.int .i64 q.c)).setCell ⟨g, k * 5 + 1, none⟩ (.int .i64 q.n)).setCell ⟨g, k * 5 + 2, none⟩ (.int .i64 q.d)).setCell ⟨g, k * 5 + 3, none⟩ (.int .i64 q.l)).setCell ⟨g, k * 5 + 4, none⟩ (.int .i64 q.a)) g (P.set k q) := by
  obtain ⟨cur, h1, h2⟩ := h
  have s0 := h2 k hk 0 _ rfl
  have s1 := h2 k hk 1 _ rfl
  have s2 := h2 k hk 2 _ rfl
  have s3 := h2 k hk 3 _ rfl
  have s4 := h2 k hk 4 _ rfl
  have z0 := (Array.getElem?_eq_some_iff.1 s0).1
  have z1 := (Array.getElem?_eq_some_iff.1 s1).1
  have z2 := (Array.getElem?_eq_some_iff.1 s2).1
  have z3 := (Array.getElem?_eq_some_iff.1 s3).1
  have z4 := (Array.getElem?_eq_some_iff.1 s4).1
  refine ⟨_, blk_set (blk_set (blk_set (blk_set (blk_set h1 _ _) _ _) _ _) _ _) _ _, ?_⟩
  intro j hj i v hv
  rw [List.length_set] at hj
  rw [bAt_set hk] at hv
  have hi : i < 5 := by
    rcases Nat.lt_or_ge i 5 with h | h
    · exact h
    · rw [List.getElem?_eq_none (by simp [BK.cells]; omega)] at hv; cases hv
  simp only [Array.getElem?_setIfInBounds, Array.size_setIfInBounds]
  by_cases e : j = k
  · subst e
    rw [if_pos rfl] at hv
    match i, hi with
    | 0, _ => obtain rfl : Value.int .i64 q.c = v := by simpa [BK.cells] using hv
              (repeat rw [if_neg (by omega)]); rw [if_pos (by omega), if_pos (by omega)]
    | 1, _ => obtain rfl : Value.int .i64 q.n = v := by simpa [BK.cells] using hv
              (repeat rw [if_neg (by omega)]); rw [if_pos (by omega), if_pos (by omega)]
    | 2, _ => obtain rfl : Value.int .i64 q.d = v := by simpa [BK.cells] using hv
              (repeat rw [if_neg (by omega)]); rw [if_pos (by omega), if_pos (by omega)]
    | 3, _ => obtain rfl : Value.int .i64 q.l = v := by simpa [BK.cells] using hv
              (repeat rw [if_neg (by omega)]); rw [if_pos (by omega), if_pos (by omega)]
    | 4, _ => obtain rfl : Value.int .i64 q.a = v := by simpa [BK.cells] using hv
              rw [if_pos (by omega), if_pos (by omega)]
  · rw [if_neg e] at hv
    have := h2 j hj i v hv
    rw [if_neg (by omega), if_neg (by omega), if_neg (by omega), if_neg (by omega), if_neg (by omega)]
    exact this
theorem OwnB.reads {w : World} {g : Nat} {P : List BK} (h : OwnB w g P) (hl : P.length ≤ 9223372036854775807) : RdB w (some ⟨g, 0, none⟩) P := by
  refine ⟨hl, fun j hj => ⟨⟨g, 0, none⟩, rfl, ?_⟩⟩
  have a : ∀ m, (⟨g, 0, none⟩ : Addr).add m = ⟨g, m, none⟩ := fun m => by unfold Addr.add; split <;> simp_all
  rw [a]
  exact ⟨h.cell j 0 hj rfl, h.cell j 1 hj rfl, h.cell j 2 hj rfl, h.cell j 3 hj rfl, h.cell j 4 hj rfl⟩
theorem own_ownB {w : World} {base n : Nat} {v : Value} {P : List BK} (h : w.ownsRow base 23 5 v n (cellsB P)) (hn : n = P.length) (hp : 0 < P.length) : ∃ g cap, v = .slice (some ⟨g, 0, none⟩) P.length cap ∧ base ≤ g ∧ OwnB w g P := by
  rcases h.2 with ⟨rfl, rfl⟩ | ⟨g, cap, cur, rfl, hb, hh, hr⟩
  · have := h.1; rw [cellsB_length] at this; omega
  · refine ⟨g, cap, by rw [hn], hb, cur, hh, ?_⟩
    intro j hj i v hv
    have hi : i < 5 := by
      rcases Nat.lt_or_ge i 5 with h | h
      · exact h
      · rw [List.getElem?_eq_none (by simp [BK.cells]; omega)] at hv; cases hv
    have hc := h.cells (g := g) rfl (j * 5 + i) v (by rw [cellsB_get _ _ _ hj hi]; exact hv)
    rw [show (⟨g, 0, none⟩ : Addr).add (j * 5 + i) = ⟨g, j * 5 + i, none⟩ from by unfold Addr.add; split <;> simp_all, blk_cell hh] at hc
    exact hc
structure St8 (w W : World) (c n d l a : Int) (g : Nat) (P : List BK) : Prop where
  below : Below w.heap.size w W
  b : W.heap[w.heap.size]? = some (.cells #[.int .i64 c, .int .i64 n, .int .i64 d, .int .i64 l, .int .i64 a] 23 (0, 0))
  gt : w.heap.size < g
  row : OwnB W g P
section
variable {w W W1 : World} {c n d l a : Int} {g : Nat} {P : List BK}
theorem St8.to (h : St8 w W c n d l a g P) (hb : Below W.heap.size W W1) : St8 w W1 c n d l a g P :=
  ⟨below_then h.below h.below.size hb, kb_ hb h.b, h.gt, h.row.to hb⟩
theorem St8.drew (h : St8 w W c n d l a g P) : St8 w W.drew c n d l a g P := ⟨h.below.drew, h.b, h.gt, h.row⟩
theorem St8.alloc (h : St8 w W c n d l a g P) (o : Obj) : St8 w (W.alloc o) c n d l a g P := h.to ((Below.refl _ _).alloc (Nat.le_refl _) o)
theorem St8.size (h : St8 w W c n d l a g P) : w.heap.size < W.heap.size := (Array.getElem?_eq_some_iff.1 h.b).1
theorem St8.cb (h : St8 w W c n d l a g P) : W.cell? ⟨w.heap.size, 0, none⟩ = some (.int .i64 c) ∧ W.cell? ⟨w.heap.size, 1, none⟩ = some (.int .i64 n) ∧ W.cell? ⟨w.heap.size, 2, none⟩ = some (.int .i64 d) ∧ W.cell? ⟨w.heap.size, 3, none⟩ = some (.int .i64 l) ∧ W.cell? ⟨w.heap.size, 4, none⟩ = some (.int .i64 a) :=
  ⟨(blk_cell h.b 0).trans rfl, (blk_cell h.b 1).trans rfl, (blk_cell h.b 2).trans rfl, (blk_cell h.b 3).trans rfl, (blk_cell h.b 4).trans rfl⟩
theorem St8.cr (h : St8 w W c n d l a g P) (j : Nat) (hj : j < P.length) : W.cell? ⟨g, j * 5, none⟩ = some (.int .i64 (bAt P j).c) ∧ W.cell? ⟨g, j * 5 + 1, none⟩ = some (.int .i64 (bAt P j).n) ∧ W.cell? ⟨g, j * 5 + 2, none⟩ = some (.int .i64 (bAt P j).d) ∧ W.cell? ⟨g, j * 5 + 3, none⟩ = some (.int .i64 (bAt P j).l) ∧ W.cell? ⟨g, j * 5 + 4, none⟩ = some (.int .i64 (bAt P j).a) :=
  ⟨h.row.cell j 0 hj rfl, h.row.cell j 1 hj rfl, h.row.cell j 2 hj rfl, h.row.cell j 3 hj rfl, h.row.cell j 4 hj rfl⟩
theorem St8.far (h : St8 w W c n d l a g P) {q : Nat} (hb : w.heap.size < q) (hq : g ≠ q) (i : Nat) (u : Value) : St8 w (W.setCell ⟨q, i, none⟩ u) c n d l a g P :=
  ⟨h.below.setCell (p := ⟨q, i, none⟩) (by show w.heap.size ≤ q; omega) _, blk_far h.b (by show w.heap.size ≠ q; omega) _, h.gt, h.row.far (by show g ≠ q; exact hq) _⟩
theorem St8.setb (h : St8 w W c n d l a g P) (c' n' d' l' a' : Int) (hc : c' = c) (hn : n' = n) (hd : d' = d) :
    St8 w (((((W.setCell ⟨w.heap.size, 0, none⟩ (.int .i64 c')).setCell ⟨w.heap.size, 1, none⟩ (.int .i64 n')).setCell ⟨w.heap.size, 2, none⟩ (.int .i64 d')).setCell ⟨w.heap.size, 3, none⟩ (.int .i64 l')).setCell ⟨w.heap.size, 4, none⟩ (.int .i64 a')) c n d l' a' g P := by
  subst hc hn hd
  have hg := h.gt
  have hne : ∀ i, g ≠ (⟨w.heap.size, i, none⟩ : Addr).block := fun i => by show g ≠ w.heap.size; omega
  exact ⟨((((h.below.setCell (p := ⟨w.heap.size, 0, none⟩) (Nat.le_refl _) _).setCell (p := ⟨w.heap.size, 1, none⟩) (Nat.le_refl _) _).setCell (p := ⟨w.heap.size, 2, none⟩) (Nat.le_refl _) _).setCell (p := ⟨w.heap.size, 3, none⟩) (Nat.le_refl _) _).setCell (p := ⟨w.heap.size, 4, none⟩) (Nat.le_refl _) _,
    (blk_set (blk_set (blk_set (blk_set (blk_set h.b 0 _) 1 _) 2 _) 3 _) 4 _).trans rfl, h.gt, ((((h.row.far (hne 0) _).far (hne 1) _).far (hne 2) _).far (hne 3) _).far (hne 4) _⟩
theorem St8.setp (h : St8 w W c n d l a g P) {k : Nat} (hk : k < P.length) (q : BK) :
    St8 w (((((W.setCell ⟨g, k * 5, none⟩ (.int .i64 q.c)).setCell ⟨g, k * 5 + 1, none⟩ (.int .i64 q.n)).setCell ⟨g, k * 5 + 2, none⟩ (.int .i64 q.d)).setCell ⟨g, k * 5 + 3, none⟩ (.int .i64 q.l)).setCell ⟨g, k * 5 + 4, none⟩ (.int .i64 q.a)) c n d l a g (P.set k q) := by
  have hg := h.gt
  have hp : ∀ i, w.heap.size ≤ (⟨g, i, none⟩ : Addr).block := fun i => by show w.heap.size ≤ g; omega
  have hne : ∀ i, w.heap.size ≠ (⟨g, i, none⟩ : Addr).block := fun i => by show w.heap.size ≠ g; omega
  exact ⟨((((h.below.setCell (hp _) _).setCell (hp _) _).setCell (hp _) _).setCell (hp _) _).setCell (hp _) _,
    blk_far (blk_far (blk_far (blk_far (blk_far h.b (hne _) _) (hne _) _) (hne _) _) (hne _) _) (hne _) _, h.gt, h.row.set hk q⟩
end
/-- One try of a valid bucket at T: the answer of Take (y, e). -/
def Tk8 (T g : Int) (p y : BK) (e : Int) : Prop := (e = 0 ∧ y = takeB T g p ∧ g * p.d ≤ levB T p ∧ 1 ≤ g) ∨ e = 4 ∨ e = 1
theorem take8 {p : BK} {T g : Int} (hv : V p.c p.n p.d p.l p.a) (ha : p.a ≤ T) (hT : T ≤ 1099511627776) (hg0 : 0 ≤ g) (hg1 : g ≤ 255) :
    ∃ (y : BK) (e : Int), Hid (∀ w : World, Calls Try.prog 11 #[bk p.c p.n p.d p.l p.a, .int .i64 T, .int .i64 g] w fun r w' => r = .returned (.tuple #[bk y.c y.n y.d y.l y.a, .int .i64 e]) ∧ Below w.heap.size w w') ∧ Hid (Tk8 T g p y e) := by
  by_cases hg : 1 ≤ g
  · by_cases hx : lev p.c p.n p.d p.l p.a T < g * p.d
    · exact ⟨⟨0, 0, 0, 0, 0⟩, 4, fun w => take11_short p.c p.n p.d p.l p.a _ _ _ w hv hg (by omega) ha hT rfl hx, .inr (.inl rfl)⟩
    · exact ⟨takeB T g p, 0, fun w => take11_fine p.c p.n p.d p.l p.a _ _ _ w hv hg (by omega) ha hT rfl (Int.not_lt.1 hx), .inl ⟨rfl, rfl, Int.not_lt.1 hx, hg⟩⟩
  · exact ⟨⟨0, 0, 0, 0, 0⟩, 1, fun w => take11_arg2 p.c p.n p.d p.l p.a _ _ w hv (decide_eq_false (by omega)), .inr (.inr rfl)⟩
def refTo (T : Int) (Q : List BK) (q : Nat) : List BK := (Q.take q).map (refB T) ++ Q.drop q
theorem refTo_length (T : Int) (Q : List BK) (q : Nat) (h : q ≤ Q.length) : (refTo T Q q).length = Q.length := by simp [refTo]; omega
theorem refTo_at {T : Int} {Q : List BK} {q : Nat} (h : q < Q.length) : bAt (refTo T Q q) q = bAt Q q := by
  unfold bAt refTo
  rw [List.getD_eq_getElem?_getD, List.getD_eq_getElem?_getD, List.getElem?_append_right (by simp; omega)]
  simp [Nat.min_eq_left (Nat.le_of_lt h)]
theorem refTo_zero (T : Int) (Q : List BK) : refTo T Q 0 = Q := by simp [refTo]
theorem refTo_all (T : Int) (Q : List BK) : refTo T Q Q.length = Q.map (refB T) := by simp [refTo]
theorem refTo_step {T : Int} {Q : List BK} {q : Nat} (h : q < Q.length) : (refTo T Q q).set q (refB T (bAt Q q)) = refTo T Q (q + 1) := by
  unfold refTo
  have hb : bAt Q q = Q[q] := by unfold bAt; rw [List.getD_eq_getElem?_getD, List.getElem?_eq_getElem h]; rfl
  rw [hb, List.set_append_right _ _ (by simp; omega), List.take_succ_eq_append_getElem h, List.map_append, List.append_assoc]
  simp [Nat.min_eq_left (Nat.le_of_lt h)]
  rw [List.drop_eq_getElem_cons h]
  rfl

end Go.Proofs.Ytcikmloklbdddaa
