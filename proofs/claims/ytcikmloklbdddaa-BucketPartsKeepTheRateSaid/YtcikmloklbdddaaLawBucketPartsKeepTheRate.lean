/- The law BucketPartsKeepTheRate: its call returns true at every input, and its arguments read as they did. Conditions: none but the row's own. -/
import Derived.Test.YtcikmloklbdddaaRows
import Derived.Test.YtcikmloklbdddaaLaw8b
import Derived.WalkKit
import Derived.ProofKit
import Derived.OpenShut
import Derived.ShutString
import Derived.ChangeOld
import Derived.Below
import Derived.SizedLaws
import Derived.Carry
import Derived.Lib.SmallJoins
import Derived.ChangeSame
set_option linter.unusedVariables false
set_option linter.unusedSimpArgs false
namespace Go.Proofs.Ytcikmloklbdddaa.bucketPartsKeepTheRate
open Go.ChangeShapes Go.WideShapes Go.ChangeAt Go.RowKit Go.Joins Go.Deep
open Go.ChangeMaps (open_string shut_string)
theorem own : ownKnob Try.prog.godebug = none := by kernel_rfl
theorem laidOut : laidOutB Try.prog = true := by kernel_rfl
section
variable {H : Type} {enc : TypeId × Value → H} {w : World} {base : Nat} {spare : Nat → Bool} {held : Bool}
theorem open_bk {r : Reach} {b0 : Nat} {v : Value} {d : DataW H} {p : List MemPlace} (hv : Value.okWide Try.prog w r b0 23 v) (h : DataW.Trod enc Try.prog w base spare held 23 v d p) :
    ∃ c n q l a : Int, v = bk c n q l a := by
  obtain ⟨cs, rfl, hsz⟩ := okWide_struct Try.underlying23 hv
  obtain ⟨l⟩ := cs
  have hC : Try.prog.cellsOf 23 = 5 := by kernel_rfl
  have hl : l.length = 5 := hsz.trans hC
  obtain ⟨fuel, hf⟩ := h
  obtain ⟨xs, n, _, hx, _, hlen, hg⟩ := DataW.trod_struct Try.underlying23 hf

  have h3 : Try.prog.cellsOf 3 = 1 := by kernel_rfl
  have key : ∀ (i : Nat) (hi : i < 5), ∃ z : Int, l[i]? = some (.int .i64 z) := by
    intro i hi
    have hfi : ∃ f : Field, (Try.prog.underlying 23).bind (fun u => match u with | .struct fs => fs[i]? | _ => none) = some f ∧ f.type = 3 ∧ f.offset = i := by
      rw [Try.underlying23]
      match i, hi with
      | 0, _ => exact ⟨_, rfl, rfl, rfl⟩
      | 1, _ => exact ⟨_, rfl, rfl, rfl⟩
      | 2, _ => exact ⟨_, rfl, rfl, rfl⟩
      | 3, _ => exact ⟨_, rfl, rfl, rfl⟩
      | 4, _ => exact ⟨_, rfl, rfl, rfl⟩
    obtain ⟨f, hf1, hf2, hf3⟩ := hfi
    rw [Try.underlying23] at hf1
    have h1 := hg i f hf1
    rw [hf2, hf3, h3] at h1
    have hxi : i < xs.length := by rw [hlen]; exact hi
    rw [List.getElem?_eq_getElem hxi] at h1
    obtain ⟨z, hz, _⟩ := DataW.trod_int Try.underlying3 h1
    refine ⟨z, ?_⟩
    have h2 : (((Value.agg ⟨l⟩).cells.toList.drop i).take 1)[0]? = some (.int .i64 z) := by rw [hz]; rfl
    simpa [Value.cells] using h2
  match l, hl with
  | [c0, c1, c2, c3, c4], _ =>
    obtain ⟨z0, h0⟩ := key 0 (by decide)
    obtain ⟨z1, h1⟩ := key 1 (by decide)
    obtain ⟨z2, h2⟩ := key 2 (by decide)
    obtain ⟨z3, h3⟩ := key 3 (by decide)
    obtain ⟨z4, h4⟩ := key 4 (by decide)
    simp at h0 h1 h2 h3 h4
    subst h0 h1 h2 h3 h4
    exact ⟨z0, z1, z2, z3, z4, rfl⟩
end
open Go.Proofs.YtcikmloklbdddaaW.PrintWords (add_field ReadsInt rd)
section
variable {H : Type} {enc : TypeId × Value → H} {w : World} {spare : Nat → Bool} {held : Bool}
theorem wf_u8 {z : Int} (h : (Lit.int .u8 z).wf = true) : 0 ≤ z ∧ z ≤ 255 := by
  simp only [Lit.wf, Bool.and_eq_true, decide_eq_true_eq] at h
  exact ⟨h.1, h.2⟩
theorem wf_i64 {z : Int} (h : (Lit.int .i64 z).wf = true) : -9223372036854775808 ≤ z ∧ z ≤ 9223372036854775807 := by
  simp only [Lit.wf, Bool.and_eq_true, decide_eq_true_eq] at h
  exact ⟨h.1, h.2⟩
theorem open_ints {base b0 : Nat} {r : Reach} {v : Value} {d : DataW H} {p : List MemPlace} (hv : Value.okWide Try.prog w r b0 46 v) (h : DataW.Trod enc Try.prog w base spare held 46 v d p) :
    ∃ (A : Option Addr) (xs : List Int) (cp : Nat), v = .slice A xs.length cp ∧ ReadsInt w .i64 A xs.length xs ∧ (∀ x ∈ xs, -9223372036854775808 ≤ x ∧ x ≤ 9223372036854775807) := by
  obtain ⟨A, len, cp, rfl⟩ := okWide_slice Try.underlying46 hv
  obtain ⟨fuel, hf⟩ := h
  rcases DataW.trod_slice Try.underlying46 hf with ⟨hcs, _⟩ | ⟨a, l, c, elems, rest, n, _, hcs, _, _, hl, hm, hlen, hel, _⟩
  · simp [Value.cells] at hcs
    obtain ⟨rfl, rfl, rfl⟩ := hcs
    exact ⟨none, [], 0, rfl, ⟨rfl, by simp, by intro h; simp at h⟩, by simp⟩
  · simp [Value.cells] at hcs
    obtain ⟨rfl, rfl, rfl⟩ := hcs
    have hC : Try.prog.cellsOf 3 = 1 := by kernel_rfl
    have key : ∀ j, j < len → ∃ x : Int, (-9223372036854775808 ≤ x ∧ x ≤ 9223372036854775807) ∧ w.cell? (a.add j) = some (.int .i64 x) := by
      intro j hj
      have h1 := hel j hj
      rw [hC, List.getElem?_eq_getElem (by omega)] at h1
      obtain ⟨cs, hc, ht⟩ := Option.bind_eq_some_iff.1 h1
      obtain ⟨_, hcl, hat⟩ := World.cells?_some hc
      obtain ⟨z, hz, _, hw⟩ := DataW.trod_int Try.underlying3 ht
      refine ⟨z, wf_i64 hw, ?_⟩
      have := hat 0 (by decide)
      rw [hz] at this
      simpa [Go.Deep.add_add] using this
    let f : Nat → Int := fun j => if h : j < len then Classical.choose (key j h) else 0
    have hfs : ∀ j (h : j < len), f j = Classical.choose (key j h) := fun j h => by simp [f, h]
    refine ⟨some a, (List.range len).map f, cp, by simp, ?_, ?_⟩
    · refine ⟨rfl, by simp; unfold maxLen at hm; omega, fun _ => ⟨a, rfl, fun j hj => ?_⟩⟩
      simp at hj
      have := (Classical.choose_spec (key j hj)).2
      rw [← hfs j hj] at this
      rw [show ((List.range len).map f).getD j 0 = f j by simp [List.getD_eq_getElem?_getD, hj]]
      exact this
    · intro x hx
      obtain ⟨j, hj, rfl⟩ := List.mem_map.1 hx
      have hj := List.mem_range.1 hj
      rw [hfs j hj]
      exact (Classical.choose_spec (key j hj)).1
theorem open_tries {base b0 : Nat} {r : Reach} {v : Value} {d : DataW H} {p : List MemPlace} (hv : Value.okWide Try.prog w r b0 45 v) (h : DataW.Trod enc Try.prog w base spare held 45 v d p) :
    ∃ (A : Option Addr) (ts : List TRY) (cp : Nat), v = .slice A ts.length cp ∧ RdT w A ts := by
  obtain ⟨A, len, cp, rfl⟩ := okWide_slice Try.underlying45 hv
  obtain ⟨fuel, hf⟩ := h
  rcases DataW.trod_slice Try.underlying45 hf with ⟨hcs, _⟩ | ⟨a, l, c, elems, rest, n, _, hcs, _, _, hl, hm, hlen, hel, _⟩
  · simp [Value.cells] at hcs
    obtain ⟨rfl, rfl, rfl⟩ := hcs
    exact ⟨none, [], 0, rfl, by simp, by simp, by intro j hj; simp at hj⟩
  · simp [Value.cells] at hcs
    obtain ⟨rfl, rfl, rfl⟩ := hcs
    have hC : Try.prog.cellsOf 48 = 3 := by kernel_rfl
    have hC5 : Try.prog.cellsOf 5 = 1 := by kernel_rfl
    have key : ∀ j, j < len → ∃ x : TRY, ((0 ≤ x.f ∧ x.f ≤ 255) ∧ (0 ≤ x.g ∧ x.g ≤ 255) ∧ (0 ≤ x.h ∧ x.h ≤ 255)) ∧ w.cell? (a.add (j * 3)) = some (.int .u8 x.f) ∧ w.cell? ⟨(a.add (j * 3)).block, (a.add (j * 3)).off + 1, none⟩ = some (.int .u8 x.g) ∧ w.cell? ⟨(a.add (j * 3)).block, (a.add (j * 3)).off + 2, none⟩ = some (.int .u8 x.h) := by
      intro j hj
      have h1 := hel j hj
      rw [hC, List.getElem?_eq_getElem (by omega)] at h1
      obtain ⟨cs, hc, ht⟩ := Option.bind_eq_some_iff.1 h1
      obtain ⟨_, hcl, hat⟩ := World.cells?_some hc
      obtain ⟨xs, m, _, _, _, hxl, hg⟩ := DataW.trod_struct Try.underlying48 ht
      have fld : ∀ i, i < 3 → ∃ z, cs[i]? = some (.int .u8 z) ∧ 0 ≤ z ∧ z ≤ 255 := by
        intro i hi
        have hfi : ∃ f : Field, (Try.prog.underlying 48).bind (fun u => match u with | .struct fs => fs[i]? | _ => none) = some f ∧ f.type = 5 ∧ f.offset = i := by
          rw [Try.underlying48]
          match i, hi with
          | 0, _ => exact ⟨_, rfl, rfl, rfl⟩
          | 1, _ => exact ⟨_, rfl, rfl, rfl⟩
          | 2, _ => exact ⟨_, rfl, rfl, rfl⟩
        obtain ⟨f, hf1, hf2, hf3⟩ := hfi
        rw [Try.underlying48] at hf1
        have h2 := hg i f hf1
        rw [hf2, hf3, hC5, List.getElem?_eq_getElem (by rw [hxl]; exact hi)] at h2
        obtain ⟨z, hz, _, hw⟩ := DataW.trod_int Try.underlying5 h2
        refine ⟨z, ?_, wf_u8 hw⟩
        have h3 : ((cs.drop i).take 1)[0]? = some (.int .u8 z) := by rw [hz]; rfl
        simpa [List.getElem?_take, List.getElem?_drop] using h3
      obtain ⟨z0, e0, b0⟩ := fld 0 (by decide)
      obtain ⟨z1, e1, b1⟩ := fld 1 (by decide)
      obtain ⟨z2, e2, b2⟩ := fld 2 (by decide)
      refine ⟨⟨z0, z1, z2⟩, ⟨b0, b1, b2⟩, ?_, ?_, ?_⟩
      · have := hat 0 (by decide)
        rw [e0] at this
        simpa [Go.Deep.add_add] using this
      · have := hat 1 (by decide)
        rw [e1, Go.Deep.add_add] at this
        rw [← add_field _ _ 1 (by omega)]
        exact this
      · have := hat 2 (by decide)
        rw [e2, Go.Deep.add_add] at this
        rw [← add_field _ _ 2 (by omega)]
        exact this
    let f : Nat → TRY := fun j => if h : j < len then Classical.choose (key j h) else ⟨0, 0, 0⟩
    have hfs : ∀ j (h : j < len), f j = Classical.choose (key j h) := fun j h => by simp [f, h]
    have hts : ∀ j, j < len → tryAt ((List.range len).map f) j = f j := fun j hj => by simp [tryAt, List.getD_eq_getElem?_getD, hj]
    refine ⟨some a, (List.range len).map f, cp, by simp, by simp; unfold maxLen at hm; omega, ?_, ?_⟩
    · intro x hx
      obtain ⟨j, hj, rfl⟩ := List.mem_map.1 hx
      have hj := List.mem_range.1 hj
      rw [hfs j hj]
      exact (Classical.choose_spec (key j hj)).1
    · intro j hj
      simp at hj
      rw [hts j hj, hfs j hj]
      exact ⟨a, rfl, (Classical.choose_spec (key j hj)).2⟩
end

set_option maxRecDepth 100000 in
theorem lifted (os : Os) (started : os.Started) (H : Type) (enc : TypeId × Value → H) :
    ReturnsInHanded {} Try.checked os 8 .any (Rows.bucketPartsKeepTheRateSpec.pre6 enc Try.prog Try.f8 Rows.bucketPartsKeepTheRateRow.domain false) (Rows.bucketPartsKeepTheRateSpec.post enc Try.prog Try.f8 false true false false) := by
  refine returnsInHanded_of_change_sized (C := Try.checked) own started (by kernel_rfl) Try.func8
    (ChangeSpec.witness6 (enc := enc) (C := Try.checked) false ⟨#[], #[.agg #[.int .i64 0, .int .i64 0, .int .i64 0, .int .i64 0, .int .i64 0], .slice none 0 0, .slice none 0 0, .slice none 0 0], []⟩ 8 (by kernel_rfl) (by kernel_rfl) (by kernel_rfl) (by kernel_rfl)) ?_
  intro W base args ds gs before hval0 hW hcnd hsz0 _
  have hsz : (DataW.weightsEach Try.prog (Try.f8.params.toList ++ Rows.bucketPartsKeepTheRateSpec.plain.varTypes Try.prog) (ds ++ gs)).all (· ≤ reachBytes) = true := hsz0
  have hval : ∀ (j : Nat) t v, Try.f8.params[j]? = some t → args[j]? = some v → Value.okWide Try.prog W .any base t v := hval0
  have hW' := hW
  obtain ⟨p, q, hA0, hV, rfl, hfz, hnd⟩ := hW
  have hA : DataW.TrodAll enc Try.prog W 0 (fun _ => true) true Try.f8.params.toList args.toList ds p := hA0
  rw [Try.params8] at hA hval hsz
  obtain ⟨v0, vs0, d0, ds0, p0, q0, hargs, rfl, rfl, h0, r0⟩ := trodAll_cons hA
  obtain ⟨v1, vs1, d1, ds1, p1, q1, rfl, rfl, rfl, h1, r1⟩ := trodAll_cons r0
  obtain ⟨v2, vs2, d2, ds2, p2, q2, rfl, rfl, rfl, h2, r2⟩ := trodAll_cons r1
  obtain ⟨v3, vs3, d3, ds3, p3, q3, rfl, rfl, rfl, h3, r3⟩ := trodAll_cons r2
  obtain ⟨rfl, rfl, rfl⟩ := trodAll_nil r3
  obtain rfl : args = #[v0, v1, v2, v3] := by cases args; simp_all
  obtain ⟨rfl, rfl⟩ := trodVars_none hV
  have k0 := h0
  have lt0 : ∀ x ∈ p0, x.block < W.heap.size := by obtain ⟨m, hm⟩ := k0; exact DataW.trod_lt m _ _ _ hm
  obtain ⟨bc0, bn0, bd0, bl0, ba0, rfl⟩ := open_bk (hval 0 23 v0 rfl rfl) h0
  have k1 := h1
  have lt1 : ∀ x ∈ p1, x.block < W.heap.size := by obtain ⟨m, hm⟩ := k1; exact DataW.trod_lt m _ _ _ hm
  obtain ⟨A1, xs1, cp1, rfl, hr1, hw1⟩ := open_ints (hval 1 46 v1 rfl rfl) h1
  have k2 := h2
  have lt2 : ∀ x ∈ p2, x.block < W.heap.size := by obtain ⟨m, hm⟩ := k2; exact DataW.trod_lt m _ _ _ hm
  obtain ⟨A2, xs2, cp2, rfl, hr2, hw2⟩ := open_ints (hval 2 46 v2 rfl rfl) h2
  have k3 := h3
  have lt3 : ∀ x ∈ p3, x.block < W.heap.size := by obtain ⟨m, hm⟩ := k3; exact DataW.trod_lt m _ _ _ hm
  obtain ⟨A3, ts3, cp3, rfl, hr3⟩ := open_tries (hval 3 45 v3 rfl rfl) h3
  clear hA0 hval0 hsz0 hsz
  refine (law8 bc0 bn0 bd0 bl0 ba0 A1 A2 A3 cp1 cp2 cp3 xs1 xs2 ts3 W hr1 hr2 hr3 hw1 hw2).mono fun e W' ⟨he, bel⟩ => ?_
  subst he
  exact ⟨_, rfl, _, _, _, [], _, [], hW', trodAll_mk1 (shut_bool Try.underlying4 _), (trodAll_cons_mk (Below.trod laidOut (by kernel_rfl) (of_decide_eq_true (by kernel_rfl)) k0 bel lt0) (trodAll_cons_mk (Below.trod laidOut (by kernel_rfl) (of_decide_eq_true (by kernel_rfl)) k1 bel lt1) (trodAll_cons_mk (Below.trod laidOut (by kernel_rfl) (of_decide_eq_true (by kernel_rfl)) k2 bel lt2) (trodAll_cons_mk (Below.trod laidOut (by kernel_rfl) (of_decide_eq_true (by kernel_rfl)) k3 bel lt3) trodAll_mk0)))), rfl, bel.frame _, fun h => by cases h⟩
theorem over : Rows.bucketPartsKeepTheRateRow.holds Try.pinned (OpenSpec.ofChange Rows.bucketPartsKeepTheRateSpec) :=
  OpenClaim.holds_of_wide 8 Try.f8 rfl rfl rfl rfl rfl rfl rfl ⟨rfl, rfl, rfl, rfl, rfl⟩ rfl rfl rfl rfl rfl (by kernel_rfl) Try.func8 (by kernel_rfl)
    (of_decide_eq_true (by kernel_rfl)) (by unfold Func.isWrapper; first | (rw [if_pos (by decide +kernel)]; kernel_rfl) | (rw [if_neg (by decide +kernel)]; exact ⟨rfl, rfl⟩))
    (fun os started H enc _ => lifted os started H enc)
theorem proved : Rows.BucketPartsKeepTheRateSaid := over
#print axioms proved
end Go.Proofs.Ytcikmloklbdddaa.bucketPartsKeepTheRate
namespace Go.Proofs.Ytcikmloklbdddaa
/-- The row, under a short name, for the claim. -/
theorem bucketPartsKeepTheRate_holds : Rows.BucketPartsKeepTheRateSaid := bucketPartsKeepTheRate.proved
end Go.Proofs.Ytcikmloklbdddaa
