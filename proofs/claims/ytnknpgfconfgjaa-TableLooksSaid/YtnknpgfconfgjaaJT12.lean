/-
  Lemmas, joined: OpenG, OpenT.
-/
import Derived.Test.YtnknpgfconfgjaaRows
import Derived.WalkKit
import Derived.ProofKit
import Derived.OpenShut
import Derived.ChangeOld
import Derived.Below
import Derived.Deep.Slices
import Derived.Test.YtnknpgfconfgjaaJT01
/-
  Opening a parameter: slices of any elements, structs by value, numbers.
-/
namespace Go.Proofs.Ytnknpgfconfgjaa
open Go.ChangeShapes Go.WideShapes Go.ChangeAt Go.RowKit Go.Deep

section
variable {H : Type} {enc : TypeId × Value → H} {w : World}

theorem u64_of_wf {n : Int} (h : (Lit.int IntKind.u64 n).wf = true) : ∃ k : Nat, n = (k : Int) ∧ k < 18446744073709551616 := by
  have h0 : IntKind.u64.min = 0 := by decide
  have h1 : IntKind.u64.max = 18446744073709551615 := by decide
  simp only [Lit.wf, Bool.and_eq_true, decide_eq_true_eq, h0, h1] at h
  obtain ⟨n, rfl⟩ := Int.eq_ofNat_of_zero_le h.1
  exact ⟨n, rfl, by omega⟩

/-- A struct's fields, one after the other. -/
theorem trod_field {t : TypeId} {fs : Array Field} {fuel : Nat} {cs : List Value} {x : DataW H × List MemPlace} (ht : Try.prog.underlying t = some (.struct fs)) (h : DataW.trod enc Try.prog w 0 (fun _ => true) true fuel t cs = some x)
    (i : Nat) (f : Field) (hf : fs[i]? = some f) (ty o c : Nat) (h1 : f.type = ty) (h2 : f.offset = o) (h3 : Try.prog.cellsOf ty = c) : ∃ n y, DataW.trod enc Try.prog w 0 (fun _ => true) true n ty ((cs.drop o).take c) = some y := by
  subst h1 h2 h3
  obtain ⟨xs, n, rfl, -, -, hl, hg⟩ := DataW.trod_struct ht h
  have hi : i < fs.size := (Array.getElem?_eq_some_iff.1 hf).1
  exact ⟨n, _, (hg i f hf).trans (List.getElem?_eq_getElem (by omega))⟩

theorem hadd0 (ab ao i : Nat) : (Addr.mk ab ao none).add i = ⟨ab, ao + i, none⟩ := by
  unfold Addr.add
  by_cases hi : i = 0 <;> simp [hi]

set_option maxRecDepth 100000 in
theorem open_rowAt {α : Type} {At : World → Nat → Nat → α → Prop} {t e : TypeId} {c : Nat} {fuel : Nat} {va : Value} {x : DataW H × List MemPlace} (d : α) (ht : Try.prog.underlying t = some (.slice e)) (hc : Try.prog.cellsOf e = c) (hc0 : 0 < c)
    (hel : ∀ (m b o : Nat) (cs : List Value) (y : DataW H × List MemPlace), cs.length = c → CellsAt w b o cs → DataW.trod enc Try.prog w 0 (fun _ => true) true m e cs = some y → ∃ x, At w b o x)
    (h : DataW.trod enc Try.prog w 0 (fun _ => true) true fuel t [va] = some x) : ∃ l, RowAt c At w va l := by
  subst hc
  rcases open_slice ht h with ⟨he, -⟩ | ⟨a, len, cap, m, n, D, Pl, he, -, hl, hm, hmm, hxx, hx⟩
  · simp only [List.cons.injEq, and_true] at he
    exact ⟨[], by rw [he]; exact RowAt.nil⟩
  simp only [List.cons.injEq, and_true] at he
  simp only [if_true] at hmm
  subst hmm he
  have key : ∀ j, j < len → ∃ cs y, cs.length = Try.prog.cellsOf e ∧ (∀ i, i < Try.prog.cellsOf e → w.cell? (a.add (j * Try.prog.cellsOf e + i)) = cs[i]?) ∧ DataW.trod enc Try.prog w 0 (fun _ => true) true n e cs = some y := by
    intro j hj
    obtain ⟨cs, hcs, htr⟩ := hx j (by omega)
    obtain ⟨-, hlen, hat⟩ := World.cells?_some hcs
    refine ⟨cs, _, hlen, fun i hi => ?_, htr⟩
    rw [← Go.Deep.add_add]; exact hat i hi
  by_cases h0 : 0 < len
  · obtain ⟨cs0, -, hl0, hc0', -⟩ := key 0 h0
    have c0 := hc0' 0 hc0
    rw [List.getElem?_eq_getElem (by omega), Nat.zero_mul, Nat.add_zero] at c0
    obtain ⟨ab, ao, asp⟩ := a
    have hsp : asp = none := (cell_there c0).2
    have hblk := (cell_there c0).1
    subst hsp
    rw [hadd0] at hblk
    have key2 : ∀ j, ∃ y : α, j < len → At w ab (ao + j * Try.prog.cellsOf e) y := by
      intro j
      by_cases hj : j < len
      · obtain ⟨cs, y, h1, h2, h3⟩ := key j hj
        obtain ⟨x, hx⟩ := hel n ab (ao + j * Try.prog.cellsOf e) cs y h1 (fun i v hi => by
          have hlt := (List.getElem?_eq_some_iff.1 hi).1
          have := h2 i (by omega)
          rw [hadd0] at this
          rw [Nat.add_assoc, this]; exact hi) h3
        exact ⟨x, fun _ => hx⟩
      · exact ⟨d, fun h => absurd h hj⟩
    obtain ⟨f, hf⟩ := Classical.axiomOfChoice key2
    refine ⟨(List.range len).map f, some ⟨ab, ao, none⟩, _, by simp, by simpa using hl, hm, (fun q => by cases q), fun _ => ⟨ab, ao, rfl, hblk, fun j x hj => ?_⟩⟩
    have hjl : j < len := by have := (List.getElem?_eq_some_iff.1 hj).1; simpa using this
    have : f j = x := by simpa [hjl] using hj
    rw [← this]; exact hf j hjl
  · obtain rfl : len = 0 := by omega
    exact ⟨[], some a, _, rfl, Nat.zero_le _, hm, (fun q => by cases q), fun h => absurd h (Nat.lt_irrefl 0)⟩

set_option maxRecDepth 100000 in
theorem slice_cells {t e : TypeId} {va : Value} {base : Nat} (ht : Try.prog.underlying t = some (.slice e)) (hv : Value.okWide Try.prog w .any base t va) : va.cells.toList = [va] := by
  simp only [Value.okWide, Cell.okWide, ht] at hv
  cases va <;> first | rfl | (simp [Cell.ok, ht] at hv)
set_option maxRecDepth 100000 in
theorem agg_cells {t : TypeId} {fs : Array Field} {va : Value} {base : Nat} (ht : Try.prog.underlying t = some (.struct fs)) (hv : Value.okWide Try.prog w .any base t va) : ∃ cs, va = .agg cs ∧ cs.size = Try.prog.cellsOf t := by
  simp only [Value.okWide, ht] at hv
  obtain ⟨cs, rfl, h1, -⟩ := hv
  exact ⟨cs, rfl, h1⟩
end
end Go.Proofs.Ytnknpgfconfgjaa

/-
  Parameters of tables opened: entries, numbers, runs.
-/
namespace Go.Proofs.Ytnknpgfconfgjaa
open Go.ChangeShapes Go.WideShapes Go.ChangeAt Go.RowKit Go.Deep

section
variable {H : Type} {enc : TypeId × Value → H} {w : World}

set_option maxRecDepth 100000 in
theorem nAt_of_trod {m b o : Nat} {c0 c1 : Value} {y : DataW H × List MemPlace} (hc : CellsAt w b o [c0, c1]) (h : DataW.trod enc Try.prog w 0 (fun _ => true) true m 24 [c0, c1] = some y) : ∃ n, NAt w b o n := by
  obtain ⟨n0, y0, h0⟩ := trod_field Try.underlying24 h 0 _ rfl 22 0 1 rfl rfl (by kernel_rfl)
  obtain ⟨n1, y1, h1⟩ := trod_field Try.underlying24 h 1 _ rfl 22 1 1 rfl rfl (by kernel_rfl)
  obtain ⟨v0, e0, -, b0⟩ := DataW.trod_int Try.underlying22 h0
  obtain ⟨v1, e1, -, b1⟩ := DataW.trod_int Try.underlying22 h1
  simp only [List.drop_zero, List.take, List.drop] at e0 e1
  obtain ⟨k0, rfl, l0⟩ := u64_of_wf b0
  obtain ⟨k1, rfl, l1⟩ := u64_of_wf b1
  simp only [List.cons.injEq, and_true] at e0 e1
  subst e0 e1
  have hB : B = 18446744073709551616 := rfl
  rw [← hB] at l0 l1
  have hB0 : 0 < B := by decide
  have e1 : (k0 * B + k1) / B = k0 := by
    rw [Nat.mul_comm, Nat.mul_add_div hB0, Nat.div_eq_of_lt l1, Nat.add_zero]
  have e2 : (k0 * B + k1) % B = k1 := by
    rw [Nat.mul_comm, Nat.mul_add_mod, Nat.mod_eq_of_lt l1]
  refine ⟨k0 * B + k1, ?_, ?_, ?_⟩
  · have : (k0 + 1) * B ≤ B * B := Nat.mul_le_mul_right _ l0
    rw [Nat.succ_mul] at this
    omega
  · rw [e1]; exact hc 0 _ rfl
  · rw [e2]; exact hc 1 _ rfl
set_option maxRecDepth 100000 in
theorem pAt_of_trod {m b o : Nat} {c0 c1 c2 c3 : Value} {y : DataW H × List MemPlace} (hc : CellsAt w b o [c0, c1, c2, c3]) (h : DataW.trod enc Try.prog w 0 (fun _ => true) true m 85 [c0, c1, c2, c3] = some y) : ∃ n, PAt w b o n := by
  obtain ⟨n0, y0, h0⟩ := trod_field Try.underlying85 h 0 _ rfl 24 0 2 rfl rfl (by kernel_rfl)
  obtain ⟨n1, y1, h1⟩ := trod_field Try.underlying85 h 1 _ rfl 24 2 2 rfl rfl (by kernel_rfl)
  simp only [List.drop_zero, List.take, List.drop] at h0 h1
  obtain ⟨v, hv⟩ := nAt_of_trod (b := b) (o := o) (fun i u hi => hc i u (by
    match i, hi with
    | 0, hi => exact hi
    | 1, hi => exact hi)) h0
  obtain ⟨k, hk⟩ := nAt_of_trod (b := b) (o := o + 2) (fun i u hi => by
    rw [Nat.add_assoc]
    refine hc (2 + i) u ?_
    match i, hi with
    | 0, hi => exact hi
    | 1, hi => exact hi) h1
  exact ⟨⟨v, k⟩, hv, hk⟩
set_option maxRecDepth 100000 in
theorem nums_of_trod {fuel : Nat} {va : Value} {x : DataW H × List MemPlace} (h : DataW.trod enc Try.prog w 0 (fun _ => true) true fuel 29 [va] = some x) : ∃ l, NRow w va l :=
  open_rowAt 0 Try.underlying29 (by kernel_rfl : _ = 2) (by decide) (fun m b o cs y hl hc ht => by
    match cs, hl with
    | [c0, c1], _ => exact nAt_of_trod hc ht) h
set_option maxRecDepth 100000 in
theorem pats_of_trod {fuel : Nat} {va : Value} {x : DataW H × List MemPlace} (h : DataW.trod enc Try.prog w 0 (fun _ => true) true fuel 58 [va] = some x) : ∃ l, PRow w va l :=
  open_rowAt ⟨0, 0⟩ Try.underlying58 (by kernel_rfl : _ = 4) (by decide) (fun m b o cs y hl hc ht => by
    match cs, hl with
    | [c0, c1, c2, c3], _ => exact pAt_of_trod hc ht) h
set_option maxRecDepth 100000 in
theorem run_of_trod {m : Nat} {c0 c1 : Value} {y : DataW H × List MemPlace} (h : DataW.trod enc Try.prog w 0 (fun _ => true) true m 56 [c0, c1] = some y) : ∃ (a : Int) (g : List Nat), c0 = .int .i64 a ∧ NRow w c1 g := by
  obtain ⟨n0, y0, h0⟩ := trod_field Try.underlying56 h 0 _ rfl 3 0 1 rfl rfl (by kernel_rfl)
  obtain ⟨n1, y1, h1⟩ := trod_field Try.underlying56 h 1 _ rfl 29 1 1 rfl rfl (by kernel_rfl)
  simp only [List.drop_zero, List.take, List.drop] at h0 h1
  obtain ⟨k0, e0, -, -⟩ := DataW.trod_int Try.underlying3 h0
  simp only [List.cons.injEq, and_true] at e0
  obtain ⟨g, hg⟩ := nums_of_trod h1
  exact ⟨k0, g, e0, hg⟩
set_option maxRecDepth 100000 in
theorem eAt_of_trod {m b o : Nat} {c0 c1 c2 c3 c4 c5 : Value} {y : DataW H × List MemPlace} (hc : CellsAt w b o [c0, c1, c2, c3, c4, c5]) (h : DataW.trod enc Try.prog w 0 (fun _ => true) true m 60 [c0, c1, c2, c3, c4, c5] = some y) : ∃ n, EAt w b o n := by
  obtain ⟨n0, y0, h0⟩ := trod_field Try.underlying60 h 0 _ rfl 3 0 1 rfl rfl (by kernel_rfl)
  obtain ⟨n1, y1, h1⟩ := trod_field Try.underlying60 h 1 _ rfl 58 1 1 rfl rfl (by kernel_rfl)
  obtain ⟨n2, y2, h2⟩ := trod_field Try.underlying60 h 2 _ rfl 3 2 1 rfl rfl (by kernel_rfl)
  obtain ⟨n3, y3, h3⟩ := trod_field Try.underlying60 h 3 _ rfl 3 3 1 rfl rfl (by kernel_rfl)
  obtain ⟨n4, y4, h4⟩ := trod_field Try.underlying60 h 4 _ rfl 56 4 2 rfl rfl (by kernel_rfl)
  obtain ⟨k0, e0, -, -⟩ := DataW.trod_int Try.underlying3 h0
  obtain ⟨k2, e2, -, -⟩ := DataW.trod_int Try.underlying3 h2
  obtain ⟨k3, e3, -, -⟩ := DataW.trod_int Try.underlying3 h3
  simp only [List.drop_zero, List.take, List.drop] at e0 h1 e2 e3 h4
  simp only [List.cons.injEq, and_true] at e0 e2 e3
  subst e0 e2 e3
  obtain ⟨l, hl⟩ := pats_of_trod h1
  obtain ⟨a, g, rfl, hg⟩ := run_of_trod h4
  exact ⟨⟨k0, l, k2, k3, a, g⟩, hc 0 _ rfl, ⟨_, hc 1 _ rfl, hl⟩, hc 2 _ rfl, hc 3 _ rfl, hc 4 _ rfl, ⟨_, hc 5 _ rfl, hg⟩⟩

set_option maxRecDepth 100000 in
theorem open_entries {va : Value} {d : DataW H} {p : List MemPlace} (hv : Value.okWide Try.prog w .any 0 54 va) (h : DataW.Trod enc Try.prog w 0 (fun _ => true) true 54 va d p) : ∃ l, ERow w va l := by
  obtain ⟨fuel, h⟩ := h
  rw [slice_cells Try.underlying54 hv] at h
  exact open_rowAt ⟨0, [], 0, 0, 0, []⟩ Try.underlying54 (by kernel_rfl : _ = 6) (by decide) (fun m b o cs y hl hc ht => by
    match cs, hl with
    | [c0, c1, c2, c3, c4, c5], _ => exact eAt_of_trod hc ht) h
set_option maxRecDepth 100000 in
theorem open_nums {va : Value} {d : DataW H} {p : List MemPlace} (hv : Value.okWide Try.prog w .any 0 29 va) (h : DataW.Trod enc Try.prog w 0 (fun _ => true) true 29 va d p) : ∃ l, NRow w va l := by
  obtain ⟨fuel, h⟩ := h
  rw [slice_cells Try.underlying29 hv] at h
  exact nums_of_trod h
set_option maxRecDepth 100000 in
theorem open_run {va : Value} {d : DataW H} {p : List MemPlace} (hv : Value.okWide Try.prog w .any 0 56 va) (h : DataW.Trod enc Try.prog w 0 (fun _ => true) true 56 va d p) : ∃ (a : Int) (v : Value) (g : List Nat), va = .agg #[.int .i64 a, v] ∧ NRow w v g := by
  obtain ⟨fuel, h⟩ := h
  obtain ⟨cs, rfl, hs⟩ := agg_cells Try.underlying56 hv
  have e : Try.prog.cellsOf 56 = 2 := by kernel_rfl
  rw [e] at hs
  obtain ⟨cl⟩ := cs
  match cl, hs with
  | [c0, c1], _ =>
    obtain ⟨a, g, rfl, hg⟩ := run_of_trod h
    exact ⟨a, c1, g, rfl, hg⟩
set_option maxRecDepth 100000 in
theorem open_i64 {W : World} {v : Value} (h : Value.okWide Try.prog W .any 0 3 v) : ∃ n, v = .int .i64 n ∧ IntKind.i64.has n := by
  simp only [Value.okWide, Cell.okWide, Try.underlying3] at h
  cases v <;> simp_all [Cell.ok]

end
end Go.Proofs.Ytnknpgfconfgjaa
