/-
  A parameter that is a slice of layer 18's calls, opened: each call's seven cells.
-/
import Derived.Test.YtlnkflmnjkmhkaaRows
import Derived.WalkKit
import Derived.ProofKit
import Derived.OpenShut
import Derived.ChangeOld
import Derived.Below
import Derived.Deep.Slices
import Derived.Test.YtlnkflmnjkmhkaaJQ01

namespace Go.Proofs.Ytlnkflmnjkmhkaa
open Go.ChangeShapes Go.WideShapes Go.ChangeAt Go.RowKit Go.Deep

section
variable {H : Type} {enc : TypeId × Value → H} {w : World}

theorem u64_of_wf {n : Int} (h : (Lit.int IntKind.u64 n).wf = true) : ∃ k : Nat, n = (k : Int) ∧ k < 18446744073709551616 := by
  have h0 : IntKind.u64.min = 0 := by decide
  have h1 : IntKind.u64.max = 18446744073709551615 := by decide
  simp only [Lit.wf, Bool.and_eq_true, decide_eq_true_eq, h0, h1] at h
  obtain ⟨n, rfl⟩ := Int.eq_ofNat_of_zero_le h.1
  exact ⟨n, rfl, by omega⟩

/-- A struct's fields, one after the other. -/
theorem trod_field {t : TypeId} {fs : Array Field} {fuel : Nat} {cs : List Value} {x : DataW H × List MemPlace} (ht : Try.prog.underlying t = some (.struct fs)) (h : DataW.trod enc Try.prog w 0 (fun _ => true) true fuel t cs = some x)
    (i : Nat) (f : Field) (hf : fs[i]? = some f) (ty o c : Nat) (h1 : f.type = ty) (h2 : f.offset = o) (h3 : Try.prog.cellsOf ty = c) : ∃ n y, DataW.trod enc Try.prog w 0 (fun _ => true) true n ty ((cs.drop o).take c) = some y := by
  subst h1 h2 h3
  obtain ⟨xs, n, rfl, -, -, hl, hg⟩ := DataW.trod_struct ht h
  have hi : i < fs.size := (Array.getElem?_eq_some_iff.1 hf).1
  exact ⟨n, _, (hg i f hf).trans (List.getElem?_eq_getElem (by omega))⟩

set_option maxRecDepth 100000 in
theorem trod_num2 {fuel : Nat} {c0 c1 : Value} {x : DataW H × List MemPlace} (h : DataW.trod enc Try.prog w 0 (fun _ => true) true fuel 41 [c0, c1] = some x) :
    ∃ v0 v1 : Nat, v0 < 18446744073709551616 ∧ v1 < 18446744073709551616 ∧ c0 = .int .u64 (v0 : Int) ∧ c1 = .int .u64 (v1 : Int) := by
  obtain ⟨n0, y0, h0⟩ := trod_field Try.underlying41 h 0 _ rfl 38 0 1 rfl rfl (by kernel_rfl)
  obtain ⟨n1, y1, h1⟩ := trod_field Try.underlying41 h 1 _ rfl 38 1 1 rfl rfl (by kernel_rfl)
  obtain ⟨v0, e0, -, b0⟩ := DataW.trod_int Try.underlying38 h0
  obtain ⟨v1, e1, -, b1⟩ := DataW.trod_int Try.underlying38 h1
  simp only [List.drop_zero, List.take, List.drop] at e0 e1
  obtain ⟨k0, rfl, l0⟩ := u64_of_wf b0
  obtain ⟨k1, rfl, l1⟩ := u64_of_wf b1
  simp only [List.cons.injEq, and_true] at e0 e1
  exact ⟨k0, k1, l0, l1, e0, e1⟩

set_option maxRecDepth 100000 in
theorem trod_pat4 {fuel : Nat} {c0 c1 c2 c3 : Value} {x : DataW H × List MemPlace} (h : DataW.trod enc Try.prog w 0 (fun _ => true) true fuel 43 [c0, c1, c2, c3] = some x) :
    ∃ v0 v1 m0 m1 : Nat, v0 < 18446744073709551616 ∧ v1 < 18446744073709551616 ∧ m0 < 18446744073709551616 ∧ m1 < 18446744073709551616 ∧ c0 = .int .u64 (v0 : Int) ∧ c1 = .int .u64 (v1 : Int) ∧ c2 = .int .u64 (m0 : Int) ∧ c3 = .int .u64 (m1 : Int) := by
  obtain ⟨n0, y0, h0⟩ := trod_field Try.underlying43 h 0 _ rfl 41 0 2 rfl rfl (by kernel_rfl)
  obtain ⟨n1, y1, h1⟩ := trod_field Try.underlying43 h 1 _ rfl 41 2 2 rfl rfl (by kernel_rfl)
  simp only [List.drop_zero, List.take, List.drop] at h0 h1
  obtain ⟨v0, v1, a0, a1, rfl, rfl⟩ := trod_num2 h0
  obtain ⟨m0, m1, a2, a3, rfl, rfl⟩ := trod_num2 h1
  exact ⟨v0, v1, m0, m1, a0, a1, a2, a3, rfl, rfl, rfl, rfl⟩

set_option maxRecDepth 100000 in
theorem trod_op {fuel : Nat} {c0 c1 c2 c3 c4 c5 c6 : Value} {x : DataW H × List MemPlace} (h : DataW.trod enc Try.prog w 0 (fun _ => true) true fuel 45 [c0, c1, c2, c3, c4, c5, c6] = some x) :
    ∃ (kind oa ob : Int) (v0 v1 m0 m1 : Nat), v0 < 18446744073709551616 ∧ v1 < 18446744073709551616 ∧ m0 < 18446744073709551616 ∧ m1 < 18446744073709551616 ∧ c0 = .int .i64 kind ∧ c1 = .int .i64 oa ∧ c2 = .int .i64 ob ∧
      c3 = .int .u64 (v0 : Int) ∧ c4 = .int .u64 (v1 : Int) ∧ c5 = .int .u64 (m0 : Int) ∧ c6 = .int .u64 (m1 : Int) := by
  obtain ⟨n0, y0, h0⟩ := trod_field Try.underlying45 h 0 _ rfl 3 0 1 rfl rfl (by kernel_rfl)
  obtain ⟨n1, y1, h1⟩ := trod_field Try.underlying45 h 1 _ rfl 3 1 1 rfl rfl (by kernel_rfl)
  obtain ⟨n2, y2, h2⟩ := trod_field Try.underlying45 h 2 _ rfl 3 2 1 rfl rfl (by kernel_rfl)
  obtain ⟨n3, y3, h3⟩ := trod_field Try.underlying45 h 3 _ rfl 43 3 4 rfl rfl (by kernel_rfl)
  obtain ⟨k0, e0, -, -⟩ := DataW.trod_int Try.underlying3 h0
  obtain ⟨k1, e1, -, -⟩ := DataW.trod_int Try.underlying3 h1
  obtain ⟨k2, e2, -, -⟩ := DataW.trod_int Try.underlying3 h2
  simp only [List.drop_zero, List.take, List.drop] at e0 e1 e2 h3
  obtain ⟨v0, v1, m0, m1, a0, a1, a2, a3, rfl, rfl, rfl, rfl⟩ := trod_pat4 h3
  simp only [List.cons.injEq, and_true] at e0 e1 e2
  exact ⟨k0, k1, k2, v0, v1, m0, m1, a0, a1, a2, a3, e0, e1, e2, rfl, rfl, rfl, rfl⟩

set_option maxRecDepth 100000 in
theorem open_ops {va : Value} {d : DataW H} {p : List MemPlace} (hv : Value.okWide Try.prog w .any 0 22 va) (h : DataW.Trod enc Try.prog w 0 (fun _ => true) true 22 va d p) :
    ∃ n, ∃ pa cap, va = .slice pa n cap ∧ n ≤ maxLen ∧ (0 < n → ∃ d off, pa = some ⟨d, off, none⟩ ∧ d < w.heap.size ∧ ∀ k, k < n →
  ∃ (kind oa ob : Int) (v0 v1 m0 m1 : Nat), v0 < 18446744073709551616 ∧ v1 < 18446744073709551616 ∧ m0 < 18446744073709551616 ∧ m1 < 18446744073709551616 ∧ w.cell? ⟨d, off + k * 7, none⟩ = some (.int .i64 kind) ∧ w.cell? ⟨d, off + k * 7 + 1, none⟩ = some (.int .i64 oa) ∧ w.cell? ⟨d, off + k * 7 + 2, none⟩ = some (.int .i64 ob) ∧
    w.cell? ⟨d, off + k * 7 + 3, none⟩ = some (.int .u64 (v0 : Int)) ∧ w.cell? ⟨d, off + k * 7 + 4, none⟩ = some (.int .u64 (v1 : Int)) ∧ w.cell? ⟨d, off + k * 7 + 5, none⟩ = some (.int .u64 (m0 : Int)) ∧ w.cell? ⟨d, off + k * 7 + 6, none⟩ = some (.int .u64 (m1 : Int))) := by
  obtain ⟨fuel, h⟩ := h
  have hcs : va.cells.toList = [va] := by
    simp only [Value.okWide, Cell.okWide, Try.underlying22] at hv
    cases va <;> first | rfl | (simp [Cell.ok, Try.underlying22] at hv)
  rw [hcs] at h
  rcases open_slice Try.underlying22 h with ⟨e, -⟩ | ⟨a, len, cap, m, n, D, Pl, e, -, hl, hm, hmm, -, hx⟩
  · simp only [List.cons.injEq, and_true] at e
    exact ⟨0, none, 0, e, by unfold maxLen; omega, fun h => absurd h (by omega)⟩
  simp only [List.cons.injEq, and_true] at e
  simp only [if_true] at hmm
  subst hmm
  have z : Try.prog.cellsOf 45 = 7 := by kernel_rfl
  rw [z] at hx
  have at_i : ∀ k, k < m → ∃ (kind oa ob : Int) (v0 v1 m0 m1 : Nat), v0 < 18446744073709551616 ∧ v1 < 18446744073709551616 ∧ m0 < 18446744073709551616 ∧ m1 < 18446744073709551616 ∧ w.cell? (a.add (k * 7)) = some (.int .i64 kind) ∧ w.cell? (a.add (k * 7 + 1)) = some (.int .i64 oa) ∧ w.cell? (a.add (k * 7 + 2)) = some (.int .i64 ob) ∧
      w.cell? (a.add (k * 7 + 3)) = some (.int .u64 (v0 : Int)) ∧ w.cell? (a.add (k * 7 + 4)) = some (.int .u64 (v1 : Int)) ∧ w.cell? (a.add (k * 7 + 5)) = some (.int .u64 (m0 : Int)) ∧ w.cell? (a.add (k * 7 + 6)) = some (.int .u64 (m1 : Int)) := by
    intro k hk
    obtain ⟨cs, hc, ht⟩ := hx k hk
    obtain ⟨-, hlen, hat⟩ := World.cells?_some hc
    match cs, hlen with
    | [c0, c1, c2, c3, c4, c5, c6], _ =>
      obtain ⟨kind, oa, ob, v0, v1, m0, m1, b0, b1, b2, b3, rfl, rfl, rfl, rfl, rfl, rfl, rfl⟩ := trod_op ht
      have at' : ∀ i, i < 7 → w.cell? (a.add (k * 7 + i)) = [Value.int .i64 kind, .int .i64 oa, .int .i64 ob, .int .u64 (v0 : Int), .int .u64 (v1 : Int), .int .u64 (m0 : Int), .int .u64 (m1 : Int)][i]? := fun i hi => by
        rw [← Go.Deep.add_add]; exact hat i hi
      exact ⟨kind, oa, ob, v0, v1, m0, m1, b0, b1, b2, b3, at' 0 (by omega), at' 1 (by omega), at' 2 (by omega), at' 3 (by omega), at' 4 (by omega), at' 5 (by omega), at' 6 (by omega)⟩
  refine ⟨len, some a, m, e, by omega, fun hpos => ?_⟩
  obtain ⟨_, _, _, _, _, _, _, _, _, _, _, c0, -⟩ := at_i 0 (by omega)
  obtain ⟨ab, ao, asp⟩ := a
  have hsp : asp = none := (cell_there c0).2
  have hblk := (cell_there c0).1
  subst hsp
  have hadd : ∀ i, (Addr.mk ab ao none).add i = ⟨ab, ao + i, none⟩ := by
    intro i
    unfold Addr.add
    by_cases hi : i = 0 <;> simp [hi]
  refine ⟨ab, ao, rfl, by simpa [hadd] using hblk, fun k hk => ?_⟩
  have := at_i k (by omega)
  simp only [hadd, ← Nat.add_assoc] at this
  exact this

set_option maxRecDepth 100000 in
theorem open_int {W : World} {v : Value} (h : Value.okWide Try.prog W .any 0 3 v) : ∃ n, v = .int .i64 n ∧ IntKind.i64.has n := by
  simp only [Value.okWide, Cell.okWide, Try.underlying3] at h
  cases v <;> simp_all [Cell.ok]
end
end Go.Proofs.Ytlnkflmnjkmhkaa
