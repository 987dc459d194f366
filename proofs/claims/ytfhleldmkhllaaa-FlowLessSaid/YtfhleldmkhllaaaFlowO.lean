/-
  A parameter that is a slice of instructions, opened.
-/
import Derived.Test.YtfhleldmkhllaaaRows
import Derived.WalkKit
import Derived.ProofKit
import Derived.OpenShut
import Derived.ChangeOld
import Derived.Below
import Derived.Deep.Slices
import Derived.SizedLaws
import Derived.Test.YtfhleldmkhllaaaFlowM
namespace Go.Proofs.Ytfhleldmkhllaaa
open Go.ChangeShapes Go.WideShapes Go.ChangeAt Go.RowKit Go.Deep Flow

section
variable {H : Type} {enc : TypeId × Value → H} {w : World}

def intAt (w : World) (p : Addr) : Int := match w.cell? p with | some (.int _ n) => n | _ => 0
theorem intAt_of {w : World} {p : Addr} {k : IntKind} {n : Int} (h : w.cell? p = some (.int k n)) : intAt w p = n := by unfold intAt; rw [h]

/-- A struct's fields, one after the other, with what they weigh. -/
theorem trod_field {t : TypeId} {fs : Array Field} {fuel : Nat} {cs : List Value} {x : DataW H × List MemPlace} (ht : Try.prog.underlying t = some (.struct fs)) (h : DataW.trod enc Try.prog w 0 (fun _ => true) true fuel t cs = some x)
    (i : Nat) (f : Field) (hf : fs[i]? = some f) (ty o c : Nat) (h1 : f.type = ty) (h2 : f.offset = o) (h3 : Try.prog.cellsOf ty = c) : ∃ n y, DataW.trod enc Try.prog w 0 (fun _ => true) true n ty ((cs.drop o).take c) = some y ∧ ∀ z ∈ y.1.weights Try.prog ty, z ∈ x.1.weights Try.prog t := by
  subst h1 h2 h3
  obtain ⟨xs, n, rfl, hx, -, hl, hg⟩ := DataW.trod_struct ht h
  subst hx
  have hi : i < fs.size := (Array.getElem?_eq_some_iff.1 hf).1
  refine ⟨n, _, (hg i f hf).trans (List.getElem?_eq_getElem (by omega)), fun z hz => ?_⟩
  show z ∈ (DataW.agg (xs.map (·.1))).weights Try.prog t
  simp only [DataW.weights, ht]
  refine DataW.weights_mem_each (j := i) (t := f.type) (d := (xs[i]'(by omega)).1) ?_ ?_ z hz
  · simp [hf]
  · simp [List.getElem?_eq_getElem (show i < xs.length by omega)]

set_option maxRecDepth 100000 in
theorem trod_num2 {fuel : Nat} {c0 c1 : Value} {x : DataW H × List MemPlace} (h : DataW.trod enc Try.prog w 0 (fun _ => true) true fuel 35 [c0, c1] = some x) :
    ∃ v0 v1 : Int, c0 = .int .u64 v0 ∧ c1 = .int .u64 v1 := by
  obtain ⟨n0, y0, h0, -⟩ := trod_field Try.underlying35 h 0 _ rfl 33 0 1 rfl rfl (by kernel_rfl)
  obtain ⟨n1, y1, h1, -⟩ := trod_field Try.underlying35 h 1 _ rfl 33 1 1 rfl rfl (by kernel_rfl)
  obtain ⟨v0, e0, -, b0⟩ := DataW.trod_int Try.underlying33 h0
  obtain ⟨v1, e1, -, b1⟩ := DataW.trod_int Try.underlying33 h1
  simp only [List.drop_zero, List.take, List.drop] at e0 e1
  simp only [List.cons.injEq, and_true] at e0 e1
  exact ⟨v0, v1, e0, e1⟩

set_option maxRecDepth 100000 in
theorem trod_nod {fuel : Nat} {c0 c1 c2 c3 c4 c5 : Value} {x : DataW H × List MemPlace} (h : DataW.trod enc Try.prog w 0 (fun _ => true) true fuel 37 [c0, c1, c2, c3, c4, c5] = some x) :
    ∃ op wi a b hi lo : Int, c0 = .int .u8 op ∧ c1 = .int .i64 wi ∧ c2 = .int .i64 a ∧ c3 = .int .i64 b ∧ c4 = .int .u64 hi ∧ c5 = .int .u64 lo := by
  obtain ⟨n0, y0, h0, -⟩ := trod_field Try.underlying37 h 0 _ rfl 5 0 1 rfl rfl (by kernel_rfl)
  obtain ⟨n1, y1, h1, -⟩ := trod_field Try.underlying37 h 1 _ rfl 3 1 1 rfl rfl (by kernel_rfl)
  obtain ⟨n2, y2, h2, -⟩ := trod_field Try.underlying37 h 2 _ rfl 3 2 1 rfl rfl (by kernel_rfl)
  obtain ⟨n3, y3, h3, -⟩ := trod_field Try.underlying37 h 3 _ rfl 3 3 1 rfl rfl (by kernel_rfl)
  obtain ⟨n4, y4, h4, -⟩ := trod_field Try.underlying37 h 4 _ rfl 35 4 2 rfl rfl (by kernel_rfl)
  obtain ⟨k0, e0, -, -⟩ := DataW.trod_int Try.underlying5 h0
  obtain ⟨k1, e1, -, -⟩ := DataW.trod_int Try.underlying3 h1
  obtain ⟨k2, e2, -, -⟩ := DataW.trod_int Try.underlying3 h2
  obtain ⟨k3, e3, -, -⟩ := DataW.trod_int Try.underlying3 h3
  simp only [List.drop_zero, List.take, List.drop] at e0 e1 e2 e3 h4
  obtain ⟨v0, v1, rfl, rfl⟩ := trod_num2 h4
  simp only [List.cons.injEq, and_true] at e0 e1 e2 e3
  exact ⟨k0, k1, k2, k3, v0, v1, e0, e1, e2, e3, rfl, rfl⟩

theorem weights_all {P : Program} {t : TypeId} {d : DataW H} {z : Nat} (hz : z ∈ d.weights P t) : ∀ {l : List (DataW H)}, d ∈ l → z ∈ DataW.weightsAll P t l
  | [], h => by cases h
  | x :: r, h => by
    simp only [DataW.weightsAll, List.mem_append]
    rcases List.mem_cons.1 h with rfl | q
    · exact .inl hz
    · exact .inr (weights_all hz q)

theorem hadd (ab ao i : Nat) : (Addr.mk ab ao none).add i = ⟨ab, ao + i, none⟩ := by
  unfold Addr.add
  by_cases hi : i = 0 <;> simp [hi]

/-- What a slice of any kind is. -/
theorem open_row {t e : TypeId} {c B : Nat} {fuel : Nat} {va : Value} {x : DataW H × List MemPlace} (ht : Try.prog.underlying t = some (.slice e)) (hc : Try.prog.cellsOf e = c) (hc0 : 0 < c) (hB : Try.prog.bytesOf e = B) (h : DataW.trod enc Try.prog w 0 (fun _ => true) true fuel t [va] = some x) (hw : ∀ z ∈ x.1.weights Try.prog t, z ≤ reachBytes) :
    ∃ pa n cap, va = .slice pa n cap ∧ n ≤ cap ∧ cap ≤ maxLen ∧ (pa = none → cap = 0) ∧ n * B ≤ 140737488355328 ∧
    (0 < n → ∃ b o, pa = some ⟨b, o, none⟩ ∧ b < w.heap.size ∧ ∀ j, j < n → ∃ cs y m, cs.length = c ∧ (∀ i, i < c → w.cell? ⟨b, o + j * c + i, none⟩ = cs[i]?) ∧ DataW.trod enc Try.prog w 0 (fun _ => true) true m e cs = some y ∧ ∀ z ∈ y.1.weights Try.prog e, z ≤ reachBytes) := by
  subst hc hB
  rcases open_slice ht h with ⟨he, -⟩ | ⟨a, len, cap, m, n, D, Pl, he, -, hl, hm, hmm, hxx, hx⟩
  · simp only [List.cons.injEq, and_true] at he
    exact ⟨none, 0, 0, he, Nat.le_refl _, Nat.zero_le _, fun _ => rfl, by omega, fun h => absurd h (by omega)⟩
  simp only [List.cons.injEq, and_true] at he
  simp only [if_true] at hmm
  subst hmm
  have hwx : ∀ z ∈ (DataW.slice ((List.range len).map D) ((List.range (m - len)).map fun j => D (len + j))).weights Try.prog t, z ≤ reachBytes := by
    rw [hxx] at hw; exact hw
  simp only [DataW.weights, ht, List.mem_cons, List.mem_append] at hwx
  refine ⟨some a, len, m, he, hl, hm, fun q => (by cases q), ?_, fun hpos => ?_⟩
  · have := hwx _ (.inl rfl)
    simp only [List.length_map, List.length_range] at this
    have e2 : len + (m - len) = m := by omega
    rw [e2] at this
    have h3 : len * Try.prog.bytesOf e ≤ m * Try.prog.bytesOf e := Nat.mul_le_mul_right _ hl
    have h4 : reachBytes ≤ 140737488355328 := by decide
    omega
  have key : ∀ j, j < len → ∃ cs y m, cs.length = Try.prog.cellsOf e ∧ (∀ i, i < Try.prog.cellsOf e → w.cell? (a.add (j * Try.prog.cellsOf e + i)) = cs[i]?) ∧ DataW.trod enc Try.prog w 0 (fun _ => true) true m e cs = some y ∧ ∀ z ∈ y.1.weights Try.prog e, z ≤ reachBytes := by
    intro j hj
    obtain ⟨cs, hcs, htr⟩ := hx j (by omega)
    obtain ⟨-, hlen, hat⟩ := World.cells?_some hcs
    refine ⟨cs, _, n, hlen, fun i hi => ?_, htr, fun z hz => ?_⟩
    · rw [← Go.Deep.add_add]; exact hat i hi
    · refine hwx z (.inr (.inl (weights_all hz ?_)))
      exact List.mem_map.2 ⟨j, List.mem_range.2 hj, rfl⟩
  obtain ⟨cs0, -, -, hl0, h0, -⟩ := key 0 hpos
  have c0 := h0 0 hc0
  rw [List.getElem?_eq_getElem (by omega), Nat.zero_mul, Nat.add_zero] at c0
  obtain ⟨ab, ao, asp⟩ := a
  have hsp : asp = none := (cell_there c0).2
  have hblk := (cell_there c0).1
  subst hsp
  refine ⟨ab, ao, rfl, by simpa [hadd] using hblk, fun j hj => ?_⟩
  obtain ⟨cs, y, m', h1, h2, h3⟩ := key j hj
  refine ⟨cs, y, m', h1, fun i hi => ?_, h3⟩
  have := h2 i hi
  rw [hadd] at this
  rw [Nat.add_assoc]
  exact this

set_option maxRecDepth 100000 in
theorem open_code {fuel : Nat} {va : Value} {x : DataW H × List MemPlace} (h : DataW.trod enc Try.prog w 0 (fun _ => true) true fuel 28 [va] = some x) (hw : ∀ z ∈ x.1.weights Try.prog 28, z ≤ reachBytes) : ∃ e, CodeAt w Any va e ∧ e.length * 48 ≤ 140737488355328 := by
  obtain ⟨pa, n, cap, rfl, h1, h2, h3, h4, h5⟩ := open_row (B := 48) Try.underlying28 (by kernel_rfl : _ = 6) (by decide) (by kernel_rfl) h hw
  by_cases h0 : 0 < n
  · obtain ⟨b, o, rfl, hb, hj⟩ := h5 h0
    refine ⟨(List.range n).map fun j => ⟨intAt w ⟨b, o + j * 6, none⟩, intAt w ⟨b, o + j * 6 + 1, none⟩, intAt w ⟨b, o + j * 6 + 2, none⟩, intAt w ⟨b, o + j * 6 + 3, none⟩, intAt w ⟨b, o + j * 6 + 4, none⟩, intAt w ⟨b, o + j * 6 + 5, none⟩⟩, ?_, by simpa using h4⟩
    refine ⟨_, cap, by simp, by simpa using h1, h2, h3, fun _ => ⟨b, o, rfl, hb, trivial, fun j hjn => ?_⟩⟩
    have hjn' : j < n := by simpa using hjn
    obtain ⟨cs, y, m, hl, hc, ht, -⟩ := hj j hjn'
    match cs, hl with
    | [c0, c1, c2, c3, c4, c5], _ =>
      obtain ⟨op, wi, a, bb, hi, lo, rfl, rfl, rfl, rfl, rfl, rfl⟩ := trod_nod ht
      have q0 := hc 0 (by omega)
      have q1 := hc 1 (by omega)
      have q2 := hc 2 (by omega)
      have q3 := hc 3 (by omega)
      have q4 := hc 4 (by omega)
      have q5 := hc 5 (by omega)
      simp only [List.getElem?_cons_zero, List.getElem?_cons_succ, Nat.add_zero] at q0 q1 q2 q3 q4 q5
      have hg : ((List.range n).map fun j => (⟨intAt w ⟨b, o + j * 6, none⟩, intAt w ⟨b, o + j * 6 + 1, none⟩, intAt w ⟨b, o + j * 6 + 2, none⟩, intAt w ⟨b, o + j * 6 + 3, none⟩, intAt w ⟨b, o + j * 6 + 4, none⟩, intAt w ⟨b, o + j * 6 + 5, none⟩⟩ : Nod)).getD j dN = ⟨op, wi, a, bb, hi, lo⟩ := by
        rw [List.getD_eq_getElem?_getD]
        simp only [List.getElem?_map, List.getElem?_range hjn', Option.map_some, Option.getD_some]
        rw [intAt_of q0, intAt_of q1, intAt_of q2, intAt_of q3, intAt_of q4, intAt_of q5]
      rw [hg]
      exact ⟨q0, q1, q2, q3, q4, q5⟩
  · obtain rfl : n = 0 := by omega
    exact ⟨[], ⟨pa, cap, rfl, Nat.zero_le _, h2, h3, fun h => absurd h (Nat.lt_irrefl 0)⟩, by simp⟩

set_option maxRecDepth 100000 in
theorem trod_ins {fuel : Nat} {c0 c1 c2 c3 c4 : Value} {x : DataW H × List MemPlace} (h : DataW.trod enc Try.prog w 0 (fun _ => true) true fuel 30 [c0, c1, c2, c3, c4] = some x) (hw : ∀ z ∈ x.1.weights Try.prog 30, z ≤ reachBytes) :
    ∃ (k a b to : Int) (e : List Nod), c0 = .int .u8 k ∧ c1 = .int .i64 a ∧ c2 = .int .i64 b ∧ CodeAt w Any c3 e ∧ e.length * 48 ≤ 140737488355328 ∧ c4 = .int .i64 to := by
  obtain ⟨n0, y0, h0, -⟩ := trod_field Try.underlying30 h 0 _ rfl 5 0 1 rfl rfl (by kernel_rfl)
  obtain ⟨n1, y1, h1, -⟩ := trod_field Try.underlying30 h 1 _ rfl 3 1 1 rfl rfl (by kernel_rfl)
  obtain ⟨n2, y2, h2, -⟩ := trod_field Try.underlying30 h 2 _ rfl 3 2 1 rfl rfl (by kernel_rfl)
  obtain ⟨n3, y3, h3, w3⟩ := trod_field Try.underlying30 h 3 _ rfl 28 3 1 rfl rfl (by kernel_rfl)
  obtain ⟨n4, y4, h4, -⟩ := trod_field Try.underlying30 h 4 _ rfl 3 4 1 rfl rfl (by kernel_rfl)
  obtain ⟨k0, e0, -, -⟩ := DataW.trod_int Try.underlying5 h0
  obtain ⟨k1, e1, -, -⟩ := DataW.trod_int Try.underlying3 h1
  obtain ⟨k2, e2, -, -⟩ := DataW.trod_int Try.underlying3 h2
  obtain ⟨k4, e4, -, -⟩ := DataW.trod_int Try.underlying3 h4
  simp only [List.drop_zero, List.take, List.drop] at e0 e1 e2 e4 h3
  obtain ⟨e, hc, hl⟩ := open_code h3 fun z hz => hw z (w3 z hz)
  simp only [List.cons.injEq, and_true] at e0 e1 e2 e4
  exact ⟨k0, k1, k2, k4, e, e0, e1, e2, hc, hl, e4⟩

set_option maxRecDepth 100000 in
theorem open_insts {va : Value} {d : DataW H} {p : List MemPlace} (hv : Value.okWide Try.prog w .any 0 22 va) (h : DataW.Trod enc Try.prog w 0 (fun _ => true) true 22 va d p) (hw : ∀ z ∈ d.weights Try.prog 22, z ≤ reachBytes) :
    ∃ l, InsRow w Any va l ∧ l.length * 56 ≤ 140737488355328 ∧ ∀ j, j < l.length → (at' l j).e.length * 48 ≤ 140737488355328 := by
  obtain ⟨fuel, h⟩ := h
  have hcs : va.cells.toList = [va] := by
    simp only [Value.okWide, Cell.okWide, Try.underlying22] at hv
    cases va <;> first | rfl | (simp [Cell.ok, Try.underlying22] at hv)
  rw [hcs] at h
  obtain ⟨pa, n, cap, rfl, h1, h2, h3, h4, h5⟩ := open_row (B := 56) Try.underlying22 (by kernel_rfl : _ = 5) (by decide) (by kernel_rfl) h hw
  by_cases h0 : 0 < n
  · obtain ⟨b, o, rfl, hb, hj⟩ := h5 h0
    have key : ∀ j, ∃ y : Ins, j < n → InsAt w Any b (o + j * 5) y ∧ y.e.length * 48 ≤ 140737488355328 := by
      intro j
      by_cases hjn : j < n
      · obtain ⟨cs, y, m, hl, hc, ht, hwt⟩ := hj j hjn
        match cs, hl with
        | [c0, c1, c2, c3, c4], _ =>
          obtain ⟨k, a, bb, to, e, rfl, rfl, rfl, hce, hel, rfl⟩ := trod_ins ht hwt
          have q0 := hc 0 (by omega)
          have q1 := hc 1 (by omega)
          have q2 := hc 2 (by omega)
          have q3 := hc 3 (by omega)
          have q4 := hc 4 (by omega)
          simp only [List.getElem?_cons_zero, List.getElem?_cons_succ, Nat.add_zero] at q0 q1 q2 q3 q4
          exact ⟨⟨k, a, bb, e, to⟩, fun _ => ⟨⟨q0, q1, q2, ⟨_, q3, hce⟩, q4⟩, hel⟩⟩
      · exact ⟨dI, fun h => absurd h hjn⟩
    have hchoose := Classical.axiomOfChoice key
    obtain ⟨f, hf⟩ := hchoose
    have hat : ∀ j, j < n → at' ((List.range n).map f) j = f j := by
      intro j hjn
      unfold at'
      rw [List.getD_eq_getElem?_getD]
      simp only [List.getElem?_map, List.getElem?_range hjn, Option.map_some, Option.getD_some]
    refine ⟨(List.range n).map f, ⟨_, cap, by simp, by simpa using h1, h2, h3, fun _ => ⟨b, o, rfl, hb, fun j hjn => ?_⟩⟩, by simpa using h4, fun j hjn => ?_⟩
    · have hjn' : j < n := by simpa using hjn
      rw [hat j hjn']
      exact (hf j hjn').1
    · have hjn' : j < n := by simpa using hjn
      rw [hat j hjn']
      exact (hf j hjn').2
  · obtain rfl : n = 0 := by omega
    exact ⟨[], ⟨pa, cap, rfl, Nat.zero_le _, h2, h3, fun h => absurd h (Nat.lt_irrefl 0)⟩, by simp, fun j hj => by simp at hj⟩
end
end Go.Proofs.Ytfhleldmkhllaaa
