/-
  Instructions in memory: what it is for a value to read as code, as instructions; rows that a call owns.
-/
import Derived.Test.YtfhleldmkhllaaaLib
import Derived.Test.YtfhleldmkhllaaaFlowP
import Derived.Deep.AppendLies
import Derived.Laws.AppendOwnNone
import Derived.Laws.OwnMore
namespace Go.Proofs.Ytfhleldmkhllaaa
open Go.RowKit Flow

def nodC (n : Nod) : List Value := [.int .u8 n.op, .int .i64 n.w, .int .i64 n.a, .int .i64 n.b, .int .u64 n.hi, .int .u64 n.lo]
def insC (x : Ins) (ev : Value) : List Value := [.int .u8 x.k, .int .i64 x.a, .int .i64 x.b, ev, .int .i64 x.to]
/-- The struct value. -/
def insV (x : Ins) (ev : Value) : Value := .agg #[.int .u8 x.k, .int .i64 x.a, .int .i64 x.b, ev, .int .i64 x.to]
def nodV (n : Nod) : Value := .agg #[.int .u8 n.op, .int .i64 n.w, .int .i64 n.a, .int .i64 n.b, .int .u64 n.hi, .int .u64 n.lo]
def dN : Nod := ⟨0, 0, 0, 0, 0, 0⟩

def NodAt (w : World) (b o : Nat) (n : Nod) : Prop :=
  w.cell? ⟨b, o, none⟩ = some (.int .u8 n.op) ∧ w.cell? ⟨b, o + 1, none⟩ = some (.int .i64 n.w) ∧ w.cell? ⟨b, o + 2, none⟩ = some (.int .i64 n.a) ∧ w.cell? ⟨b, o + 3, none⟩ = some (.int .i64 n.b) ∧ w.cell? ⟨b, o + 4, none⟩ = some (.int .u64 n.hi) ∧ w.cell? ⟨b, o + 5, none⟩ = some (.int .u64 n.lo)
/-- The value reads as the code e; its cells lie in a block of which X says so. -/
def CodeAt (w : World) (X : Nat → Prop) (v : Value) (e : List Nod) : Prop :=
  ∃ pa cap, v = .slice pa e.length cap ∧ e.length ≤ cap ∧ cap ≤ maxLen ∧ (pa = none → cap = 0) ∧
    (0 < e.length → ∃ b o, pa = some ⟨b, o, none⟩ ∧ b < w.heap.size ∧ X b ∧ ∀ j, j < e.length → NodAt w b (o + j * 6) (e.getD j dN))
def InsAt (w : World) (X : Nat → Prop) (b o : Nat) (x : Ins) : Prop :=
  w.cell? ⟨b, o, none⟩ = some (.int .u8 x.k) ∧ w.cell? ⟨b, o + 1, none⟩ = some (.int .i64 x.a) ∧ w.cell? ⟨b, o + 2, none⟩ = some (.int .i64 x.b) ∧ (∃ ev, w.cell? ⟨b, o + 3, none⟩ = some ev ∧ CodeAt w X ev x.e) ∧ w.cell? ⟨b, o + 4, none⟩ = some (.int .i64 x.to)
/-- The value reads as the instructions l. -/
def InsRow (w : World) (X : Nat → Prop) (v : Value) (l : List Ins) : Prop :=
  ∃ pa cap, v = .slice pa l.length cap ∧ l.length ≤ cap ∧ cap ≤ maxLen ∧ (pa = none → cap = 0) ∧
    (0 < l.length → ∃ b o, pa = some ⟨b, o, none⟩ ∧ b < w.heap.size ∧ ∀ j, j < l.length → InsAt w X b (o + j * 5) (at' l j))
abbrev Any (_ : Nat) : Prop := True

theorem NodAt.keep {w w' : World} {b o : Nat} {n : Nod} (h : NodAt w b o n) (hk : ∀ i, w'.cell? ⟨b, i, none⟩ = w.cell? ⟨b, i, none⟩) : NodAt w' b o n := by
  obtain ⟨h1, h2, h3, h4, h5, h6⟩ := h
  exact ⟨(hk _).trans h1, (hk _).trans h2, (hk _).trans h3, (hk _).trans h4, (hk _).trans h5, (hk _).trans h6⟩
theorem CodeAt.keep {w w' : World} {X Y : Nat → Prop} {v : Value} {e : List Nod} (h : CodeAt w X v e) (hs : w.heap.size ≤ w'.heap.size) (hk : ∀ b, b < w.heap.size → X b → Y b ∧ ∀ i, w'.cell? ⟨b, i, none⟩ = w.cell? ⟨b, i, none⟩) : CodeAt w' Y v e := by
  obtain ⟨pa, cap, h1, h2, h3, h4, h5⟩ := h
  refine ⟨pa, cap, h1, h2, h3, h4, fun h0 => ?_⟩
  obtain ⟨b, o, e1, e2, e3, e4⟩ := h5 h0
  obtain ⟨k1, k2⟩ := hk b e2 e3
  exact ⟨b, o, e1, Nat.lt_of_lt_of_le e2 hs, k1, fun j hj => (e4 j hj).keep k2⟩
theorem CodeAt.below {w w' : World} {X : Nat → Prop} {v : Value} {e : List Nod} (h : CodeAt w X v e) (hb : Below w.heap.size w w') : CodeAt w' X v e :=
  h.keep hb.size fun b hb1 hx => ⟨hx, fun i => hb.cell (p := ⟨b, i, none⟩) hb1⟩
theorem CodeAt.weak {w : World} {X Y : Nat → Prop} {v : Value} {e : List Nod} (h : CodeAt w X v e) (hk : ∀ b, b < w.heap.size → X b → Y b) : CodeAt w Y v e :=
  h.keep (Nat.le_refl _) fun b hb1 hx => ⟨hk b hb1 hx, fun _ => rfl⟩
theorem InsAt.keep {w w' : World} {X Y : Nat → Prop} {b o : Nat} {x : Ins} (h : InsAt w X b o x) (hb : ∀ i, w'.cell? ⟨b, i, none⟩ = w.cell? ⟨b, i, none⟩) (hs : w.heap.size ≤ w'.heap.size) (hk : ∀ b, b < w.heap.size → X b → Y b ∧ ∀ i, w'.cell? ⟨b, i, none⟩ = w.cell? ⟨b, i, none⟩) : InsAt w' Y b o x := by
  obtain ⟨h1, h2, h3, ⟨ev, h4, h5⟩, h6⟩ := h
  exact ⟨(hb _).trans h1, (hb _).trans h2, (hb _).trans h3, ⟨ev, (hb _).trans h4, h5.keep hs hk⟩, (hb _).trans h6⟩
theorem InsRow.below {w w' : World} {X : Nat → Prop} {v : Value} {l : List Ins} (h : InsRow w X v l) (hb : Below w.heap.size w w') : InsRow w' X v l := by
  obtain ⟨pa, cap, h1, h2, h3, h4, h5⟩ := h
  refine ⟨pa, cap, h1, h2, h3, h4, fun h0 => ?_⟩
  obtain ⟨b, o, e1, e2, e4⟩ := h5 h0
  exact ⟨b, o, e1, Nat.lt_of_lt_of_le e2 hb.size, fun j hj => (e4 j hj).keep (fun i => hb.cell (p := ⟨b, i, none⟩) e2) hb.size fun b hb1 hx => ⟨hx, fun i => hb.cell (p := ⟨b, i, none⟩) hb1⟩⟩
theorem CodeAt.nil (w : World) (X : Nat → Prop) : CodeAt w X (.slice none 0 0) [] := ⟨none, 0, rfl, Nat.le_refl _, Nat.zero_le _, fun _ => rfl, fun h => absurd h (Nat.lt_irrefl 0)⟩
theorem InsRow.nil (w : World) (X : Nat → Prop) : InsRow w X (.slice none 0 0) [] := ⟨none, 0, rfl, Nat.le_refl _, Nat.zero_le _, fun _ => rfl, fun h => absurd h (Nat.lt_irrefl 0)⟩

/-- An instruction of a row. -/
theorem InsRow.at {w : World} {X : Nat → Prop} {v : Value} {l : List Ins} (h : InsRow w X v l) {j : Nat} (hj : j < l.length) : ∃ b o cap, v = .slice (some ⟨b, o, none⟩) l.length cap ∧ b < w.heap.size ∧ InsAt w X b (o + j * 5) (at' l j) := by
  obtain ⟨pa, cap, h1, h2, h3, h4, h5⟩ := h
  obtain ⟨b, o, rfl, e2, e4⟩ := h5 (by omega)
  exact ⟨b, o, cap, h1, e2, e4 j hj⟩
theorem InsRow.shape {w : World} {X : Nat → Prop} {v : Value} {l : List Ins} (h : InsRow w X v l) : ∃ pa cap, v = .slice pa l.length cap := by
  obtain ⟨pa, cap, h1, -⟩ := h; exact ⟨pa, cap, h1⟩
theorem CodeAt.shape {w : World} {X : Nat → Prop} {v : Value} {l : List Nod} (h : CodeAt w X v l) : ∃ pa cap, v = .slice pa l.length cap := by
  obtain ⟨pa, cap, h1, -⟩ := h; exact ⟨pa, cap, h1⟩
theorem CodeAt.at {w : World} {X : Nat → Prop} {v : Value} {e : List Nod} (h : CodeAt w X v e) {j : Nat} (hj : j < e.length) : ∃ b o cap, v = .slice (some ⟨b, o, none⟩) e.length cap ∧ b < w.heap.size ∧ NodAt w b (o + j * 6) (e.getD j dN) := by
  obtain ⟨pa, cap, h1, h2, h3, h4, h5⟩ := h
  obtain ⟨b, o, rfl, e2, -, e4⟩ := h5 (by omega)
  exact ⟨b, o, cap, h1, e2, e4 j hj⟩

/-- A box of an instruction. -/
def InsBox (w : World) (g : Nat) (x : Ins) (ev : Value) : Prop := w.heap[g]? = some (.cells #[.int .u8 x.k, .int .i64 x.a, .int .i64 x.b, ev, .int .i64 x.to] 30 (0, 0))

theorem infoNod : (Try.prog.info? 37).map (fun i => (i.zero, i.size, i.bytes)) = some (some (.agg #[.int .u8 0, .int .i64 0, .int .i64 0, .int .i64 0, .int .u64 0, .int .u64 0]), 6, 48) := by kernel_rfl
theorem infoIns : (Try.prog.info? 30).map (fun i => (i.zero, i.size, i.bytes)) = some (some (.agg #[.int .u8 0, .int .i64 0, .int .i64 0, .slice none 0 0, .int .i64 0]), 5, 56) := by kernel_rfl

/-- A slice's copy: its cells are those that were. -/
theorem copied {w : World} {base : Nat} {e : TypeId} {size : Nat} {g n cap : Nat} {xs : List Value} (h : w.ownsRow base e size (.slice (some ⟨g, 0, none⟩) n cap) n xs) : base ≤ g ∧ g < w.heap.size ∧ n ≤ cap ∧ cap ≤ maxLen ∧ ∀ j, j < n * size → w.cell? ⟨g, j, none⟩ = xs[j]? := by
  refine ⟨?_, ?_, ?_, ?_, fun j hj => h.cellAt j hj⟩
  all_goals
    rcases h.2 with ⟨q, -⟩ | ⟨g', cap', cur, q1, q2, q3, q4, q5, -⟩
    · cases q
    · simp only [Value.slice.injEq, Option.some.injEq, Addr.mk.injEq, and_true, true_and] at q1
      obtain ⟨rfl, rfl⟩ := q1
      first
      | exact q2
      | exact (Array.getElem?_eq_some_iff.1 q3).1
      | exact q4
      | exact q5
def cellsAt (w : World) (b o m : Nat) : List Value := (List.range m).map fun i => (w.cell? ⟨b, o + i, none⟩).getD undef
theorem cellsAt_at {w : World} {b o m i : Nat} (hi : i < m) {v : Value} (h : w.cell? ⟨b, o + i, none⟩ = some v) : (cellsAt w b o m)[i]? = some v := by
  simp [cellsAt, hi, h]
theorem cellsAt_len (w : World) (b o m : Nat) : (cellsAt w b o m).length = m := by simp [cellsAt]

end Go.Proofs.Ytfhleldmkhllaaa
