/-
  The store of diagrams in memory: what it is for a pointer to be one; what a call may turn.
-/
import Derived.Test.YtlihbbeodclncaaMap
import Derived.Test.YtlihbbeodclncaaNil
import Derived.Deep.QuietTactic
import Derived.BigQuiet
import Derived.StillTailTactics
import Derived.RegionTactic
import Derived.BigRegion
import Derived.Defers
import Derived.Recover
namespace Go.Proofs.Ytlihbbeodclncaa
open Go.RowKit Go.Maps

theorem Try.infoBranchy : (Try.prog.info? 80).map (fun i => (i.zero, i.size, i.bytes)) = some (some (.agg #[.int .i64 0, .int .i64 0, .int .i64 0]), 3, 24) := by kernel_rfl
theorem zeroInt (w : World) : (zeroValue 3).run Try.prog w = .ok (.int .i64 0) w := by kernel_rfl

/-- What a store holds: its cap, its nodes, whether it is full. -/
structure BS where
  cap : Nat
  nodes : List T3
  full : Bool

def flat3 (l : List T3) : List Value := l.flatMap fun t => [.int .i64 t.a, .int .i64 t.b, .int .i64 t.c]
theorem flat3_append (l : List T3) (t : T3) : flat3 (l ++ [t]) = flat3 l ++ [.int .i64 t.a, .int .i64 t.b, .int .i64 t.c] := by simp [flat3]
theorem flat3_len (l : List T3) : (flat3 l).length = l.length * 3 := by
  induction l with
  | nil => rfl
  | cons t l ih => simp only [flat3, List.flatMap_cons, List.length_append, List.length_cons, List.length_nil] at ih ⊢; omega
theorem flat3_at (l : List T3) (i : Nat) (hi : i < l.length) : (flat3 l)[i * 3]? = some (.int .i64 l[i].a) ∧ (flat3 l)[i * 3 + 1]? = some (.int .i64 l[i].b) ∧ (flat3 l)[i * 3 + 2]? = some (.int .i64 l[i].c) := by
  induction l generalizing i with
  | nil => simp at hi
  | cons t l ih =>
    cases i with
    | zero => simp [flat3]
    | succ i =>
      obtain ⟨h1, h2, h3⟩ := ih i (by simpa using hi)
      have e : flat3 (t :: l) = [.int .i64 t.a, .int .i64 t.b, .int .i64 t.c] ++ flat3 l := rfl
      have e0 : (i + 1) * 3 = i * 3 + 3 := by omega
      rw [e, e0]
      refine ⟨?_, ?_, ?_⟩
      · rw [List.getElem?_append_right (by simp)]; simpa using h1
      · rw [List.getElem?_append_right (by simp)]; simpa using h2
      · rw [List.getElem?_append_right (by simp)]; simpa using h3

/-- The number of a node, if there is one. -/
def byOf (l : List T3) : T3 → Option Int := fun t => (l.idxOf? t).map fun i => ((i + 2 : Nat) : Int)

/-- The blocks of a store: of its struct, of its two maps, of its nodes. -/
def Blk (b m1 m2 : Nat) (v : Value) (k : Nat) : Prop := k = b ∨ k = m1 ∨ k = m2 ∨ v.ownBlock = some k

/-- At block b lies a store s, whose blocks are O; what Ite told is told. -/
def IsBdd (w : World) (b : Nat) (O : Nat → Prop) (s : BS) (told : T3 → Option Int) : Prop :=
  ∃ v m1 m2, w.cell? ⟨b, 0, none⟩ = some (.int .i64 (s.cap : Int)) ∧ w.cell? ⟨b, 1, none⟩ = some v ∧ w.cell? ⟨b, 2, none⟩ = some (.map (some m1)) ∧ w.cell? ⟨b, 3, none⟩ = some (.map (some m2)) ∧
    w.cell? ⟨b, 4, none⟩ = some (.bool s.full) ∧ (∀ j, w.frozen? ⟨b, j, none⟩ = false) ∧ w.ownsRow 0 80 3 v s.nodes.length (flat3 s.nodes) ∧ m1 ≠ m2 ∧ v.ownBlock ≠ some b ∧
    IMap w m1 (byOf s.nodes) ∧ IMap w m2 told ∧ (∀ k, O k ↔ Blk b m1 m2 v k) ∧ 2 ≤ s.cap ∧ s.cap ≤ 1048576 ∧ s.nodes.length ≤ s.cap ∧ ∀ t ∈ s.nodes, t.wf

/-- Nothing has turned but the blocks O, and what is new. -/
structure Keeps (O : Nat → Prop) (w w' : World) : Prop where
  os : w'.os = w.os
  tape : w'.tape = w.tape
  output : w'.output = w.output
  size : w.heap.size ≤ w'.heap.size
  block : ∀ k, k < w.heap.size → ¬ O k → w'.heap[k]? = w.heap[k]?

def Ext (O O' : Nat → Prop) (w w' : World) : Prop := Keeps O w w' ∧ ∀ k, O' k → O k ∨ w.heap.size ≤ k

theorem Keeps.refl (O : Nat → Prop) (w : World) : Keeps O w w := ⟨rfl, rfl, rfl, Nat.le_refl _, fun _ _ _ => rfl⟩
theorem Keeps.of_below {O : Nat → Prop} {w w' : World} (h : Below w.heap.size w w') : Keeps O w w' := ⟨h.os, h.tape, h.output, h.size, fun k hk _ => h.block k hk⟩
theorem Ext.refl (O : Nat → Prop) (w : World) : Ext O O w w := ⟨Keeps.refl _ _, fun _ h => .inl h⟩
theorem Ext.of_below {O : Nat → Prop} {w w' : World} (h : Below w.heap.size w w') : Ext O O w w' := ⟨Keeps.of_below h, fun _ h => .inl h⟩
theorem Ext.trans {O O' O'' : Nat → Prop} {w w' w'' : World} (h : Ext O O' w w') (k : Ext O' O'' w' w'') : Ext O O'' w w'' := by
  refine ⟨⟨k.1.os.trans h.1.os, k.1.tape.trans h.1.tape, k.1.output.trans h.1.output, Nat.le_trans h.1.size k.1.size, fun i hi hO => ?_⟩, fun i hi => ?_⟩
  · refine (k.1.block i (Nat.lt_of_lt_of_le hi h.1.size) fun hO' => ?_).trans (h.1.block i hi hO)
    rcases h.2 i hO' with h1 | h1
    · exact hO h1
    · omega
  · rcases k.2 i hi with h1 | h1
    · exact h.2 i h1
    · exact .inr (Nat.le_trans h.1.size h1)
/-- What lies beside the store's blocks stays. -/
theorem Ext.cell {O O' : Nat → Prop} {w w' : World} (h : Ext O O' w w') {p : Addr} (hp : p.block < w.heap.size) (hO : ¬ O p.block) : w'.cell? p = w.cell? p ∧ w'.frozen? p = w.frozen? p ∧ ¬ O' p.block :=
  ⟨World.cell?_of_block (h.1.block _ hp hO), World.frozen?_of_block (h.1.block _ hp hO), fun h1 => by
    rcases h.2 _ h1 with h2 | h2
    · exact hO h2
    · omega⟩

theorem IsBdd.lt {w : World} {b : Nat} {O : Nat → Prop} {s : BS} {told : T3 → Option Int} (h : IsBdd w b O s told) : ∀ k, O k → k < w.heap.size := by
  obtain ⟨v, m1, m2, c0, c1, c2, c3, c4, f, own, hne, hnb, hm1, hm2, hO, -⟩ := h
  intro k hk
  rcases (hO k).1 hk with rfl | rfl | rfl | h
  · exact (cell_there c0).1
  · exact hm1.lt
  · exact hm2.lt
  · exact (own.lt k h).2

/-- The same blocks, the same store. -/
theorem IsBdd.kept {w w' : World} {b : Nat} {O : Nat → Prop} {s : BS} {told : T3 → Option Int} (h : IsBdd w b O s told) (hk : ∀ k, O k → w'.heap[k]? = w.heap[k]?) : IsBdd w' b O s told := by
  obtain ⟨v, m1, m2, c0, c1, c2, c3, c4, f, own, hne, hnb, hm1, hm2, hO, rest⟩ := h
  have hb : w'.heap[b]? = w.heap[b]? := hk b ((hO b).2 (.inl rfl))
  have e : ∀ j, w'.cell? ⟨b, j, none⟩ = w.cell? ⟨b, j, none⟩ := fun j => World.cell?_of_block hb
  refine ⟨v, m1, m2, (e 0).trans c0, (e 1).trans c1, (e 2).trans c2, (e 3).trans c3, (e 4).trans c4, fun j => (World.frozen?_of_block (a := ⟨b, j, none⟩) hb).trans (f j), ?_, hne, hnb,
    hm1.kept (hk m1 ((hO m1).2 (.inr (.inl rfl)))), hm2.kept (hk m2 ((hO m2).2 (.inr (.inr (.inl rfl))))), hO, rest⟩
  obtain ⟨hl, h⟩ := own
  refine ⟨hl, ?_⟩
  rcases h with h | ⟨g, cap, cur, h1, h2, h3, h4⟩
  · exact .inl h
  · exact .inr ⟨g, cap, cur, h1, h2, (hk g ((hO g).2 (.inr (.inr (.inr (by rw [h1]; rfl)))))).trans h3, h4⟩
theorem IsBdd.below {w w' : World} {b : Nat} {O : Nat → Prop} {s : BS} {told : T3 → Option Int} (h : IsBdd w b O s told) (hb : Below w.heap.size w w') : IsBdd w' b O s told :=
  h.kept fun k hk => hb.block k (h.lt k hk)

end Go.Proofs.Ytlihbbeodclncaa
