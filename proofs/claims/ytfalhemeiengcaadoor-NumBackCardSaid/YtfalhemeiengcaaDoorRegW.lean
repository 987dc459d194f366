/-
  Regions that draw their order and make memory: what each operation tells, and of which blocks of its own; what holds whatever has been done.
-/
import Derived.Test.YtfalhemeiengcaaDoorReg
import Derived.Test.YtfalhemeiengcaaDoorInv2
namespace Go.Proofs.YtfalhemeiengcaaDoor
open Go.RowKit Go.Maps

/-- What is told of an operation: of its own blocks, the world, the values it hangs on, its own value. -/
abbrev Tw := (Nat → Prop) → World → List Value → Value → Prop

/-- kd: on which others an operation's value hangs, and what is told of it and of its own blocks; dep: the old blocks that facts may hang on; G: what holds of the world besides. -/
structure Rw where
  n0 : Nat
  dep : Nat → Prop
  kd : List (List Nat × Tw)
  G : Array Bool → List Value → World → Prop

/-- A known value. -/
def isV (v : Value) : List Nat × Tw := ([], fun _ _ _ x => x = v)
def NewB (w w' : World) (k : Nat) : Prop := w.heap.size ≤ k ∧ k < w'.heap.size

structure RWg (S : Rw) (L : Array Bool) (l : List Value) (w : World) (B : Nat → Nat → Prop) : Prop where
  glob : S.G L l w
  size : S.n0 ≤ w.heap.size
  ok : ∀ (i : Nat) (js : List Nat) (P : Tw), did L i = true → S.kd[i]? = some (js, P) → (∀ j ∈ js, did L j = true) ∧ P (B i) w (js.map (nth l)) (nth l i)
  blk : ∀ i k, did L i = true → B i k → S.n0 ≤ k ∧ k < w.heap.size
  apart : ∀ i j k, did L i = true → did L j = true → B i k → B j k → i = j
def RW (S : Rw) (L : Array Bool) (l : List Value) (w : World) : Prop := ∃ B, RWg S L l w B

structure Rw.Fine (S : Rw) : Prop where
  old : ∀ k, S.dep k → k < S.n0
  stab : ∀ (i : Nat) (js : List Nat) (P : Tw), S.kd[i]? = some (js, P) → ∀ (B : Nat → Prop) (w w' : World) (ls : List Value) (v : Value), P B w ls v → (∀ k, B k → k < w.heap.size) → (∀ k, B k ∨ S.dep k → w'.heap[k]? = w.heap[k]?) → w.heap.size ≤ w'.heap.size → P B w' ls v

variable {S : Rw} {w w' : World} {L : Array Bool} {l : List Value}
theorem RW.init (h : ∀ i, did L i = false) (hs : S.n0 ≤ w.heap.size) (hG : S.G L l w) : RW S L l w :=
  ⟨fun _ _ => False, hG, hs, (fun i js P h1 => by rw [h] at h1; cases h1), (fun i k h1 => by rw [h] at h1; cases h1), fun i j k h1 => by rw [h] at h1; cases h1⟩
theorem RW.glob (h : RW S L l w) : S.G L l w := by obtain ⟨B, h⟩ := h; exact h.glob
theorem RW.size (h : RW S L l w) : S.n0 ≤ w.heap.size := by obtain ⟨B, h⟩ := h; exact h.size
theorem RW.got (h : RW S L l w) (i : Nat) {v : Value} (hd : did L i = true) (hk : S.kd[i]? = some (isV v)) : nth l i = v := by
  obtain ⟨B, h⟩ := h
  exact (h.ok i _ _ hd hk).2
theorem RW.made (h : RW S L l w) (i : Nat) {js : List Nat} {P : Tw} (hd : did L i = true) (hk : S.kd[i]? = some (js, P)) : ∃ B, (∀ k, B k → S.n0 ≤ k ∧ k < w.heap.size) ∧ P B w (js.map (nth l)) (nth l i) := by
  obtain ⟨B, h⟩ := h
  exact ⟨B i, fun k => h.blk i k hd, (h.ok i _ _ hd hk).2⟩

theorem RWg.turn {B : Nat → Nat → Prop} (i : Nat) (v : Value) {js : List Nat} {P : Tw} (h : RWg S L l w B) (hn : did L i = false) (hL : i < L.size) (hl : i < l.length) (hk : S.kd[i]? = some (js, P)) (hjs : ∀ j ∈ js, did L j = true) (hsz : w.heap.size ≤ w'.heap.size)
    (hold : ∀ (j : Nat) (js' : List Nat) (P' : Tw), did L j = true → S.kd[j]? = some (js', P') → P' (B j) w (js'.map (nth l)) (nth l j) → P' (B j) w' (js'.map (nth l)) (nth l j))
    (hG : S.G (L.setIfInBounds i true) (l.set i v) w') (hnew : P (NewB w w') w' (js.map (nth l)) v) : RW S (L.setIfInBounds i true) (l.set i v) w' := by
  have keep : ∀ js : List Nat, (∀ j ∈ js, did L j = true) → js.map (nth (l.set i v)) = js.map (nth l) := fun js hjs => List.map_congr_left fun j hj => nth_other (fun q => by have := hjs j hj; rw [← q, hn] at this; cases this)
  have dd : ∀ j, did L j = true → did (L.setIfInBounds i true) j = true := fun j hj => by
    by_cases e : j = i
    · subst e; exact did_same hL
    · rw [did_other e]; exact hj
  refine ⟨fun j k => if j = i then NewB w w' k else B j k, hG, Nat.le_trans h.size hsz, fun j js' P' hj hk' => ?_, fun j k hj hb => ?_, fun j m k hj hm hb hc => ?_⟩
  · by_cases e : j = i
    · subst e
      rw [hk] at hk'
      cases hk'
      refine ⟨fun m hm => dd m (hjs m hm), ?_⟩
      rw [keep _ hjs, nth_same hl]
      simpa using hnew
    · rw [did_other e] at hj
      obtain ⟨a1, a2⟩ := h.ok j js' P' hj hk'
      refine ⟨fun m hm => dd m (a1 m hm), ?_⟩
      rw [keep _ a1, nth_other (fun q => e q.symm)]
      have := hold j js' P' hj hk' a2
      simpa [e] using this
  · by_cases e : j = i
    · subst e
      simp only [if_pos] at hb
      exact ⟨Nat.le_trans h.size hb.1, hb.2⟩
    · rw [did_other e] at hj
      simp only [e, if_false] at hb
      have := h.blk j k hj hb
      omega
  · by_cases e : j = i <;> by_cases e2 : m = i
    · rw [e, e2]
    · exfalso
      simp only [e, e2, if_true, if_false] at hb hc
      rw [did_other e2] at hm
      have := (h.blk m k hm hc).2
      have := hb.1
      omega
    · exfalso
      simp only [e, e2, if_true, if_false] at hb hc
      rw [did_other e] at hj
      have := (h.blk j k hj hb).2
      have := hc.1
      omega
    · simp only [e, e2, if_false] at hb hc
      rw [did_other e] at hj
      rw [did_other e2] at hm
      exact h.apart j m k hj hm hb hc

/-- An operation that leaves all that was. -/
theorem RW.quiet (i : Nat) (v : Value) {js : List Nat} {P : Tw} (h : RW S L l w) (hS : S.Fine) (hn : did L i = false) (hL : i < L.size) (hl : i < l.length) (hk : S.kd[i]? = some (js, P)) (hjs : ∀ j ∈ js, did L j = true) (hb : Below w.heap.size w w')
    (hG : S.G L l w → S.G (L.setIfInBounds i true) (l.set i v) w') (hnew : P (NewB w w') w' (js.map (nth l)) v) : RW S (L.setIfInBounds i true) (l.set i v) w' := by
  obtain ⟨B, h⟩ := h
  exact h.turn i v hn hL hl hk hjs hb.size (fun j js' P' hj hk' hp => hS.stab j js' P' hk' _ _ _ _ _ hp (fun k hb => (h.blk j k hj hb).2) (fun k hb' => hb.block k (by
    rcases hb' with q | q
    · exact (h.blk j k hj q).2
    · have := hS.old k q; have := h.size; omega)) hb.size) (hG h.glob) hnew
theorem RW.val (i : Nat) (v : Value) (h : RW S L l w) (hS : S.Fine) (hn : did L i = false) (hL : i < L.size) (hl : i < l.length) (hk : S.kd[i]? = some (isV v)) (hb : Below w.heap.size w w') (hG : S.G L l w → S.G (L.setIfInBounds i true) (l.set i v) w') : RW S (L.setIfInBounds i true) (l.set i v) w' :=
  h.quiet i v hS hn hL hl hk (fun j hj => by cases hj) hb hG rfl

/-- A store into a block g: an own one of operation t, or an old one that no fact hangs on. -/
theorem RW.put (i t g : Nat) (v : Value) {js : List Nat} {P : Tw} (h : RW S L l w) (hS : S.Fine) (hn : did L i = false) (hL : i < L.size) (hl : i < l.length) (hk : S.kd[i]? = some (js, P)) (hjs : ∀ j ∈ js, did L j = true)
    (hw : ∀ k, k ≠ g → w'.heap[k]? = w.heap[k]?) (hsz : w'.heap.size = w.heap.size)
    (hown : ∀ B, RWg S L l w B → (∀ j, did L j = true → j ≠ t → ¬ B j g) ∧ ¬ S.dep g)
    (ht : ∀ (js' : List Nat) (P' : Tw), S.kd[t]? = some (js', P') → ∀ (B : Nat → Prop) (ls : List Value) (x : Value), P' B w ls x → P' B w' ls x)
    (hG : S.G L l w → S.G (L.setIfInBounds i true) (l.set i v) w') (hnew : P (NewB w w') w' (js.map (nth l)) v) : RW S (L.setIfInBounds i true) (l.set i v) w' := by
  obtain ⟨B, h⟩ := h
  obtain ⟨o1, o2⟩ := hown B h
  refine h.turn i v hn hL hl hk hjs (by omega) (fun j js' P' hj hk' hp => ?_) (hG h.glob) hnew
  by_cases e : j = t
  · subst e; exact ht _ _ hk' _ _ _ hp
  · refine hS.stab j js' P' hk' _ _ _ _ _ hp (fun k hb => (h.blk j k hj hb).2) (fun k hb' => hw k fun q => ?_) (by omega)
    subst q
    rcases hb' with q | q
    · exact o1 j hj e q
    · exact o2 q

end Go.Proofs.YtfalhemeiengcaaDoor
