/-
  Lemmas, joined: Reg, Inv2, RegW, Ab, Ab2.
-/
import Derived.Test.YtnknpgfconfgjaaJA05
/-
  Regions that draw their order and make memory beside calls: what holds whatever has been done.
-/
namespace Go.Proofs.Ytnknpgfconfgjaa
open Go.RowKit Go.Maps

def nth (l : List Value) (i : Nat) : Value := l.getD i undef
theorem nth_set {l : List Value} {i j : Nat} {v : Value} : nth (l.set i v) j = if i = j ∧ i < l.length then v else nth l j := by
  unfold nth
  rw [List.getD_eq_getElem?_getD, List.getD_eq_getElem?_getD, List.getElem?_set]
  by_cases h : i = j
  · subst h
    rw [if_pos rfl]
    by_cases h2 : i < l.length
    · rw [if_pos h2, if_pos ⟨rfl, h2⟩]; rfl
    · rw [if_neg h2, if_neg (by omega), List.getElem?_eq_none (by omega)]
  · rw [if_neg h, if_neg (by omega)]
theorem nth_same {l : List Value} {i : Nat} {v : Value} (h : i < l.length) : nth (l.set i v) i = v := by rw [nth_set, if_pos ⟨rfl, h⟩]
theorem nth_other {l : List Value} {i j : Nat} {v : Value} (h : i ≠ j) : nth (l.set i v) j = nth l j := by rw [nth_set, if_neg (by omega)]

theorem did_other {L : Array Bool} {i j : Nat} (h : j ≠ i) : did (L.setIfInBounds i true) j = did L j := by
  by_cases hi : i < L.size
  · rw [did_set hi, decide_eq_false h, Bool.false_or]
  · rw [show L.setIfInBounds i true = L by rw [Array.setIfInBounds_eq_of_size_le (by omega)]]
theorem did_same {L : Array Bool} {i : Nat} (hi : i < L.size) : did (L.setIfInBounds i true) i = true := by rw [did_set hi]; simp

/-- What a region's operations yield (none: not an equation); its boxes: the operation that makes it, the one that stores into it, its cells before and behind, its type. -/
structure Boxes where
  kd : List (Option Value)
  al : List (Nat × Nat × Array Value × Array Value × TypeId)

structure RBg (S : Boxes) (WB : World) (L : Array Bool) (l : List Value) (w : World) (g : Nat → Nat) : Prop where
  below : Below WB.heap.size WB w
  val : ∀ i e, did L i = true → S.kd[i]? = some (some e) → nth l i = e
  box : ∀ i s z n t, (i, s, z, n, t) ∈ S.al → did L i = true → nth l i = .pointer (some ⟨g i, 0, none⟩) ∧ WB.heap.size ≤ g i ∧ w.heap[g i]? = some (.cells (if did L s then n else z) t (0, 0))
  apart : ∀ p q, p ∈ S.al → q ∈ S.al → p.1 ≠ q.1 → did L p.1 = true → did L q.1 = true → g p.1 ≠ g q.1
  behind : ∀ p, p ∈ S.al → did L p.2.1 = true → did L p.1 = true
def RB (S : Boxes) (WB : World) (L : Array Bool) (l : List Value) (w : World) : Prop := ∃ g, RBg S WB L l w g

theorem RB.init {S : Boxes} {WB w : World} {L : Array Bool} {l : List Value} (h : ∀ i, did L i = false) (hb : Below WB.heap.size WB w) : RB S WB L l w :=
  ⟨fun _ => 0, hb, (fun i e h1 => by rw [h] at h1; cases h1), (fun i s z n t _ h1 => by rw [h] at h1; cases h1), (fun p q _ _ _ h1 => by rw [h] at h1; cases h1), fun p _ h1 => by rw [h] at h1; cases h1⟩

theorem RB.below {S : Boxes} {WB w : World} {L : Array Bool} {l : List Value} (h : RB S WB L l w) : Below WB.heap.size WB w := by
  obtain ⟨g, h⟩ := h
  exact h.below

/-- A value's operation, or a call that makes memory. -/
theorem RB.step {S : Boxes} {WB w w' : World} {L : Array Bool} {l : List Value} (i : Nat) (e : Value) (h : RB S WB L l w) (hL : i < L.size) (hl : i < l.length) (hk : S.kd[i]? = some (some e)) (ha : (S.al.all fun p => decide (p.1 ≠ i) && decide (p.2.1 ≠ i)) = true) (hb : Below w.heap.size w w') :
    RB S WB (L.setIfInBounds i true) (l.set i e) w' := by
  obtain ⟨g, h⟩ := h
  have ha' : ∀ p, p ∈ S.al → p.1 ≠ i ∧ p.2.1 ≠ i := fun p hp => by
    have := List.all_eq_true.1 ha p hp
    simpa using this
  refine ⟨g, h.below.trans (hb.mono h.below.size), fun j e' hj hk' => ?_, fun j s z n t hm hj => ?_, fun p q hp hq hpq h1 h2 => ?_, fun p hp h1 => ?_⟩
  · by_cases hij : i = j
    · subst hij
      rw [nth_same hl]
      rw [hk] at hk'
      cases hk'
      rfl
    · rw [nth_other hij]
      exact h.val j e' (by rwa [did_other (fun e => hij e.symm)] at hj) hk'
  · obtain ⟨n1, n2⟩ := ha' _ hm
    simp only at n1 n2
    rw [did_other n1] at hj
    rw [did_other n2, nth_other (fun e => n1 e.symm)]
    obtain ⟨q1, q2, q3⟩ := h.box j s z n t hm hj
    exact ⟨q1, q2, (hb.block _ (lt_of_block q3)).trans q3⟩
  · rw [did_other (ha' p hp).1] at h1
    rw [did_other (ha' q hq).1] at h2
    exact h.apart p q hp hq hpq h1 h2
  · rw [did_other (ha' p hp).2] at h1
    rw [did_other (ha' p hp).1]
    exact h.behind p hp h1

/-- A new box. -/
theorem RB.alloc {S : Boxes} {WB w : World} {L : Array Bool} {l : List Value} (i s : Nat) (z n : Array Value) (t : TypeId) (h : RB S WB L l w) (hL : i < L.size) (hl : i < l.length) (hk : S.kd[i]? = some none) (hm : (i, s, z, n, t) ∈ S.al)
    (hone : ∀ p, p ∈ S.al → p.1 = i → p = (i, s, z, n, t)) (hs : (S.al.all fun p => decide (p.2.1 ≠ i)) = true) (hn : did L i = false) :
    RB S WB (L.setIfInBounds i true) (l.set i (.pointer (some ⟨w.heap.size, 0, none⟩))) (w.alloc (.cells z t)) := by
  obtain ⟨g, h⟩ := h
  have hs' : ∀ p, p ∈ S.al → p.2.1 ≠ i := fun p hp => by
    have := List.all_eq_true.1 hs p hp
    simpa using this
  have hns : did L s = false := by
    cases q : did L s
    · rfl
    · have := h.behind _ hm q
      rw [hn] at this
      cases this
  have hx : ∀ j s z n t, (j, s, z, n, t) ∈ S.al → j ≠ i → did L j = true → nth l j = .pointer (some ⟨g j, 0, none⟩) ∧ WB.heap.size ≤ g j ∧ g j < w.heap.size ∧ (w.alloc (.cells z t)).heap[g j]? = some (.cells (if did L s then n else z) t (0, 0)) := fun j s z n t hm hj hd => by
    obtain ⟨q1, q2, q3⟩ := h.box j s z n t hm hd
    have := lt_of_block q3
    exact ⟨q1, q2, this, by rw [Below.heap_alloc _ _ _ (by omega)]; exact q3⟩
  refine ⟨fun j => if j = i then w.heap.size else g j, h.below.alloc h.below.size _, fun j e' hj hk' => ?_, fun j s' z' n' t' hm' hj => ?_, fun p q hp hq hpq h1 h2 => ?_, fun p hp h1 => ?_⟩
  · by_cases hij : i = j
    · subst hij; rw [hk] at hk'; cases hk'
    · rw [nth_other hij]
      exact h.val j e' (by rwa [did_other (fun e => hij e.symm)] at hj) hk'
  · by_cases hij : j = i
    · subst hij
      have he := hone _ hm' rfl
      cases he
      rw [nth_same hl, if_pos rfl, did_other (hs' _ hm), hns]
      exact ⟨rfl, h.below.size, heap_new w _⟩
    · rw [did_other hij] at hj
      rw [nth_other (fun e => hij e.symm), if_neg hij, did_other (hs' _ hm')]
      obtain ⟨q1, q2, q3⟩ := h.box j s' z' n' t' hm' hj
      have := lt_of_block q3
      exact ⟨q1, q2, by rw [Below.heap_alloc _ _ _ (by omega)]; exact q3⟩
  · have hlt : ∀ p, p ∈ S.al → p.1 ≠ i → did (L.setIfInBounds i true) p.1 = true → g p.1 < w.heap.size := fun p hp hpi hd => by
      rw [did_other hpi] at hd
      exact lt_of_block (h.box p.1 p.2.1 p.2.2.1 p.2.2.2.1 p.2.2.2.2 hp hd).2.2
    show (if p.1 = i then w.heap.size else g p.1) ≠ (if q.1 = i then w.heap.size else g q.1)
    split
    · rename_i e1
      rw [if_neg (fun e2 => hpq (e1.trans e2.symm))]
      have := hlt q hq (fun e2 => hpq (e1.trans e2.symm)) h2
      omega
    · rename_i e1
      have l1 := hlt p hp e1 h1
      split
      · omega
      · rename_i e2
        rw [did_other e1] at h1
        rw [did_other e2] at h2
        exact h.apart p q hp hq hpq h1 h2
  · rw [did_other (hs' p hp)] at h1
    have := h.behind p hp h1
    by_cases e : p.1 = i
    · rw [e]; exact did_same hL
    · rw [did_other e]; exact this

/-- What a box's operation has made. -/
theorem RB.at {S : Boxes} {WB w : World} {L : Array Bool} {l : List Value} {A i : Nat} {z n : Array Value} {t : TypeId} (h : RB S WB L l w) (hm : (A, i, z, n, t) ∈ S.al) (hd : did L A = true) (hn : did L i = false) :
    ∃ gA, nth l A = .pointer (some ⟨gA, 0, none⟩) ∧ WB.heap.size ≤ gA ∧ w.heap[gA]? = some (.cells z t (0, 0)) ∧
      (∀ w', Below WB.heap.size WB w' → i < L.size → S.kd[i]? = some none → (∀ p, p ∈ S.al → p.1 ≠ i ∧ (p.2.1 = i ∨ p.1 = A → p = (A, i, z, n, t))) → (∀ k, k ≠ gA → w'.heap[k]? = w.heap[k]?) → w'.heap[gA]? = some (.cells n t (0, 0)) → RB S WB (L.setIfInBounds i true) l w') := by
  obtain ⟨g, h⟩ := h
  obtain ⟨q1, q2, q3⟩ := h.box A i z n t hm hd
  rw [hn] at q3
  refine ⟨g A, q1, q2, q3, fun w' hb hL hk hone hw hnew => ⟨g, hb, fun j e' hj hk' => ?_, fun j s' z' n' t' hm' hj => ?_, fun p q hp hq hpq h1 h2 => ?_, fun p hp h1 => ?_⟩⟩
  · by_cases hij : j = i
    · subst hij; rw [hk] at hk'; cases hk'
    · exact h.val j e' (by rwa [did_other hij] at hj) hk'
  · obtain ⟨n1, n2⟩ := hone _ hm'
    simp only at n1 n2
    rw [did_other n1] at hj
    obtain ⟨r1, r2, r3⟩ := h.box j s' z' n' t' hm' hj
    by_cases e : s' = i
    · have he := n2 (.inl e)
      cases he
      rw [did_same hL]
      exact ⟨r1, r2, hnew⟩
    · rw [did_other e]
      refine ⟨r1, r2, (hw _ ?_).trans r3⟩
      intro eg
      by_cases ejA : j = A
      · have he := n2 (.inr ejA)
        cases he
        exact e rfl
      · exact h.apart (j, s', z', n', t') (A, i, z, n, t) hm' hm ejA hj hd eg
  · rw [did_other (hone p hp).1] at h1
    rw [did_other (hone q hq).1] at h2
    exact h.apart p q hp hq hpq h1 h2
  · rw [did_other (hone p hp).1]
    by_cases e : p.2.1 = i
    · have := (hone p hp).2 (.inl e)
      rw [this]
      exact hd
    · rw [did_other e] at h1
      exact h.behind p hp h1

theorem RB.got {S : Boxes} {WB w : World} {L : Array Bool} {l : List Value} (h : RB S WB L l w) (i : Nat) {e : Value} (hd : did L i = true) (hk : S.kd[i]? = some (some e)) : nth l i = e := by
  obtain ⟨g, h⟩ := h
  exact h.val i e hd hk

end Go.Proofs.Ytnknpgfconfgjaa

/-
  A region that draws its order, by an invariant over what has been done: only the edges that bind.
-/
namespace Go.Proofs.Ytnknpgfconfgjaa
open Go.RowKit Go.Maps

theorem wp_region_inv2 {P : Program} {ops : Array Oper} {Q : Exit → Act → World → Prop} {id : Nat} {a : Act} {w : World} (hm : P.follows .mixedOrders = true) (I : Array Bool → Act → World → Prop)
    (h0 : I (Array.replicate ops.size false) a w.drew)
    (hstep : ∀ L a w i, L.size = ops.size → i < ops.size → did L i = false → (∀ o, ops[i]? = some o → ∀ e ∈ o.after, Region.binds .any e = true → did L e.on = true) → I L a w → wpOp P ops Q i (I (L.setIfInBounds i true)) a w)
    (hback : ∀ (i : Nat) (o : Oper), ops[i]? = some o → ∀ e ∈ o.after, Region.binds .any e = true → e.on < i)
    (hend : ∀ L a w, (∀ i, i < ops.size → did L i = true) → I L a w → Q .normal a w) : (Code.region id ops true).wp P Q a w := by
  refine wp_region_any hm (wpAny_inv I hstep (fun L a w hL hr hI => hend L a w ?_ hI) ops.size _ a _ (by simp) (fun i hi _ => by omega) ?_ ?_ h0)
  · intro i
    induction i using Nat.strongRecOn with
    | _ i ih =>
      intro hi
      cases hd : did L i
      · exfalso
        have : i ∈ Region.ready .any ops L := by
          rw [mem_ready]
          refine ⟨?_, ops[i], Array.getElem?_eq_getElem hi, fun e he hb => ?_⟩
          · unfold did at hd
            simpa [hL, hi] using hd
          · have hlt := hback i _ (Array.getElem?_eq_getElem hi) e he hb
            exact ih e.on hlt (by omega)
        rw [hr] at this
        cases this
      · rfl
  · unfold Region.ready
    exact Nat.le_trans (List.length_filter_le _ _) (by simp)
  · exact Nat.le_trans (List.length_filter_le _ _) (by simp)

end Go.Proofs.Ytnknpgfconfgjaa

/-
  Regions that draw their order and make memory: what each operation tells, and of which blocks of its own; what holds whatever has been done.
-/
namespace Go.Proofs.Ytnknpgfconfgjaa
open Go.RowKit Go.Maps

/-- What is told of an operation: of its own blocks, the world, the values it hangs on, its own value. -/
abbrev Tw := (Nat → Prop) → World → List Value → Value → Prop

/-- kd: on which others an operation's value hangs, and what is told of it and of its own blocks; dep: the old blocks that facts may hang on; G: what holds of the world besides. -/
structure Rw where
  n0 : Nat
  dep : Nat → Prop
  kd : List (List Nat × Tw)
  G : Array Bool → List Value → World → Prop

/-- A known value. -/
def isV (v : Value) : List Nat × Tw := ([], fun _ _ _ x => x = v)
def NewB (w w' : World) (k : Nat) : Prop := w.heap.size ≤ k ∧ k < w'.heap.size

structure RWg (S : Rw) (L : Array Bool) (l : List Value) (w : World) (B : Nat → Nat → Prop) : Prop where
  glob : S.G L l w
  size : S.n0 ≤ w.heap.size
  ok : ∀ (i : Nat) (js : List Nat) (P : Tw), did L i = true → S.kd[i]? = some (js, P) → (∀ j ∈ js, did L j = true) ∧ P (B i) w (js.map (nth l)) (nth l i)
  blk : ∀ i k, did L i = true → B i k → S.n0 ≤ k ∧ k < w.heap.size
  apart : ∀ i j k, did L i = true → did L j = true → B i k → B j k → i = j
def RW (S : Rw) (L : Array Bool) (l : List Value) (w : World) : Prop := ∃ B, RWg S L l w B

structure Rw.Fine (S : Rw) : Prop where
  old : ∀ k, S.dep k → k < S.n0
  stab : ∀ (i : Nat) (js : List Nat) (P : Tw), S.kd[i]? = some (js, P) → ∀ (B : Nat → Prop) (w w' : World) (ls : List Value) (v : Value), P B w ls v → (∀ k, B k → k < w.heap.size) → (∀ k, B k ∨ S.dep k → w'.heap[k]? = w.heap[k]?) → w.heap.size ≤ w'.heap.size → P B w' ls v

variable {S : Rw} {w w' : World} {L : Array Bool} {l : List Value}
theorem RW.init (h : ∀ i, did L i = false) (hs : S.n0 ≤ w.heap.size) (hG : S.G L l w) : RW S L l w :=
  ⟨fun _ _ => False, hG, hs, (fun i js P h1 => by rw [h] at h1; cases h1), (fun i k h1 => by rw [h] at h1; cases h1), fun i j k h1 => by rw [h] at h1; cases h1⟩
theorem RW.glob (h : RW S L l w) : S.G L l w := by obtain ⟨B, h⟩ := h; exact h.glob
theorem RW.got (h : RW S L l w) (i : Nat) {v : Value} (hd : did L i = true) (hk : S.kd[i]? = some (isV v)) : nth l i = v := by
  obtain ⟨B, h⟩ := h
  exact (h.ok i _ _ hd hk).2
theorem RW.made (h : RW S L l w) (i : Nat) {js : List Nat} {P : Tw} (hd : did L i = true) (hk : S.kd[i]? = some (js, P)) : ∃ B, (∀ k, B k → S.n0 ≤ k ∧ k < w.heap.size) ∧ P B w (js.map (nth l)) (nth l i) := by
  obtain ⟨B, h⟩ := h
  exact ⟨B i, fun k => h.blk i k hd, (h.ok i _ _ hd hk).2⟩

theorem RWg.turn {B : Nat → Nat → Prop} (i : Nat) (v : Value) {js : List Nat} {P : Tw} (h : RWg S L l w B) (hn : did L i = false) (hL : i < L.size) (hl : i < l.length) (hk : S.kd[i]? = some (js, P)) (hjs : ∀ j ∈ js, did L j = true) (hsz : w.heap.size ≤ w'.heap.size)
    (hold : ∀ (j : Nat) (js' : List Nat) (P' : Tw), did L j = true → S.kd[j]? = some (js', P') → P' (B j) w (js'.map (nth l)) (nth l j) → P' (B j) w' (js'.map (nth l)) (nth l j))
    (hG : S.G (L.setIfInBounds i true) (l.set i v) w') (hnew : P (NewB w w') w' (js.map (nth l)) v) : RW S (L.setIfInBounds i true) (l.set i v) w' := by
  have keep : ∀ js : List Nat, (∀ j ∈ js, did L j = true) → js.map (nth (l.set i v)) = js.map (nth l) := fun js hjs => List.map_congr_left fun j hj => nth_other (fun q => by have := hjs j hj; rw [← q, hn] at this; cases this)
  have dd : ∀ j, did L j = true → did (L.setIfInBounds i true) j = true := fun j hj => by
    by_cases e : j = i
    · subst e; exact did_same hL
    · rw [did_other e]; exact hj
  refine ⟨fun j k => if j = i then NewB w w' k else B j k, hG, Nat.le_trans h.size hsz, fun j js' P' hj hk' => ?_, fun j k hj hb => ?_, fun j m k hj hm hb hc => ?_⟩
  · by_cases e : j = i
    · subst e
      rw [hk] at hk'
      cases hk'
      refine ⟨fun m hm => dd m (hjs m hm), ?_⟩
      rw [keep _ hjs, nth_same hl]
      simpa using hnew
    · rw [did_other e] at hj
      obtain ⟨a1, a2⟩ := h.ok j js' P' hj hk'
      refine ⟨fun m hm => dd m (a1 m hm), ?_⟩
      rw [keep _ a1, nth_other (fun q => e q.symm)]
      have := hold j js' P' hj hk' a2
      simpa [e] using this
  · by_cases e : j = i
    · subst e
      simp only [if_pos] at hb
      exact ⟨Nat.le_trans h.size hb.1, hb.2⟩
    · rw [did_other e] at hj
      simp only [e, if_false] at hb
      have := h.blk j k hj hb
      omega
  · by_cases e : j = i <;> by_cases e2 : m = i
    · rw [e, e2]
    · exfalso
      simp only [e, e2, if_true, if_false] at hb hc
      rw [did_other e2] at hm
      have := (h.blk m k hm hc).2
      have := hb.1
      omega
    · exfalso
      simp only [e, e2, if_true, if_false] at hb hc
      rw [did_other e] at hj
      have := (h.blk j k hj hb).2
      have := hc.1
      omega
    · simp only [e, e2, if_false] at hb hc
      rw [did_other e] at hj
      rw [did_other e2] at hm
      exact h.apart j m k hj hm hb hc

/-- An operation that leaves all that was. -/
theorem RW.quiet (i : Nat) (v : Value) {js : List Nat} {P : Tw} (h : RW S L l w) (hS : S.Fine) (hn : did L i = false) (hL : i < L.size) (hl : i < l.length) (hk : S.kd[i]? = some (js, P)) (hjs : ∀ j ∈ js, did L j = true) (hb : Below w.heap.size w w')
    (hG : S.G L l w → S.G (L.setIfInBounds i true) (l.set i v) w') (hnew : P (NewB w w') w' (js.map (nth l)) v) : RW S (L.setIfInBounds i true) (l.set i v) w' := by
  obtain ⟨B, h⟩ := h
  exact h.turn i v hn hL hl hk hjs hb.size (fun j js' P' hj hk' hp => hS.stab j js' P' hk' _ _ _ _ _ hp (fun k hb => (h.blk j k hj hb).2) (fun k hb' => hb.block k (by
    rcases hb' with q | q
    · exact (h.blk j k hj q).2
    · have := hS.old k q; have := h.size; omega)) hb.size) (hG h.glob) hnew
theorem RW.val (i : Nat) (v : Value) (h : RW S L l w) (hS : S.Fine) (hn : did L i = false) (hL : i < L.size) (hl : i < l.length) (hk : S.kd[i]? = some (isV v)) (hb : Below w.heap.size w w') (hG : S.G L l w → S.G (L.setIfInBounds i true) (l.set i v) w') : RW S (L.setIfInBounds i true) (l.set i v) w' :=
  h.quiet i v hS hn hL hl hk (fun j hj => by cases hj) hb hG rfl

/-- A store into a block g: an own one of operation t, or an old one that no fact hangs on. -/
theorem RW.put (i t g : Nat) (v : Value) {js : List Nat} {P : Tw} (h : RW S L l w) (hS : S.Fine) (hn : did L i = false) (hL : i < L.size) (hl : i < l.length) (hk : S.kd[i]? = some (js, P)) (hjs : ∀ j ∈ js, did L j = true)
    (hw : ∀ k, k ≠ g → w'.heap[k]? = w.heap[k]?) (hsz : w'.heap.size = w.heap.size)
    (hown : ∀ B, RWg S L l w B → (∀ j, did L j = true → j ≠ t → ¬ B j g) ∧ ¬ S.dep g)
    (ht : ∀ (js' : List Nat) (P' : Tw), S.kd[t]? = some (js', P') → ∀ (B : Nat → Prop) (ls : List Value) (x : Value), P' B w ls x → P' B w' ls x)
    (hG : S.G L l w → S.G (L.setIfInBounds i true) (l.set i v) w') (hnew : P (NewB w w') w' (js.map (nth l)) v) : RW S (L.setIfInBounds i true) (l.set i v) w' := by
  obtain ⟨B, h⟩ := h
  obtain ⟨o1, o2⟩ := hown B h
  refine h.turn i v hn hL hl hk hjs (by omega) (fun j js' P' hj hk' hp => ?_) (hG h.glob) hnew
  by_cases e : j = t
  · subst e; exact ht _ _ hk' _ _ _ hp
  · refine hS.stab j js' P' hk' _ _ _ _ _ hp (fun k hb => (h.blk j k hj hb).2) (fun k hb' => hw k fun q => ?_) (by omega)
    subst q
    rcases hb' with q | q
    · exact o1 j hj e q
    · exact o2 q

end Go.Proofs.Ytnknpgfconfgjaa

/-
  Regions that draw their order over a frame that is not written out: the slots that the region writes are a list's.
-/
namespace Go.Proofs.Ytnknpgfconfgjaa
open Go.RowKit Go.Maps

/-- An act whose slots from lo on are l's, the others T's. -/
def frm (lo : Nat) (T l : List Value) : Act := ⟨(T.take lo ++ l ++ T.drop (lo + l.length)).toArray, []⟩

section
variable {lo : Nat} {T l : List Value}
theorem frm_put {i : Nat} (v : Value) (h : i < l.length) (hT : lo ≤ T.length) : (frm lo T l).put (some (lo + i)) v = frm lo T (l.set i v) := by
  unfold frm Act.put
  simp only [List.setIfInBounds_toArray, List.length_set]
  rw [List.append_assoc, List.set_append_right _ _ (by rw [List.length_take]; omega), List.length_take, Nat.min_eq_left hT, Nat.add_sub_cancel_left, List.set_append_left _ _ h, List.append_assoc]
theorem frm_at {s : Nat} : (frm lo T l).tmps[s]? = (T.take lo ++ l ++ T.drop (lo + l.length))[s]? := by
  unfold frm; simp
theorem frm_slot {i : Nat} (h : i < l.length) (hT : lo ≤ T.length) : (frm lo T l).tmps[lo + i]? = some (nth l i) := by
  rw [frm_at, List.append_assoc, List.getElem?_append_right (by rw [List.length_take]; omega), List.length_take, Nat.min_eq_left hT, Nat.add_sub_cancel_left, List.getElem?_append_left h, List.getElem?_eq_getElem h]
  unfold nth
  rw [List.getD_eq_getElem?_getD, List.getElem?_eq_getElem h]; rfl
theorem frm_new {i : Nat} (h : i < l.length) (hT : lo ≤ T.length) : (frm lo T l).eval (.tmp (lo + i)) = nth l i := by
  show (frm lo T l).tmps.getD (lo + i) undef = _
  rw [Array.getD_eq_getD_getElem?, frm_slot h hT]; rfl
theorem frm_old {s : Nat} (h : s < lo) (hT : lo ≤ T.length) : (frm lo T l).eval (.tmp s) = nth T s := by
  show (frm lo T l).tmps.getD s undef = _
  rw [Array.getD_eq_getD_getElem?, frm_at, List.append_assoc, List.getElem?_append_left (by rw [List.length_take]; omega), List.getElem?_take, if_pos h]
  unfold nth
  rw [List.getD_eq_getElem?_getD]
end

theorem list_nth : ∀ {n : Nat} {l : List Value}, l.length = n → (List.range n).map (nth l) = l := by
  intro n l h
  refine List.ext_getElem (by simp [h]) fun i h1 h2 => ?_
  simp only [List.getElem_map, List.getElem_range]
  unfold nth
  rw [List.getD_eq_getElem?_getD, List.getElem?_eq_getElem h2]; rfl

/-- What holds of such a region. -/
def SI (S : Rw) (n lo : Nat) (T : List Value) (L : Array Bool) (a : Act) (w : World) : Prop := ∃ l : List Value, l.length = n ∧ L.size = n ∧ a = frm lo T l ∧ RW S L l w
/-- The region's own condition stays whatever is done. -/
def GStays (S : Rw) : Prop := ∀ (i : Nat) (v : Value) (L : Array Bool) (l : List Value) (w w' : World), Below w.heap.size w w' → S.G L l w → S.G (L.setIfInBounds i true) (l.set i v) w'

section
variable {P : Program} {S : Rw} {n lo : Nat} {T l : List Value} {L : Array Bool} {ops : Array Oper} {i : Nat} {o : Oper} {w : World} {Q : Exit → Act → World → Prop}

theorem wanted_un {t : Array Value} (h : o.guard = none) : Region.wanted o (yielded ops t) = true := by unfold Region.wanted; rw [h]
theorem wanted_go {j : Nat} {b : Bool} {oj : Oper} (hg : o.guard = some (j, b)) (hj : ops[j]? = some oj) (hd : oj.dst = some (lo + j)) (h : j < l.length) (hT : lo ≤ T.length) (hv : nth l j = .bool b) : Region.wanted o (yielded ops (frm lo T l).tmps) = true := by
  unfold Region.wanted yielded
  rw [hg]
  simp only [hj, hd, Option.bind_some, frm_slot h hT, hv]
  cases b <;> rfl

/-- What a step stands on. -/
structure At (S : Rw) (n lo : Nat) (T : List Value) (L : Array Bool) (l : List Value) (w : World) (i : Nat) : Prop where
  len : l.length = n
  size : L.size = n
  lt : i < n
  old : lo ≤ T.length
  fine : S.Fine
  stays : GStays S
  non : did L i = false
  rw : RW S L l w

theorem At.ev {j : Nat} (h : At S n lo T L l w i) (hj : j < n) : (frm lo T l).eval (.tmp (lo + j)) = nth l j := frm_new (by rw [h.len]; exact hj) h.old
theorem At.ev0 {s : Nat} (h : At S n lo T L l w i) (hs : s < lo) : (frm lo T l).eval (.tmp s) = nth T s := frm_old hs h.old

theorem step_new {w' : World} {v : Value} {js : List Nat} {p : Tw} (h : At S n lo T L l w i) (ho : ops[i]? = some o) (hd : o.dst = some (lo + i)) (hg : Region.wanted o (yielded ops (frm lo T l).tmps) = true)
    (hk : S.kd[i]? = some (js, p)) (hjs : ∀ j ∈ js, did L j = true) (hb : Below w.heap.size w w') (hp : p (NewB w w') w' (js.map (nth l)) v)
    (hex : (execOp (frm lo T l).eval o).run P w = .ok (.value v) w') : wpOp P ops Q i (SI S n lo T (L.setIfInBounds i true)) (frm lo T l) w :=
  wpOp_step ho fun K hK => by
    rw [if_pos hg]
    unfold Oper.wp
    rw [hex, Oper.upon_value, hd, frm_put v (by rw [h.len]; exact h.lt) h.old]
    exact hK _ _ ⟨_, by simp [h.len], by simp [h.size], rfl, h.rw.quiet i v h.fine h.non (by rw [h.size]; exact h.lt) (by rw [h.len]; exact h.lt) hk hjs hb (h.stays i v L l w w' hb) hp⟩

theorem step_val {v : Value} (h : At S n lo T L l w i) (ho : ops[i]? = some o) (hd : o.dst = some (lo + i)) (hg : Region.wanted o (yielded ops (frm lo T l).tmps) = true)
    (hk : S.kd[i]? = some (isV v)) (hex : (execOp (frm lo T l).eval o).run P w = .ok (.value v) w) : wpOp P ops Q i (SI S n lo T (L.setIfInBounds i true)) (frm lo T l) w :=
  step_new (p := (isV v).2) h ho hd hg hk (fun j hj => by cases hj) (Below.refl _ _) rfl hex

theorem step_call {v : Value} {f : FuncId} {args : Array Value} (h : At S n lo T L l w i) (ho : ops[i]? = some o) (hd : o.dst = some (lo + i)) (hg : Region.wanted o (yielded ops (frm lo T l).tmps) = true)
    (hk : S.kd[i]? = some (isV v)) (hex : (execOp (frm lo T l).eval o).run P w = .ok (.enter f args) w) (hc : Calls P f args w fun e w' => e = .returned v ∧ Below w.heap.size w w') : wpOp P ops Q i (SI S n lo T (L.setIfInBounds i true)) (frm lo T l) w :=
  wpOp_step ho fun K hK => by
    rw [if_pos hg]
    unfold Oper.wp
    rw [hex, Oper.upon_enter]
    refine hc.mono ?_
    rintro e w' ⟨rfl, hb⟩
    show K ((frm lo T l).put o.dst v) w'
    rw [hd, frm_put v (by rw [h.len]; exact h.lt) h.old]
    exact hK _ _ ⟨_, by simp [h.len], by simp [h.size], rfl, h.rw.quiet (js := []) (P := (isV v).2) i v h.fine h.non (by rw [h.size]; exact h.lt) (by rw [h.len]; exact h.lt) hk (fun j hj => by cases hj) hb (h.stays i v L l w w' hb) rfl⟩

-- what single operations yield
variable {ev : Operand → Value} {v : Value}
theorem ex_move {x : Operand} (h : o.op = .move x) (hv : ev x = v) : (execOp ev o).run P w = .ok (.value v) w := by
  unfold execOp; rw [h, ← hv]; rfl
theorem ex_pick {c x y : Operand} (h : o.op = .pick c x y) (hc : ev c = .bool false) (hv : ev y = v) : (execOp ev o).run P w = .ok (.value v) w := by
  unfold execOp; rw [h]; simp [go_sem, hc, hv]
theorem ex_call {c : Call} {x : Operand} {f : FuncId} {cap args all : Array Value} (h : o.op = .call c) (hc : c.callee = .value x) (hx : ev x = .func (.func f) #[] cap) (ha : c.args.map ev = args) (hall : args ++ cap = all) (hf : ∀ av W, (callFunc f av).run P W = .ok (.enter f av) W) : (execOp ev o).run P w = .ok (.enter f all) w := by
  subst hall; unfold execOp resolve; rw [h]; simp [go_sem, hc, hx, ha, hf]
end

/-- An operation hangs on another one. -/
theorem dep_of {i a : Nat} {L : Array Bool} {ops : Array Oper} (hb : (ops[i]?.map fun o => o.after.any fun e => decide (e.on = a) && Region.binds .any e) = some true) (hdep : ∀ o, ops[i]? = some o → ∀ e ∈ o.after, Region.binds .any e = true → did L e.on = true) : did L a = true := by
  cases h : ops[i]? with
  | none => rw [h] at hb; cases hb
  | some o =>
    rw [h] at hb
    simp only [Option.map_some, Option.some.injEq, Array.any_eq_true'] at hb
    obtain ⟨e, he, h2⟩ := hb
    simp only [Bool.and_eq_true, decide_eq_true_eq] at h2
    rw [← h2.1]
    exact hdep o h e he h2.2

end Go.Proofs.Ytnknpgfconfgjaa

/-
  Regions that draw their order over a frame that is not written out, wherever the slots lie that the region writes; operations without a slot; a condition that turns on what has been done.
-/
namespace Go.Proofs.Ytnknpgfconfgjaa
open Go.RowKit Go.Maps

/-- Which operation writes a slot. -/
def slotOf : List (Option Nat) → Nat → Option Nat
  | [], _ => none
  | d :: ds, s => if d = some s then some 0 else (slotOf ds s).map (· + 1)
def pickF (ds : List (Option Nat)) (T l : List Value) (s : Nat) : Value := match slotOf ds s with | some i => nth l i | none => nth T s
/-- An act whose slots are l's where the region writes, else T's. -/
def frm2 (ds : List (Option Nat)) (T l : List Value) : Act := ⟨((List.range T.length).map (pickF ds T l)).toArray, []⟩

theorem slotOf_spec : ∀ {ds : List (Option Nat)} {s i : Nat}, slotOf ds s = some i → ds[i]? = some (some s)
  | [], _, _, h => by cases h
  | d :: ds, s, i, h => by
    unfold slotOf at h
    split at h
    · rename_i e; cases h; rw [e]; rfl
    · cases q : slotOf ds s with
      | none => rw [q] at h; cases h
      | some j => rw [q] at h; cases h; exact slotOf_spec (ds := ds) q

section
variable {ds : List (Option Nat)} {T l : List Value}
theorem frm2_at {s : Nat} (h : s < T.length) : (frm2 ds T l).tmps[s]? = some (pickF ds T l s) := by
  unfold frm2; simp [h]
theorem frm2_eval {s : Nat} (h : s < T.length) : (frm2 ds T l).eval (.tmp s) = pickF ds T l s := by
  show (frm2 ds T l).tmps.getD s undef = _
  rw [Array.getD_eq_getD_getElem?, frm2_at h]; rfl
theorem frm2_new {s i : Nat} (h : s < T.length) (hs : slotOf ds s = some i) : (frm2 ds T l).eval (.tmp s) = nth l i := by
  rw [frm2_eval h]; unfold pickF; rw [hs]
theorem frm2_old {s : Nat} (h : s < T.length) (hs : slotOf ds s = none) : (frm2 ds T l).eval (.tmp s) = nth T s := by
  rw [frm2_eval h]; unfold pickF; rw [hs]
theorem frm2_put {d i : Nat} (v : Value) (hs : slotOf ds d = some i) (h : i < l.length) : (frm2 ds T l).put (some d) v = frm2 ds T (l.set i v) := by
  unfold frm2 Act.put
  simp only [Act.mk.injEq, and_true]
  apply Array.ext
  · simp
  · intro j h1 h2
    simp only [Array.size_setIfInBounds, List.size_toArray, List.length_map, List.length_range] at h1
    rw [Array.getElem_setIfInBounds (by simpa using h1)]
    simp only [List.getElem_toArray, List.getElem_map, List.getElem_range]
    by_cases e : d = j
    · subst e
      rw [if_pos rfl]
      unfold pickF; rw [hs]
      exact (nth_same h).symm
    · rw [if_neg e]
      unfold pickF
      cases q : slotOf ds j with
      | none => rfl
      | some k =>
        have hne : i ≠ k := fun q2 => by
          have h1 := slotOf_spec hs
          have h2 := slotOf_spec q
          rw [q2, h2] at h1
          cases h1
          exact e rfl
        exact (nth_other hne).symm
end

def SJ (S : Rw) (n : Nat) (ds : List (Option Nat)) (T : List Value) (L : Array Bool) (a : Act) (w : World) : Prop := ∃ l : List Value, l.length = n ∧ L.size = n ∧ a = frm2 ds T l ∧ RW S L l w

section
variable {P : Program} {S : Rw} {n : Nat} {ds : List (Option Nat)} {T l : List Value} {L : Array Bool} {ops : Array Oper} {i : Nat} {o : Oper} {w w' : World} {Q : Exit → Act → World → Prop} {v : Value}

end

end Go.Proofs.Ytnknpgfconfgjaa
