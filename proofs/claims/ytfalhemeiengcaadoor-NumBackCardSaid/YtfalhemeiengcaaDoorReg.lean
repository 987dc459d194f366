/-
  Regions that draw their order and make memory beside calls: what holds whatever has been done.
-/
import Derived.Test.YtfalhemeiengcaaDoorInv
import Derived.Test.YtfalhemeiengcaaDoorTwo
namespace Go.Proofs.YtfalhemeiengcaaDoor
open Go.RowKit Go.Maps

def nth (l : List Value) (i : Nat) : Value := l.getD i undef
theorem nth_set {l : List Value} {i j : Nat} {v : Value} : nth (l.set i v) j = if i = j ∧ i < l.length then v else nth l j := by
  unfold nth
  rw [List.getD_eq_getElem?_getD, List.getD_eq_getElem?_getD, List.getElem?_set]
  by_cases h : i = j
  · subst h
    rw [if_pos rfl]
    by_cases h2 : i < l.length
    · rw [if_pos h2, if_pos ⟨rfl, h2⟩]; rfl
    · rw [if_neg h2, if_neg (by omega), List.getElem?_eq_none (by omega)]
  · rw [if_neg h, if_neg (by omega)]
theorem nth_same {l : List Value} {i : Nat} {v : Value} (h : i < l.length) : nth (l.set i v) i = v := by rw [nth_set, if_pos ⟨rfl, h⟩]
theorem nth_other {l : List Value} {i j : Nat} {v : Value} (h : i ≠ j) : nth (l.set i v) j = nth l j := by rw [nth_set, if_neg (by omega)]

theorem did_other {L : Array Bool} {i j : Nat} (h : j ≠ i) : did (L.setIfInBounds i true) j = did L j := by
  by_cases hi : i < L.size
  · rw [did_set hi, decide_eq_false h, Bool.false_or]
  · rw [show L.setIfInBounds i true = L by rw [Array.setIfInBounds_eq_of_size_le (by omega)]]
theorem did_same {L : Array Bool} {i : Nat} (hi : i < L.size) : did (L.setIfInBounds i true) i = true := by rw [did_set hi]; simp

/-- What a region's operations yield (none: not an equation); its boxes: the operation that makes it, the one that stores into it, its cells before and behind, its type. -/
structure Boxes where
  kd : List (Option Value)
  al : List (Nat × Nat × Array Value × Array Value × TypeId)

structure RBg (S : Boxes) (WB : World) (L : Array Bool) (l : List Value) (w : World) (g : Nat → Nat) : Prop where
  below : Below WB.heap.size WB w
  val : ∀ i e, did L i = true → S.kd[i]? = some (some e) → nth l i = e
  box : ∀ i s z n t, (i, s, z, n, t) ∈ S.al → did L i = true → nth l i = .pointer (some ⟨g i, 0, none⟩) ∧ WB.heap.size ≤ g i ∧ w.heap[g i]? = some (.cells (if did L s then n else z) t (0, 0))
  apart : ∀ p q, p ∈ S.al → q ∈ S.al → p.1 ≠ q.1 → did L p.1 = true → did L q.1 = true → g p.1 ≠ g q.1
  behind : ∀ p, p ∈ S.al → did L p.2.1 = true → did L p.1 = true
def RB (S : Boxes) (WB : World) (L : Array Bool) (l : List Value) (w : World) : Prop := ∃ g, RBg S WB L l w g

theorem RB.init {S : Boxes} {WB w : World} {L : Array Bool} {l : List Value} (h : ∀ i, did L i = false) (hb : Below WB.heap.size WB w) : RB S WB L l w :=
  ⟨fun _ => 0, hb, (fun i e h1 => by rw [h] at h1; cases h1), (fun i s z n t _ h1 => by rw [h] at h1; cases h1), (fun p q _ _ _ h1 => by rw [h] at h1; cases h1), fun p _ h1 => by rw [h] at h1; cases h1⟩

theorem RB.below {S : Boxes} {WB w : World} {L : Array Bool} {l : List Value} (h : RB S WB L l w) : Below WB.heap.size WB w := by
  obtain ⟨g, h⟩ := h
  exact h.below

/-- A value's operation, or a call that makes memory. -/
theorem RB.step {S : Boxes} {WB w w' : World} {L : Array Bool} {l : List Value} (i : Nat) (e : Value) (h : RB S WB L l w) (hL : i < L.size) (hl : i < l.length) (hk : S.kd[i]? = some (some e)) (ha : (S.al.all fun p => decide (p.1 ≠ i) && decide (p.2.1 ≠ i)) = true) (hb : Below w.heap.size w w') :
    RB S WB (L.setIfInBounds i true) (l.set i e) w' := by
  obtain ⟨g, h⟩ := h
  have ha' : ∀ p, p ∈ S.al → p.1 ≠ i ∧ p.2.1 ≠ i := fun p hp => by
    have := List.all_eq_true.1 ha p hp
    simpa using this
  refine ⟨g, h.below.trans (hb.mono h.below.size), fun j e' hj hk' => ?_, fun j s z n t hm hj => ?_, fun p q hp hq hpq h1 h2 => ?_, fun p hp h1 => ?_⟩
  · by_cases hij : i = j
    · subst hij
      rw [nth_same hl]
      rw [hk] at hk'
      cases hk'
      rfl
    · rw [nth_other hij]
      exact h.val j e' (by rwa [did_other (fun e => hij e.symm)] at hj) hk'
  · obtain ⟨n1, n2⟩ := ha' _ hm
    simp only at n1 n2
    rw [did_other n1] at hj
    rw [did_other n2, nth_other (fun e => n1 e.symm)]
    obtain ⟨q1, q2, q3⟩ := h.box j s z n t hm hj
    exact ⟨q1, q2, (hb.block _ (lt_of_block q3)).trans q3⟩
  · rw [did_other (ha' p hp).1] at h1
    rw [did_other (ha' q hq).1] at h2
    exact h.apart p q hp hq hpq h1 h2
  · rw [did_other (ha' p hp).2] at h1
    rw [did_other (ha' p hp).1]
    exact h.behind p hp h1

/-- A new box. -/
theorem RB.alloc {S : Boxes} {WB w : World} {L : Array Bool} {l : List Value} (i s : Nat) (z n : Array Value) (t : TypeId) (h : RB S WB L l w) (hL : i < L.size) (hl : i < l.length) (hk : S.kd[i]? = some none) (hm : (i, s, z, n, t) ∈ S.al)
    (hone : ∀ p, p ∈ S.al → p.1 = i → p = (i, s, z, n, t)) (hs : (S.al.all fun p => decide (p.2.1 ≠ i)) = true) (hn : did L i = false) :
    RB S WB (L.setIfInBounds i true) (l.set i (.pointer (some ⟨w.heap.size, 0, none⟩))) (w.alloc (.cells z t)) := by
  obtain ⟨g, h⟩ := h
  have hs' : ∀ p, p ∈ S.al → p.2.1 ≠ i := fun p hp => by
    have := List.all_eq_true.1 hs p hp
    simpa using this
  have hns : did L s = false := by
    cases q : did L s
    · rfl
    · have := h.behind _ hm q
      rw [hn] at this
      cases this
  have hx : ∀ j s z n t, (j, s, z, n, t) ∈ S.al → j ≠ i → did L j = true → nth l j = .pointer (some ⟨g j, 0, none⟩) ∧ WB.heap.size ≤ g j ∧ g j < w.heap.size ∧ (w.alloc (.cells z t)).heap[g j]? = some (.cells (if did L s then n else z) t (0, 0)) := fun j s z n t hm hj hd => by
    obtain ⟨q1, q2, q3⟩ := h.box j s z n t hm hd
    have := lt_of_block q3
    exact ⟨q1, q2, this, by rw [Below.heap_alloc _ _ _ (by omega)]; exact q3⟩
  refine ⟨fun j => if j = i then w.heap.size else g j, h.below.alloc h.below.size _, fun j e' hj hk' => ?_, fun j s' z' n' t' hm' hj => ?_, fun p q hp hq hpq h1 h2 => ?_, fun p hp h1 => ?_⟩
  · by_cases hij : i = j
    · subst hij; rw [hk] at hk'; cases hk'
    · rw [nth_other hij]
      exact h.val j e' (by rwa [did_other (fun e => hij e.symm)] at hj) hk'
  · by_cases hij : j = i
    · subst hij
      have he := hone _ hm' rfl
      cases he
      rw [nth_same hl, if_pos rfl, did_other (hs' _ hm), hns]
      exact ⟨rfl, h.below.size, heap_new w _⟩
    · rw [did_other hij] at hj
      rw [nth_other (fun e => hij e.symm), if_neg hij, did_other (hs' _ hm')]
      obtain ⟨q1, q2, q3⟩ := h.box j s' z' n' t' hm' hj
      have := lt_of_block q3
      exact ⟨q1, q2, by rw [Below.heap_alloc _ _ _ (by omega)]; exact q3⟩
  · have hlt : ∀ p, p ∈ S.al → p.1 ≠ i → did (L.setIfInBounds i true) p.1 = true → g p.1 < w.heap.size := fun p hp hpi hd => by
      rw [did_other hpi] at hd
      exact lt_of_block (h.box p.1 p.2.1 p.2.2.1 p.2.2.2.1 p.2.2.2.2 hp hd).2.2
    show (if p.1 = i then w.heap.size else g p.1) ≠ (if q.1 = i then w.heap.size else g q.1)
    split
    · rename_i e1
      rw [if_neg (fun e2 => hpq (e1.trans e2.symm))]
      have := hlt q hq (fun e2 => hpq (e1.trans e2.symm)) h2
      omega
    · rename_i e1
      have l1 := hlt p hp e1 h1
      split
      · omega
      · rename_i e2
        rw [did_other e1] at h1
        rw [did_other e2] at h2
        exact h.apart p q hp hq hpq h1 h2
  · rw [did_other (hs' p hp)] at h1
    have := h.behind p hp h1
    by_cases e : p.1 = i
    · rw [e]; exact did_same hL
    · rw [did_other e]; exact this

/-- What a box's operation has made. -/
theorem RB.at {S : Boxes} {WB w : World} {L : Array Bool} {l : List Value} {A i : Nat} {z n : Array Value} {t : TypeId} (h : RB S WB L l w) (hm : (A, i, z, n, t) ∈ S.al) (hd : did L A = true) (hn : did L i = false) :
    ∃ gA, nth l A = .pointer (some ⟨gA, 0, none⟩) ∧ WB.heap.size ≤ gA ∧ w.heap[gA]? = some (.cells z t (0, 0)) ∧
      (∀ w', Below WB.heap.size WB w' → i < L.size → S.kd[i]? = some none → (∀ p, p ∈ S.al → p.1 ≠ i ∧ (p.2.1 = i ∨ p.1 = A → p = (A, i, z, n, t))) → (∀ k, k ≠ gA → w'.heap[k]? = w.heap[k]?) → w'.heap[gA]? = some (.cells n t (0, 0)) → RB S WB (L.setIfInBounds i true) l w') := by
  obtain ⟨g, h⟩ := h
  obtain ⟨q1, q2, q3⟩ := h.box A i z n t hm hd
  rw [hn] at q3
  refine ⟨g A, q1, q2, q3, fun w' hb hL hk hone hw hnew => ⟨g, hb, fun j e' hj hk' => ?_, fun j s' z' n' t' hm' hj => ?_, fun p q hp hq hpq h1 h2 => ?_, fun p hp h1 => ?_⟩⟩
  · by_cases hij : j = i
    · subst hij; rw [hk] at hk'; cases hk'
    · exact h.val j e' (by rwa [did_other hij] at hj) hk'
  · obtain ⟨n1, n2⟩ := hone _ hm'
    simp only at n1 n2
    rw [did_other n1] at hj
    obtain ⟨r1, r2, r3⟩ := h.box j s' z' n' t' hm' hj
    by_cases e : s' = i
    · have he := n2 (.inl e)
      cases he
      rw [did_same hL]
      exact ⟨r1, r2, hnew⟩
    · rw [did_other e]
      refine ⟨r1, r2, (hw _ ?_).trans r3⟩
      intro eg
      by_cases ejA : j = A
      · have he := n2 (.inr ejA)
        cases he
        exact e rfl
      · exact h.apart (j, s', z', n', t') (A, i, z, n, t) hm' hm ejA hj hd eg
  · rw [did_other (hone p hp).1] at h1
    rw [did_other (hone q hq).1] at h2
    exact h.apart p q hp hq hpq h1 h2
  · rw [did_other (hone p hp).1]
    by_cases e : p.2.1 = i
    · have := (hone p hp).2 (.inl e)
      rw [this]
      exact hd
    · rw [did_other e] at h1
      exact h.behind p hp h1

theorem RB.got {S : Boxes} {WB w : World} {L : Array Bool} {l : List Value} (h : RB S WB L l w) (i : Nat) {e : Value} (hd : did L i = true) (hk : S.kd[i]? = some (some e)) : nth l i = e := by
  obtain ⟨g, h⟩ := h
  exact h.val i e hd hk

end Go.Proofs.YtfalhemeiengcaaDoor
