/-
  Lemmas, joined: Plays18c, Reg, RegS, RegP.
-/
import Derived.Test.YtlnkflmnjkmhkaaJR28
import Derived.Test.YtlnkflmnjkmhkaaJR35
import Derived.Test.YtlnkflmnjkmhkaaJR36
import Derived.Test.YtlnkflmnjkmhkaaJR16
import Derived.Test.YtlnkflmnjkmhkaaJR17
import Derived.Test.YtlnkflmnjkmhkaaJR05
/-
  The law SymopPlays of layer 18: New that refuses, Len at a live store, the rounds' one invariant.
-/
namespace Go.Proofs.Ytlnkflmnjkmhkaa
open Go.RowKit Go.Maps

set_option maxRecDepth 100000 in
set_option maxHeartbeats 400000 in
theorem new_bad (c : Int) (w : World) (h : c < 2 ∨ 1048576 < c) :
    Calls Try.prog 8 #[.int .i64 c] w fun e w' => e = .returned (.tuple #[.pointer none, .int .i64 2]) ∧ w = w' := by
  by_cases h0 : c < 2
  · clear h
    go_enter Try.func8, Try.ntmps8
    go_wp2
    go_ret2
    exact ⟨rfl, rfl⟩
  · have h1 : 1048576 < c := by omega
    clear h
    go_enter Try.func8, Try.ntmps8
    go_wp2
    go_ret2
    exact ⟨rfl, rfl⟩

set_option maxRecDepth 100000 in
set_option maxHeartbeats 400000 in
theorem len_sto (b : Nat) (O : Nat → Prop) (s : BS) (w : World) (hs : Sto w b O s) :
    Calls Try.prog 17 #[.pointer (some ⟨b, 0, none⟩)] w fun e w' => e = .returned (.int .i64 (s.nodes.length : Int)) ∧ w = w' := by
  obtain ⟨told, ⟨vn, m1, m2, c0, c1, c2, c3, c4, fz, own, hm12, hnb, hm1, hm2, hO, hcp1, hcp2, -⟩, -, -⟩ := hs
  obtain ⟨pn, cn, rfl, hln⟩ := own_shape own
  clear c2 c3 fz own hm12 hnb hm1 hm2 hO
  have hcap : ((s.cap : Int) == 0) = false := by rw [beq_eq_false_iff_ne]; omega
  generalize s.nodes.length = n at *
  go_enter Try.func17, Try.ntmps17
  go_wp2
  go_ret
  exact ⟨rfl, rfl⟩

theorem call_at (av : Array Value) (W : World) : (callFunc 13 av).run Try.prog W = .ok (.enter 13 av) W := by kernel_rfl

/-- What holds at each round's head. -/
def PlaysAt (w0 : World) (b bw g n : Nat) (W : World) : Prop := ∃ O s Ow v vals xs, PlaysI w0 W b O s bw Ow s g n v vals xs

theorem PlaysAt.below {w0 W : World} {b bw g n : Nat} (h : PlaysAt w0 b bw g n W) : Below w0.heap.size w0 W := by
  obtain ⟨O, s, Ow, v, vals, xs, h⟩ := h
  exact h.below
theorem PlaysAt.later {w0 W W' : World} {b bw g n : Nat} (h : PlaysAt w0 b bw g n W) (hb : Below W.heap.size W W') : PlaysAt w0 b bw g n W' := by
  obtain ⟨O, s, Ow, v, vals, xs, h⟩ := h
  exact ⟨O, s, Ow, v, vals, xs, h.later hb⟩

def refCells (c : Nat) : Obj := .cells #[.int .i64 (c : Int), .slice none 0 0, .bool false] 31
def boxCells : Obj := .cells #[.slice none 0 0] 32

/-- Behind New, the reference's store, and the box of the vectors. -/
theorem PlaysAt.start (w0 : World) (c : Nat) (h0 : 2 ≤ c) (h1 : c ≤ 400) :
    PlaysAt w0 (w0.heap.size + 2) (w0.heap.size + 3) (w0.heap.size + 3 + 1) 0 (((newWorld w0 c).alloc (refCells c)).alloc boxCells) := by
  obtain ⟨O, hS, hO⟩ := new_sto w0 c h0 (by omega)
  have hsz : (newWorld w0 c).heap.size = w0.heap.size + 3 := by unfold newWorld; simp
  have hB0 : Below w0.heap.size w0 (newWorld w0 c) := by unfold newWorld; exact (by repeat (first | exact Below.refl _ _ | assumption | refine Below.drew ?_ | refine Below.alloc ?_ (by first | omega | (simp <;> omega)) _ | refine Below.setCell ?_ (by first | omega | (simp <;> omega)) _ | refine Below.trans ?_ (Below.mono (by assumption) (by first | omega | (simp <;> omega)))))
  have hBA : Below (newWorld w0 c).heap.size (newWorld w0 c) (((newWorld w0 c).alloc (refCells c)).alloc boxCells) := ((Below.refl _ _).alloc (Nat.le_refl _) _).alloc (by simp) _
  have hlt := hS.lt
  have hR : RSto (((newWorld w0 c).alloc (refCells c)).alloc boxCells) (w0.heap.size + 3) (fun k => k = w0.heap.size + 3) ⟨c, [], false⟩ := by
    refine ⟨⟨.slice none 0 0, ?_, ?_, ?_, fun j => ?_, ⟨rfl, .inl ⟨rfl, rfl⟩⟩, (by simp [Value.ownBlock]), fun k => ?_, (by show c ≤ 1048576; omega), Nat.zero_le _, fun t ht => by cases ht⟩, hS.ord⟩
    · rw [← hsz]; simp [refCells, boxCells, go_sem]
    · rw [← hsz]; simp [refCells, boxCells, go_sem]
    · rw [← hsz]; simp [refCells, boxCells, go_sem]
    · rw [← hsz]; simp [refCells, boxCells, go_sem]
    · simp [Value.ownBlock]
  refine ⟨O, ⟨c, [], false⟩, fun k => k = w0.heap.size + 3, .slice none 0 0, fun _ => .slice none 0 0, fun _ => [], hS.below hBA, hR, ?_, ?_, ⟨rfl, .inl ⟨rfl, rfl⟩⟩, (by simp [Value.ownBlock]), ?_, ?_, ?_, fun j hj => absurd hj (Nat.not_lt_zero _), hB0.trans (hBA.mono hB0.size)⟩
  · rw [show w0.heap.size + 3 + 1 = ((newWorld w0 c).alloc (refCells c)).heap.size by simp [hsz]]; simp [boxCells, go_sem]
  · rw [show w0.heap.size + 3 + 1 = ((newWorld w0 c).alloc (refCells c)).heap.size by simp [hsz]]; simp [boxCells, go_sem]
  · rintro k (hk | rfl | rfl | hk)
    · exact hO k hk
    · omega
    · omega
    · cases hk
  · exact fun k hk => ⟨by have := hlt k hk; omega, by have := hlt k hk; omega, fun h => by cases h⟩
  · rintro k rfl
    exact ⟨by omega, fun h => by cases h⟩

theorem wrap64_in {x : Int} (h0 : -9223372036854775808 ≤ x) (h1 : x ≤ 9223372036854775807) : wrap64 x = x := by unfold wrap64; omega

variable {w0 W W' : World} {b : Nat} {O O' : Nat → Prop} {s s' : BS} {bw : Nat} {Ow : Nat → Prop} {t : BS} {g n : Nat} {v : Value} {vals : Nat → Value} {xs : Nat → List Int}

theorem mut_rst (he : Ext Ow O' W W') : Ext (Mut O Ow g v) (Mut O O' g v) W W' :=
  ⟨⟨he.1.os, he.1.tape, he.1.output, he.1.size, fun k hk hO => he.1.block k hk (fun q => hO (.inr (.inl q)))⟩, fun k hk => by
    rcases hk with hk | hk | hk
    · exact .inl (.inl hk)
    · rcases he.2 k hk with q | q
      · exact .inl (.inr (.inl q))
      · exact .inr q
    · exact .inl (.inr (.inr hk))⟩
theorem mut_sto (he : Ext O O' W W') : Ext (Mut O Ow g v) (Mut O' Ow g v) W W' :=
  ⟨⟨he.1.os, he.1.tape, he.1.output, he.1.size, fun k hk hO => he.1.block k hk (fun q => hO (.inl q))⟩, fun k hk => by
    rcases hk with hk | hk
    · rcases he.2 k hk with q | q
      · exact .inl (.inl q)
      · exact .inr q
    · exact .inl (.inr hk)⟩

/-- A vector of new memory lies beside all that may turn. -/
theorem PlaysI.vecNew {x : Value} {ys : List Int} {d p cp : Nat} (h : PlaysI w0 W b O s bw Ow t g n v vals xs) (hv : IVec W' x ys) (he : Ext O O' W W') (hx : x = .slice (some ⟨d, 0, none⟩) p cp) (hd : W.heap.size ≤ d) (hO : ¬ O' d) : IVecX W' (Mut O' Ow g v) x ys := by
  refine ⟨hv, fun k hk _ hM => ?_, hx ▸ NilOk.some _ _ _⟩
  subst hx
  obtain rfl : d = k := by simpa [Value.ownBlock] using hk
  rcases hM with q | q
  · exact hO q
  · have := h.lt d (.inr q); omega

/-- The box behind the append of one. -/
theorem PlaysI.boxAt {W2 : World} {o : Obj} (h : PlaysI w0 W b O s bw Ow t g n v vals xs) (hg : (W.alloc o).grownBy W2 v.ownBlock) : W2.cell? ⟨g, 0, none⟩ = some v ∧ W2.frozen? ⟨g, 0, none⟩ = false := by
  have hgl : g < W.heap.size := (cell_there h.box).1
  have e := (hg.block g (by simp; omega) (fun e => h.vg e.symm)).trans (Below.heap_alloc W o g hgl)
  exact ⟨(World.cell?_of_block (a := ⟨g, 0, none⟩) e).trans h.box, (World.frozen?_of_block (a := ⟨g, 0, none⟩) e).trans h.fro⟩

theorem PlaysI.at (h : PlaysI w0 W b O s bw Ow t g n v vals xs) (h0 : 0 < n) (hn : n ≤ 1000) (i : Int) (hb : Below W.heap.size W W') :
    Calls Try.prog 13 #[.int .i64 i, .pointer (some ⟨g, 0, none⟩)] W' fun e w' => e = .returned (vals (atJ n i)) ∧ Below W'.heap.size W' w' := by
  have h' := h.later hb
  have hrow := h'.row
  obtain ⟨-, ⟨h1, h2⟩ | ⟨ra, cap, cur, h1, h2, h3, h4, h5, h6, h7⟩⟩ := hrow
  · omega
  · have hc := h'.row.cells (g := ra) (by rw [h1]; rfl)
    refine at_any g ra n cap vals i W' h0 hn ?_ ?_ ?_ ?_
    · omega
    · rw [← h1]; exact h'.box
    · intro j hj
      have := hc j (vals j) (by simp [hj])
      rw [show (⟨ra, 0, none⟩ : Addr).add j = ⟨ra, j, none⟩ from by unfold Addr.add; simp; omega] at this
      exact this
    · intro j hj
      obtain ⟨⟨p, c, e, -⟩, -⟩ := (h'.vec j hj).1
      exact ⟨_, _, _, e⟩

end Go.Proofs.Ytlnkflmnjkmhkaa

/-
  Regions that draw their order and make memory beside calls: what holds whatever has been done.
-/
namespace Go.Proofs.Ytlnkflmnjkmhkaa
open Go.RowKit Go.Maps

def nth (l : List Value) (i : Nat) : Value := l.getD i undef
theorem nth_set {l : List Value} {i j : Nat} {v : Value} : nth (l.set i v) j = if i = j ∧ i < l.length then v else nth l j := by
  unfold nth
  rw [List.getD_eq_getElem?_getD, List.getD_eq_getElem?_getD, List.getElem?_set]
  by_cases h : i = j
  · subst h
    rw [if_pos rfl]
    by_cases h2 : i < l.length
    · rw [if_pos h2, if_pos ⟨rfl, h2⟩]; rfl
    · rw [if_neg h2, if_neg (by omega), List.getElem?_eq_none (by omega)]
  · rw [if_neg h, if_neg (by omega)]
theorem nth_same {l : List Value} {i : Nat} {v : Value} (h : i < l.length) : nth (l.set i v) i = v := by rw [nth_set, if_pos ⟨rfl, h⟩]
theorem nth_other {l : List Value} {i j : Nat} {v : Value} (h : i ≠ j) : nth (l.set i v) j = nth l j := by rw [nth_set, if_neg (by omega)]

theorem did_other {L : Array Bool} {i j : Nat} (h : j ≠ i) : did (L.setIfInBounds i true) j = did L j := by
  by_cases hi : i < L.size
  · rw [did_set hi, decide_eq_false h, Bool.false_or]
  · rw [show L.setIfInBounds i true = L by rw [Array.setIfInBounds_eq_of_size_le (by omega)]]
theorem did_same {L : Array Bool} {i : Nat} (hi : i < L.size) : did (L.setIfInBounds i true) i = true := by rw [did_set hi]; simp

/-- What a region's operations yield (none: not an equation); its boxes: the operation that makes it, the one that stores into it, its cells before and behind, its type. -/
structure Boxes where
  kd : List (Option Value)
  al : List (Nat × Nat × Array Value × Array Value × TypeId)

structure RBg (S : Boxes) (WB : World) (L : Array Bool) (l : List Value) (w : World) (g : Nat → Nat) : Prop where
  below : Below WB.heap.size WB w
  val : ∀ i e, did L i = true → S.kd[i]? = some (some e) → nth l i = e
  box : ∀ i s z n t, (i, s, z, n, t) ∈ S.al → did L i = true → nth l i = .pointer (some ⟨g i, 0, none⟩) ∧ WB.heap.size ≤ g i ∧ w.heap[g i]? = some (.cells (if did L s then n else z) t (0, 0))
  apart : ∀ p q, p ∈ S.al → q ∈ S.al → p.1 ≠ q.1 → did L p.1 = true → did L q.1 = true → g p.1 ≠ g q.1
  behind : ∀ p, p ∈ S.al → did L p.2.1 = true → did L p.1 = true
def RB (S : Boxes) (WB : World) (L : Array Bool) (l : List Value) (w : World) : Prop := ∃ g, RBg S WB L l w g

theorem RB.init {S : Boxes} {WB w : World} {L : Array Bool} {l : List Value} (h : ∀ i, did L i = false) (hb : Below WB.heap.size WB w) : RB S WB L l w :=
  ⟨fun _ => 0, hb, (fun i e h1 => by rw [h] at h1; cases h1), (fun i s z n t _ h1 => by rw [h] at h1; cases h1), (fun p q _ _ _ h1 => by rw [h] at h1; cases h1), fun p _ h1 => by rw [h] at h1; cases h1⟩

theorem RB.below {S : Boxes} {WB w : World} {L : Array Bool} {l : List Value} (h : RB S WB L l w) : Below WB.heap.size WB w := by
  obtain ⟨g, h⟩ := h
  exact h.below

/-- A value's operation, or a call that makes memory. -/
theorem RB.step {S : Boxes} {WB w w' : World} {L : Array Bool} {l : List Value} (i : Nat) (e : Value) (h : RB S WB L l w) (hL : i < L.size) (hl : i < l.length) (hk : S.kd[i]? = some (some e)) (ha : (S.al.all fun p => decide (p.1 ≠ i) && decide (p.2.1 ≠ i)) = true) (hb : Below w.heap.size w w') :
    RB S WB (L.setIfInBounds i true) (l.set i e) w' := by
  obtain ⟨g, h⟩ := h
  have ha' : ∀ p, p ∈ S.al → p.1 ≠ i ∧ p.2.1 ≠ i := fun p hp => by
    have := List.all_eq_true.1 ha p hp
    simpa using this
  refine ⟨g, h.below.trans (hb.mono h.below.size), fun j e' hj hk' => ?_, fun j s z n t hm hj => ?_, fun p q hp hq hpq h1 h2 => ?_, fun p hp h1 => ?_⟩
  · by_cases hij : i = j
    · subst hij
      rw [nth_same hl]
      rw [hk] at hk'
      cases hk'
      rfl
    · rw [nth_other hij]
      exact h.val j e' (by rwa [did_other (fun e => hij e.symm)] at hj) hk'
  · obtain ⟨n1, n2⟩ := ha' _ hm
    simp only at n1 n2
    rw [did_other n1] at hj
    rw [did_other n2, nth_other (fun e => n1 e.symm)]
    obtain ⟨q1, q2, q3⟩ := h.box j s z n t hm hj
    exact ⟨q1, q2, (hb.block _ (lt_of_block q3)).trans q3⟩
  · rw [did_other (ha' p hp).1] at h1
    rw [did_other (ha' q hq).1] at h2
    exact h.apart p q hp hq hpq h1 h2
  · rw [did_other (ha' p hp).2] at h1
    rw [did_other (ha' p hp).1]
    exact h.behind p hp h1

/-- A new box. -/
theorem RB.alloc {S : Boxes} {WB w : World} {L : Array Bool} {l : List Value} (i s : Nat) (z n : Array Value) (t : TypeId) (h : RB S WB L l w) (hL : i < L.size) (hl : i < l.length) (hk : S.kd[i]? = some none) (hm : (i, s, z, n, t) ∈ S.al)
    (hone : ∀ p, p ∈ S.al → p.1 = i → p = (i, s, z, n, t)) (hs : (S.al.all fun p => decide (p.2.1 ≠ i)) = true) (hn : did L i = false) :
    RB S WB (L.setIfInBounds i true) (l.set i (.pointer (some ⟨w.heap.size, 0, none⟩))) (w.alloc (.cells z t)) := by
  obtain ⟨g, h⟩ := h
  have hs' : ∀ p, p ∈ S.al → p.2.1 ≠ i := fun p hp => by
    have := List.all_eq_true.1 hs p hp
    simpa using this
  have hns : did L s = false := by
    cases q : did L s
    · rfl
    · have := h.behind _ hm q
      rw [hn] at this
      cases this
  have hx : ∀ j s z n t, (j, s, z, n, t) ∈ S.al → j ≠ i → did L j = true → nth l j = .pointer (some ⟨g j, 0, none⟩) ∧ WB.heap.size ≤ g j ∧ g j < w.heap.size ∧ (w.alloc (.cells z t)).heap[g j]? = some (.cells (if did L s then n else z) t (0, 0)) := fun j s z n t hm hj hd => by
    obtain ⟨q1, q2, q3⟩ := h.box j s z n t hm hd
    have := lt_of_block q3
    exact ⟨q1, q2, this, by rw [Below.heap_alloc _ _ _ (by omega)]; exact q3⟩
  refine ⟨fun j => if j = i then w.heap.size else g j, h.below.alloc h.below.size _, fun j e' hj hk' => ?_, fun j s' z' n' t' hm' hj => ?_, fun p q hp hq hpq h1 h2 => ?_, fun p hp h1 => ?_⟩
  · by_cases hij : i = j
    · subst hij; rw [hk] at hk'; cases hk'
    · rw [nth_other hij]
      exact h.val j e' (by rwa [did_other (fun e => hij e.symm)] at hj) hk'
  · by_cases hij : j = i
    · subst hij
      have he := hone _ hm' rfl
      cases he
      rw [nth_same hl, if_pos rfl, did_other (hs' _ hm), hns]
      exact ⟨rfl, h.below.size, heap_new w _⟩
    · rw [did_other hij] at hj
      rw [nth_other (fun e => hij e.symm), if_neg hij, did_other (hs' _ hm')]
      obtain ⟨q1, q2, q3⟩ := h.box j s' z' n' t' hm' hj
      have := lt_of_block q3
      exact ⟨q1, q2, by rw [Below.heap_alloc _ _ _ (by omega)]; exact q3⟩
  · have hlt : ∀ p, p ∈ S.al → p.1 ≠ i → did (L.setIfInBounds i true) p.1 = true → g p.1 < w.heap.size := fun p hp hpi hd => by
      rw [did_other hpi] at hd
      exact lt_of_block (h.box p.1 p.2.1 p.2.2.1 p.2.2.2.1 p.2.2.2.2 hp hd).2.2
    show (if p.1 = i then w.heap.size else g p.1) ≠ (if q.1 = i then w.heap.size else g q.1)
    split
    · rename_i e1
      rw [if_neg (fun e2 => hpq (e1.trans e2.symm))]
      have := hlt q hq (fun e2 => hpq (e1.trans e2.symm)) h2
      omega
    · rename_i e1
      have l1 := hlt p hp e1 h1
      split
      · omega
      · rename_i e2
        rw [did_other e1] at h1
        rw [did_other e2] at h2
        exact h.apart p q hp hq hpq h1 h2
  · rw [did_other (hs' p hp)] at h1
    have := h.behind p hp h1
    by_cases e : p.1 = i
    · rw [e]; exact did_same hL
    · rw [did_other e]; exact this

/-- What a box's operation has made. -/
theorem RB.at {S : Boxes} {WB w : World} {L : Array Bool} {l : List Value} {A i : Nat} {z n : Array Value} {t : TypeId} (h : RB S WB L l w) (hm : (A, i, z, n, t) ∈ S.al) (hd : did L A = true) (hn : did L i = false) :
    ∃ gA, nth l A = .pointer (some ⟨gA, 0, none⟩) ∧ WB.heap.size ≤ gA ∧ w.heap[gA]? = some (.cells z t (0, 0)) ∧
      (∀ w', Below WB.heap.size WB w' → i < L.size → S.kd[i]? = some none → (∀ p, p ∈ S.al → p.1 ≠ i ∧ (p.2.1 = i ∨ p.1 = A → p = (A, i, z, n, t))) → (∀ k, k ≠ gA → w'.heap[k]? = w.heap[k]?) → w'.heap[gA]? = some (.cells n t (0, 0)) → RB S WB (L.setIfInBounds i true) l w') := by
  obtain ⟨g, h⟩ := h
  obtain ⟨q1, q2, q3⟩ := h.box A i z n t hm hd
  rw [hn] at q3
  refine ⟨g A, q1, q2, q3, fun w' hb hL hk hone hw hnew => ⟨g, hb, fun j e' hj hk' => ?_, fun j s' z' n' t' hm' hj => ?_, fun p q hp hq hpq h1 h2 => ?_, fun p hp h1 => ?_⟩⟩
  · by_cases hij : j = i
    · subst hij; rw [hk] at hk'; cases hk'
    · exact h.val j e' (by rwa [did_other hij] at hj) hk'
  · obtain ⟨n1, n2⟩ := hone _ hm'
    simp only at n1 n2
    rw [did_other n1] at hj
    obtain ⟨r1, r2, r3⟩ := h.box j s' z' n' t' hm' hj
    by_cases e : s' = i
    · have he := n2 (.inl e)
      cases he
      rw [did_same hL]
      exact ⟨r1, r2, hnew⟩
    · rw [did_other e]
      refine ⟨r1, r2, (hw _ ?_).trans r3⟩
      intro eg
      by_cases ejA : j = A
      · have he := n2 (.inr ejA)
        cases he
        exact e rfl
      · exact h.apart (j, s', z', n', t') (A, i, z, n, t) hm' hm ejA hj hd eg
  · rw [did_other (hone p hp).1] at h1
    rw [did_other (hone q hq).1] at h2
    exact h.apart p q hp hq hpq h1 h2
  · rw [did_other (hone p hp).1]
    by_cases e : p.2.1 = i
    · have := (hone p hp).2 (.inl e)
      rw [this]
      exact hd
    · rw [did_other e] at h1
      exact h.behind p hp h1

theorem RB.got {S : Boxes} {WB w : World} {L : Array Bool} {l : List Value} (h : RB S WB L l w) (i : Nat) {e : Value} (hd : did L i = true) (hk : S.kd[i]? = some (some e)) : nth l i = e := by
  obtain ⟨g, h⟩ := h
  exact h.val i e hd hk

end Go.Proofs.Ytlnkflmnjkmhkaa

/-
  Regions that draw their order, call a store's functions and lay what is told into new slices: what holds whatever has been done.
-/
namespace Go.Proofs.Ytlnkflmnjkmhkaa
open Go.RowKit Go.Maps

/-- What an operation yields: a known value; a vector; a new slice of one known cell; a new slice of what others yield; the same as another. -/
inductive Kd
  | eq (v : Value)
  | vec (xs : List Int)
  | one (t : TypeId) (z : Value)
  | arr (t : TypeId) (js : List Nat)
  | same (j : Nat)

def Kd.ok (L : Array Bool) (l : List Value) (O : Nat → Prop) (w : World) (i : Nat) : Kd → Prop
  | .eq v => nth l i = v
  | .vec xs => IVecX w O (nth l i) xs
  | .one t z => ∃ g, nth l i = .slice (some ⟨g, 0, none⟩) 1 1 ∧ ¬ O g ∧ w.heap[g]? = some (.cells #[z] t (0, 0))
  | .arr t js => (∀ j ∈ js, did L j = true) ∧ ∃ g, nth l i = .slice (some ⟨g, 0, none⟩) js.length js.length ∧ ¬ O g ∧ w.heap[g]? = some (.cells (js.map (nth l)).toArray t (0, 0))
  | .same j => did L j = true ∧ nth l i = nth l j

structure StoR where
  kd : List Kd
  cs : List Nat
  st : Nat → BS

structure RSg (S : StoR) (b : Nat) (O2 : Nat → Prop) (WB : World) (L : Array Bool) (l : List Value) (w : World) (k : Nat) (O : Nat → Prop) : Prop where
  sto : Sto w b O (S.st k)
  ext : Ext O2 O WB w
  stage : ∀ j c, S.cs[j]? = some c → did L c = decide (j < k)
  ok : ∀ i e, did L i = true → S.kd[i]? = some e → e.ok L l O w i
def RS (S : StoR) (b : Nat) (O2 : Nat → Prop) (WB : World) (L : Array Bool) (l : List Value) (w : World) : Prop := ∃ k O, RSg S b O2 WB L l w k O

variable {S : StoR} {b : Nat} {O2 O O' : Nat → Prop} {WB w w' : World} {L : Array Bool} {l : List Value} {k : Nat}

theorem RS.init (h : ∀ i, did L i = false) (hs : Sto WB b O2 (S.st 0)) (hb : Below WB.heap.size WB w) : RS S b O2 WB L l w :=
  ⟨0, O2, hs.below hb, Ext.of_below hb, (fun j c _ => by rw [h]; simp), fun i e h1 => by rw [h] at h1; cases h1⟩

theorem Kd.old {e : Kd} {i j : Nat} {v : Value} (h : e.ok L l O w j) (he : Ext O O' w w') (hn : did L i = false) (hj : did L j = true) : e.ok (L.setIfInBounds i true) (l.set i v) O' w' j := by
  have ij : i ≠ j := fun q => by rw [q, hj] at hn; cases hn
  have keep : ∀ j, did L j = true → did (L.setIfInBounds i true) j = true ∧ nth (l.set i v) j = nth l j := fun j hj => by
    have ij : i ≠ j := fun q => by rw [q, hj] at hn; cases hn
    exact ⟨by rw [did_other (fun q => ij q.symm)]; exact hj, nth_other ij⟩
  have blk : ∀ g (o : Obj), ¬ O g → w.heap[g]? = some o → ¬ O' g ∧ w'.heap[g]? = some o := fun g o hg hw => by
    have hl := lt_of_block hw
    refine ⟨fun hO => ?_, (he.1.block g hl hg).trans hw⟩
    rcases he.2 g hO with q | q
    · exact hg q
    · omega
  cases e with
  | eq v => exact (nth_other ij).trans h
  | vec xs => show IVecX w' O' (nth (l.set i _) j) xs; rw [nth_other ij]; exact IVecX.ext h he
  | one t z =>
    obtain ⟨g, q1, q2, q3⟩ := h
    exact ⟨g, (nth_other ij).trans q1, blk g _ q2 q3⟩
  | arr t js =>
    obtain ⟨q0, g, q1, q2, q3⟩ := h
    refine ⟨fun j hj => (keep j (q0 j hj)).1, g, (nth_other ij).trans q1, ?_⟩
    have e : js.map (nth (l.set i v)) = js.map (nth l) := List.map_congr_left fun j hj => (keep j (q0 j hj)).2
    rw [e]
    exact blk g _ q2 q3
  | same m => exact ⟨(keep m h.1).1, by rw [(keep j hj).2, (keep m h.1).2]; exact h.2⟩

/-- Behind an operation that is no call of the store's. -/
theorem RS.quiet (i : Nat) (v : Value) (h : RS S b O2 WB L l w) (hn : did L i = false) (hc : (S.cs.all fun c => decide (c ≠ i)) = true) (hb : Below w.heap.size w w')
    (hnew : ∀ O e, (∀ g, O g → g < w.heap.size) → S.kd[i]? = some e → e.ok (L.setIfInBounds i true) (l.set i v) O w' i) : RS S b O2 WB (L.setIfInBounds i true) (l.set i v) w' := by
  obtain ⟨k, O, h⟩ := h
  refine ⟨k, O, h.sto.below hb, h.ext.trans (Ext.of_below hb), fun j c hj => ?_, fun j e hj hk => ?_⟩
  · have : c ≠ i := by
      have := List.all_eq_true.1 hc c (List.mem_of_getElem? hj)
      simpa using this
    rw [did_other this]
    exact h.stage j c hj
  · by_cases ij : j = i
    · subst ij; exact hnew O e (fun g hg => h.sto.lt g hg) hk
    · rw [did_other ij] at hj
      exact Kd.old (h.ok j e hj hk) (Ext.of_below hb) hn hj

/-- A known value. -/
theorem RS.val (i : Nat) (v : Value) (h : RS S b O2 WB L l w) (hn : did L i = false) (hl : i < l.length) (hc : (S.cs.all fun c => decide (c ≠ i)) = true) (hk : S.kd[i]? = some (.eq v)) (hb : Below w.heap.size w w') : RS S b O2 WB (L.setIfInBounds i true) (l.set i v) w' :=
  h.quiet i v hn hc hb fun O e _ he => by rw [hk] at he; cases he; exact nth_same hl
/-- The same as another. -/
theorem RS.copy (i j : Nat) (h : RS S b O2 WB L l w) (hn : did L i = false) (hj : did L j = true) (hl : i < l.length) (hc : (S.cs.all fun c => decide (c ≠ i)) = true) (hk : S.kd[i]? = some (.same j)) : RS S b O2 WB (L.setIfInBounds i true) (l.set i (nth l j)) w :=
  h.quiet i _ hn hc (Below.refl _ _) fun O e _ he => by
    rw [hk] at he; cases he
    have ij : i ≠ j := fun q => by rw [q, hj] at hn; cases hn
    exact ⟨by rw [did_other (fun q => ij q.symm)]; exact hj, by rw [nth_same hl, nth_other ij]⟩
/-- A new slice of one cell. -/
theorem RS.one (i : Nat) (t : TypeId) (z : Value) (h : RS S b O2 WB L l w) (hn : did L i = false) (hl : i < l.length) (hc : (S.cs.all fun c => decide (c ≠ i)) = true) (hk : S.kd[i]? = some (.one t z)) :
    RS S b O2 WB (L.setIfInBounds i true) (l.set i (.slice (some ⟨w.heap.size, 0, none⟩) 1 1)) (w.alloc (.cells #[z] t)) :=
  h.quiet i _ hn hc ((Below.refl _ _).alloc (Nat.le_refl _) _) fun O e hO he => by
    rw [hk] at he; cases he
    exact ⟨w.heap.size, nth_same hl, fun hg => Nat.lt_irrefl _ (hO _ hg), heap_new w _⟩
/-- A new slice of what others yield. -/
theorem RS.arr (i : Nat) (t : TypeId) (js : List Nat) (cs : Array Value) (n : Nat) (h : RS S b O2 WB L l w) (hn : did L i = false) (hl : i < l.length) (hc : (S.cs.all fun c => decide (c ≠ i)) = true) (hk : S.kd[i]? = some (.arr t js)) (hd : ∀ j ∈ js, did L j = true) (hcs : cs = (js.map (nth l)).toArray) (hlen : n = js.length) :
    RS S b O2 WB (L.setIfInBounds i true) (l.set i (.slice (some ⟨w.heap.size, 0, none⟩) n n)) (w.alloc (.cells cs t)) :=
  h.quiet i _ hn hc ((Below.refl _ _).alloc (Nat.le_refl _) _) fun O e hO he => by
    rw [hk] at he; cases he
    have ij : ∀ j ∈ js, i ≠ j := fun j hj q => by rw [q, hd j hj] at hn; cases hn
    refine ⟨fun j hj => by rw [did_other (fun q => ij j hj q.symm)]; exact hd j hj, w.heap.size, by rw [nth_same hl, hlen], fun hg => Nat.lt_irrefl _ (hO _ hg), ?_⟩
    rw [show js.map (nth (l.set i (.slice (some ⟨w.heap.size, 0, none⟩) n n))) = js.map (nth l) from List.map_congr_left fun j hj => nth_other (ij j hj), hcs]
    exact heap_new w _

/-- The store ahead of call j, and behind it. -/
theorem RS.call (i j : Nat) (h : RS S b O2 WB L l w) (hn : did L i = false) (hi : S.cs[j]? = some i) (hp : ∀ m, m < j → ∃ c, S.cs[m]? = some c ∧ did L c = true) :
    ∃ O, Sto w b O (S.st j) ∧ Ext O2 O WB w ∧ (∀ v O' w', i < L.size → i < l.length → Ext O O' w w' → Sto w' b O' (S.st (j + 1)) → (∀ a c, S.cs[a]? = some c → c = i → a = j) →
      (∀ e, S.kd[i]? = some e → e.ok (L.setIfInBounds i true) (l.set i v) O' w' i) → RS S b O2 WB (L.setIfInBounds i true) (l.set i v) w') := by
  obtain ⟨k, O, h⟩ := h
  have hk : k = j := by
    have h1 := h.stage j i hi
    rw [hn] at h1
    have h2 : ¬ j < k := by simpa using h1.symm
    rcases Nat.lt_or_ge k j with hlt | hge
    · obtain ⟨c, h3, h4⟩ := hp k hlt
      have := h.stage k c h3
      rw [h4] at this
      simp at this
    · omega
  subst hk
  refine ⟨O, h.sto, h.ext, fun v O' w' hL hl he hs huniq hnew => ⟨k + 1, O', hs, h.ext.trans he, fun a c ha => ?_, fun m e hm hke => ?_⟩⟩
  · by_cases hc : c = i
    · have := huniq a c ha hc
      subst this hc
      rw [did_same hL]
      simp
    · rw [did_other hc, h.stage a c ha]
      have : a ≠ k := fun q => by subst q; rw [hi] at ha; cases ha; exact hc rfl
      congr 1
      apply propext
      omega
  · by_cases hmi : m = i
    · subst hmi; exact hnew e hke
    · rw [did_other hmi] at hm
      exact Kd.old (h.ok m e hm hke) he hn hm

theorem did_none (n i : Nat) : did (Array.replicate n false) i = false := by
  unfold did
  rw [Array.getD_eq_getD_getElem?, Array.getElem?_replicate]
  split <;> rfl
theorem did_all (n i : Nat) (h : i < n) : did (Array.replicate n true) i = true := by
  unfold did
  rw [Array.getD_eq_getD_getElem?, Array.getElem?_replicate, if_pos h]
  rfl

theorem RS.got (h : RS S b O2 WB L l w) (i : Nat) {v : Value} (hd : did L i = true) (hk : S.kd[i]? = some (.eq v)) : nth l i = v := by
  obtain ⟨k, O, h⟩ := h
  exact h.ok i _ hd hk
theorem RS.isVec (h : RS S b O2 WB L l w) (i : Nat) {xs : List Int} (hd : did L i = true) (hk : S.kd[i]? = some (.vec xs)) : ∃ p n c, nth l i = .slice p n c := by
  obtain ⟨k, O, h⟩ := h
  obtain ⟨⟨p, c, e, -⟩, -⟩ : IVecX w O (nth l i) xs := h.ok i _ hd hk
  exact ⟨_, _, _, e⟩
theorem RS.isOne (h : RS S b O2 WB L l w) (i : Nat) {t : TypeId} {z : Value} (hd : did L i = true) (hk : S.kd[i]? = some (.one t z)) : ∃ g, nth l i = .slice (some ⟨g, 0, none⟩) 1 1 := by
  obtain ⟨k, O, h⟩ := h
  obtain ⟨g, e, -⟩ : ∃ g, nth l i = .slice (some ⟨g, 0, none⟩) 1 1 ∧ ¬ O g ∧ w.heap[g]? = some (.cells #[z] t (0, 0)) := h.ok i _ hd hk
  exact ⟨g, e⟩
theorem RS.cell (h : RS S b O2 WB L l w) {p : Addr} (hp : p.block < WB.heap.size) (hO : ¬ O2 p.block) : w.cell? p = WB.cell? p := by
  obtain ⟨k, O, h⟩ := h
  exact (h.ext.cell hp hO).1
theorem RS.chain (h : RS S b O2 WB L l w) (j : Nat) {c : Nat} (hd : did L c = true) (hc : S.cs[j]? = some c) : ∀ m, m < j + 1 → ∃ c, S.cs[m]? = some c ∧ did L c = true := by
  obtain ⟨k, O, h⟩ := h
  intro m hm
  have h1 := h.stage j c hc
  rw [hd] at h1
  have h2 : j < k := by simpa using h1.symm
  have hl : j < S.cs.length := (List.getElem?_eq_some_iff.1 hc).1
  refine ⟨S.cs[m], List.getElem?_eq_getElem (by omega), ?_⟩
  rw [h.stage m _ (List.getElem?_eq_getElem (by omega))]
  simp
  omega
theorem RS.uniq {l : List Nat} (h : l.Nodup) {a j c : Nat} (ha : l[a]? = some c) (hj : l[j]? = some c) : a = j := by
  obtain ⟨h1, e1⟩ := List.getElem?_eq_some_iff.1 ha
  obtain ⟨h2, e2⟩ := List.getElem?_eq_some_iff.1 hj
  exact (List.getElem_inj h).1 (e1.trans e2.symm)
theorem Kd.all {e : Kd} {i n : Nat} (h : e.ok L l O w i) (hj : ∀ j, did L j = true → did (Array.replicate n true) j = true) : e.ok (Array.replicate n true) l O w i := by
  cases e with
  | eq v => exact h
  | vec xs => exact h
  | one t z => exact h
  | arr t js => exact ⟨fun j hm => hj j (h.1 j hm), h.2⟩
  | same m => exact ⟨hj m h.1, h.2⟩
theorem RS.whole (h : RS S b O2 WB L l w) (n : Nat) (hall : ∀ i, i < n → did L i = true) (hL : L.size = n) (hcs : (S.cs.all fun c => decide (c < n)) = true) : RS S b O2 WB (Array.replicate n true) l w := by
  obtain ⟨k, O, h⟩ := h
  have hlt : ∀ j, did L j = true → j < n := fun j hj => by
    unfold did at hj
    rcases Nat.lt_or_ge j n with h | h
    · exact h
    · rw [Array.getD_eq_getD_getElem?, Array.getElem?_eq_none (by omega)] at hj; cases hj
  have hn : ∀ j, did (Array.replicate n true) j = true → j < n := fun j hj => by
    unfold did at hj
    rw [Array.getD_eq_getD_getElem?, Array.getElem?_replicate] at hj
    split at hj
    · assumption
    · cases hj
  refine ⟨k, O, h.sto, h.ext, fun j c hj => ?_, fun i e hd hk => ?_⟩
  · have hc : c < n := by
      have := List.all_eq_true.1 hcs c (List.mem_of_getElem? hj)
      simpa using this
    rw [← h.stage j c hj, did_all n c hc, hall c hc]
  · exact Kd.all (h.ok i e (hall i (hn i hd)) hk) fun j hj => did_all n j (hlt j hj)

end Go.Proofs.Ytlnkflmnjkmhkaa

/-
  Regions that draw their order and make two calls, one behind the other, of which each turns all of memory: what holds whatever has been done.
-/
namespace Go.Proofs.Ytlnkflmnjkmhkaa
open Go.RowKit Go.Maps

inductive Kp
  | eq (v : Value)
  | same (j : Nat)
  | free

def Kp.ok (L : Array Bool) (l : List Value) (i : Nat) : Kp → Prop
  | .eq v => nth l i = v
  | .same j => did L j = true ∧ nth l i = nth l j
  | .free => True

structure StP where
  kd : List Kp
  c0 : Nat
  c1 : Nat
  ph : Nat → Value → Value → World → Prop

structure RPg (S : StP) (L : Array Bool) (l : List Value) (w : World) (k : Nat) : Prop where
  ph : S.ph k (nth l S.c0) (nth l S.c1) w
  st0 : did L S.c0 = decide (0 < k)
  st1 : did L S.c1 = decide (1 < k)
  ok : ∀ i e, did L i = true → S.kd[i]? = some e → e.ok L l i
def RP (S : StP) (L : Array Bool) (l : List Value) (w : World) : Prop := ∃ k, RPg S L l w k
def StP.Later (S : StP) : Prop := ∀ k x y (w w' : World), S.ph k x y w → Below w.heap.size w w' → S.ph k x y w'

variable {S : StP} {w w' : World} {L : Array Bool} {l : List Value}

theorem RP.init (h : ∀ i, did L i = false) (hp : ∀ x y, S.ph 0 x y w) : RP S L l w :=
  ⟨0, hp _ _, by rw [h]; simp, by rw [h]; simp, fun i e h1 => by rw [h] at h1; cases h1⟩

theorem Kp.old {e : Kp} {i j : Nat} {v : Value} (h : e.ok L l j) (hn : did L i = false) (hj : did L j = true) : e.ok (L.setIfInBounds i true) (l.set i v) j := by
  have ij : i ≠ j := fun q => by rw [q, hj] at hn; cases hn
  cases e with
  | eq v => exact (nth_other ij).trans h
  | same m =>
    have im : i ≠ m := fun q => by have := h.1; rw [← q, hn] at this; cases this
    exact ⟨by rw [did_other (fun q => im q.symm)]; exact h.1, by rw [nth_other ij, nth_other im]; exact h.2⟩
  | free => trivial

theorem RP.quiet (i : Nat) (v : Value) (h : RP S L l w) (hn : did L i = false) (h0 : S.c0 ≠ i) (h1 : S.c1 ≠ i) (hl : StP.Later S) (hb : Below w.heap.size w w')
    (hnew : ∀ e, S.kd[i]? = some e → e.ok (L.setIfInBounds i true) (l.set i v) i) : RP S (L.setIfInBounds i true) (l.set i v) w' := by
  obtain ⟨k, h⟩ := h
  refine ⟨k, ?_, by rw [did_other h0]; exact h.st0, by rw [did_other h1]; exact h.st1, fun j e hj hk => ?_⟩
  · rw [nth_other h0.symm, nth_other h1.symm]
    exact hl _ _ _ _ _ h.ph hb
  · by_cases ij : j = i
    · subst ij; exact hnew e hk
    · rw [did_other ij] at hj
      exact Kp.old (h.ok j e hj hk) hn hj
theorem RP.val (i : Nat) (v : Value) (h : RP S L l w) (hn : did L i = false) (h0 : S.c0 ≠ i) (h1 : S.c1 ≠ i) (hl : StP.Later S) (hb : Below w.heap.size w w') (hlen : i < l.length) (hk : S.kd[i]? = some (.eq v)) : RP S (L.setIfInBounds i true) (l.set i v) w' :=
  h.quiet i v hn h0 h1 hl hb fun e he => by rw [hk] at he; cases he; exact nth_same hlen
theorem RP.copy (i j : Nat) (h : RP S L l w) (hn : did L i = false) (hj : did L j = true) (h0 : S.c0 ≠ i) (h1 : S.c1 ≠ i) (hl : StP.Later S) (hlen : i < l.length) (hk : S.kd[i]? = some (.same j)) : RP S (L.setIfInBounds i true) (l.set i (nth l j)) w :=
  h.quiet i _ hn h0 h1 hl (Below.refl _ _) fun e he => by
    rw [hk] at he; cases he
    have ij : i ≠ j := fun q => by rw [q, hj] at hn; cases hn
    exact ⟨by rw [did_other (fun q => ij q.symm)]; exact hj, by rw [nth_same hlen, nth_other ij]⟩
theorem RP.got (h : RP S L l w) (i : Nat) {v : Value} (hd : did L i = true) (hk : S.kd[i]? = some (.eq v)) : nth l i = v := by
  obtain ⟨k, h⟩ := h
  exact h.ok i _ hd hk
theorem RP.any (h : RP S L l w) : ∃ k x y, S.ph k x y w := by
  obtain ⟨k, h⟩ := h
  exact ⟨_, _, _, h.ph⟩
theorem RP.call0 (i : Nat) (h : RP S L l w) (hi : S.c0 = i) (hn : did L i = false) : ∃ x y, S.ph 0 x y w ∧ ∀ v w', i < L.size → i < l.length → S.c0 ≠ S.c1 → S.kd[i]? = some .free → S.ph 1 v y w' → RP S (L.setIfInBounds i true) (l.set i v) w' := by
  subst hi
  obtain ⟨k, h⟩ := h
  obtain rfl : k = 0 := by
    have h1 := h.st0
    rw [hn] at h1
    have h2 : ¬ 0 < k := by simpa using h1.symm
    omega
  refine ⟨_, _, h.ph, fun v w' hL hl hne hf hp => ⟨1, ?_, by rw [did_same hL]; rfl, by rw [did_other hne.symm, h.st1]; rfl, fun m e hm hke => ?_⟩⟩
  · rw [nth_same hl, nth_other hne]; exact hp
  · by_cases hmi : m = S.c0
    · subst hmi; rw [hf] at hke; cases hke; trivial
    · rw [did_other hmi] at hm
      exact Kp.old (h.ok m e hm hke) hn hm
theorem RP.call1 (i : Nat) (h : RP S L l w) (hi : S.c1 = i) (hn : did L i = false) (h0 : did L S.c0 = true) : ∃ x y, S.ph 1 x y w ∧ ∀ v w', i < L.size → i < l.length → S.c0 ≠ S.c1 → S.kd[i]? = some .free → S.ph 2 x v w' → RP S (L.setIfInBounds i true) (l.set i v) w' := by
  subst hi
  obtain ⟨k, h⟩ := h
  obtain rfl : k = 1 := by
    have h1 := h.st0
    have h2 := h.st1
    rw [hn] at h2
    rw [h0] at h1
    have h3 : ¬ 1 < k := by simpa using h2.symm
    have h4 : 0 < k := by simpa using h1.symm
    omega
  refine ⟨_, _, h.ph, fun v w' hL hl hne hf hp => ⟨2, ?_, by rw [did_other hne, h.st0]; rfl, by rw [did_same hL]; rfl, fun m e hm hke => ?_⟩⟩
  · rw [nth_same hl, nth_other hne.symm]; exact hp
  · by_cases hmi : m = S.c1
    · subst hmi; rw [hf] at hke; cases hke; trivial
    · rw [did_other hmi] at hm
      exact Kp.old (h.ok m e hm hke) hn hm
theorem RP.ends (h : RP S L l w) (h1 : did L S.c1 = true) : ∃ k, 1 < k ∧ S.ph k (nth l S.c0) (nth l S.c1) w := by
  obtain ⟨k, h⟩ := h
  have := h.st1
  rw [h1] at this
  exact ⟨k, by simpa using this.symm, h.ph⟩
theorem RP.same (h : RP S L l w) (i j : Nat) (hd : did L i = true) (hk : S.kd[i]? = some (.same j)) : nth l i = nth l j := by
  obtain ⟨k, h⟩ := h
  exact (h.ok i _ hd hk).2

end Go.Proofs.Ytlnkflmnjkmhkaa
