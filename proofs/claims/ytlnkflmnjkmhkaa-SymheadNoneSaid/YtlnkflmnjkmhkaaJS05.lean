/-
  Lemmas, joined: RegS, RegQ, Zip, VecNil, ZipS, VecS, VecS2, VecS3, Pairs, Fold, Dead, SumD, NumSh, Eval, Eval2, SymopD, SymopD2, VecP.
-/
import Derived.Test.YtlnkflmnjkmhkaaJS04
import Derived.Test.YtlnkflmnjkmhkaaJS01
import Derived.Test.YtlnkflmnjkmhkaaJS03
import Derived.Laws.CopyOwn
import Derived.Laws.AppendOwnNone
/-
  Regions that draw their order, call a store's functions and lay what is told into new slices: what holds whatever has been done.
-/
namespace Go.Proofs.Ytlnkflmnjkmhkaa
open Go.RowKit Go.Maps

/-- What an operation yields: a known value; a vector; a new slice of one known cell; a new slice of what others yield; the same as another. -/
inductive Kd
  | eq (v : Value)
  | vec (xs : List Int)
  | one (t : TypeId) (z : Value)
  | arr (t : TypeId) (js : List Nat)
  | same (j : Nat)

structure StoR where
  kd : List Kd
  cs : List Nat
  st : Nat → BS

variable {S : StoR} {b : Nat} {O2 O O' : Nat → Prop} {WB w w' : World} {L : Array Bool} {l : List Value} {k : Nat}

theorem did_none (n i : Nat) : did (Array.replicate n false) i = false := by
  unfold did
  rw [Array.getD_eq_getD_getElem?, Array.getElem?_replicate]
  split <;> rfl
end Go.Proofs.Ytlnkflmnjkmhkaa

/-
  Regions that draw their order, of which some operations turn memory, one behind the other in a forced order: what holds whatever has been done.
-/
namespace Go.Proofs.Ytlnkflmnjkmhkaa
open Go.RowKit Go.Maps

/-- What is known of what an operation yields: a value; what another one yields; something of it in memory; nothing. -/
inductive Kq
  | eq (v : Value)
  | same (j : Nat)
  | fn (js : List Nat) (F : List Value → Value)
  | new (P : World → Value → Prop)
  | free

def Kq.ok (w : World) (L : Array Bool) (l : List Value) (i : Nat) : Kq → Prop
  | .eq v => nth l i = v
  | .same j => did L j = true ∧ nth l i = nth l j
  | .fn js F => (∀ j ∈ js, did L j = true) ∧ nth l i = F (js.map (nth l))
  | .new P => P w (nth l i)
  | .free => True

/-- kd: what is known of each one; acts: those that turn memory, in their order; dep: what each act asks to be done; ph: what holds behind so many acts, of what they yielded. -/
structure StQ where
  kd : List Kq
  acts : List Nat
  dep : List (List Nat)
  ph : Nat → (Nat → Value) → World → Prop

def StQ.vals (S : StQ) (l : List Value) (j : Nat) : Value := nth l (S.acts.getD j 0)
structure RQg (S : StQ) (L : Array Bool) (l : List Value) (w : World) (k : Nat) : Prop where
  ph : S.ph k (S.vals l) w
  le : k ≤ S.acts.length
  st : ∀ j, j < S.acts.length → did L (S.acts.getD j 0) = decide (j < k)
  ok : ∀ i e, did L i = true → S.kd[i]? = some e → e.ok w L l i
  dp : ∀ j ds, j < k → S.dep[j]? = some ds → ∀ i ∈ ds, did L i = true
def RQ (S : StQ) (L : Array Bool) (l : List Value) (w : World) : Prop := ∃ k, RQg S L l w k

structure StQ.Fine (S : StQ) : Prop where
  loc : ∀ k f g w, (∀ j, j < k → f j = g j) → S.ph k f w → S.ph k g w
  later : ∀ k f w w', S.ph k f w → Below w.heap.size w w' → S.ph k f w'
  new : ∀ (i : Nat) (P : World → Value → Prop), S.kd[i]? = some (Kq.new P) → ∀ w w' v, P w v → Below w.heap.size w w' → P w' v

variable {S : StQ} {w w' : World} {L : Array Bool} {l : List Value}

theorem RQ.init (h : ∀ i, did L i = false) (hp : ∀ f, S.ph 0 f w) : RQ S L l w :=
  ⟨0, hp _, Nat.zero_le _, (fun j _ => by rw [h]; simp), (fun i e h1 => by rw [h] at h1; cases h1), fun j ds hj => absurd hj (Nat.not_lt_zero j)⟩

theorem Kq.old {e : Kq} {i j : Nat} {v : Value} (h : e.ok w L l j) (hn : did L i = false) (hj : did L j = true) (hw : ∀ P, e = Kq.new P → P w (nth l j) → P w' (nth l j)) : e.ok w' (L.setIfInBounds i true) (l.set i v) j := by
  have ij : i ≠ j := fun q => by rw [q, hj] at hn; cases hn
  cases e with
  | eq v => exact (nth_other ij).trans h
  | same m =>
    have im : i ≠ m := fun q => by have := h.1; rw [← q, hn] at this; cases this
    exact ⟨by rw [did_other (fun q => im q.symm)]; exact h.1, by rw [nth_other ij, nth_other im]; exact h.2⟩
  | fn js F =>
    have him : ∀ m ∈ js, i ≠ m := fun m hm q => by have := h.1 m hm; rw [← q, hn] at this; cases this
    refine ⟨fun m hm => by rw [did_other (fun q => him m hm q.symm)]; exact h.1 m hm, ?_⟩
    rw [nth_other ij, h.2, List.map_congr_left fun m hm => (nth_other (him m hm)).symm]
  | new P =>
    show P w' _
    rw [nth_other ij]
    exact hw P rfl h
  | free => trivial

theorem acts_ne {acts : List Nat} {i : Nat} (h : acts.all (fun c => decide (c ≠ i)) = true) (j : Nat) (hj : j < acts.length) : acts.getD j 0 ≠ i := by
  rw [List.all_eq_true] at h
  have : acts.getD j 0 = acts[j] := by simp [hj]
  rw [this]
  simpa using h _ (List.getElem_mem hj)

/-- An operation that turns nothing. -/
theorem RQ.quiet (i : Nat) (v : Value) (h : RQ S L l w) (hS : S.Fine) (hn : did L i = false) (ha : S.acts.all (fun c => decide (c ≠ i)) = true) (hb : Below w.heap.size w w')
    (hnew : ∀ e, S.kd[i]? = some e → e.ok w' (L.setIfInBounds i true) (l.set i v) i) : RQ S (L.setIfInBounds i true) (l.set i v) w' := by
  obtain ⟨k, h⟩ := h
  refine ⟨k, ?_, h.le, fun j hj => by rw [did_other (acts_ne ha j hj)]; exact h.st j hj, fun j e hj hk => ?_, fun j ds hj hd m hm => ?_⟩
  · refine hS.later _ _ _ _ (hS.loc _ _ _ _ (fun j hj => ?_) h.ph) hb
    unfold StQ.vals
    rw [nth_other (acts_ne ha j (Nat.lt_of_lt_of_le hj h.le)).symm]
  · by_cases ij : j = i
    · subst ij; exact hnew e hk
    · rw [did_other ij] at hj
      exact Kq.old (h.ok j e hj hk) hn hj fun P hP hv => hS.new j P (by rw [hk, hP]) w w' _ hv hb
  · have := h.dp j ds hj hd m hm
    by_cases e : m = i
    · subst e; rw [hn] at this; cases this
    · rw [did_other e]; exact this
theorem RQ.val (i : Nat) (v : Value) (h : RQ S L l w) (hS : S.Fine) (hn : did L i = false) (ha : S.acts.all (fun c => decide (c ≠ i)) = true) (hb : Below w.heap.size w w') (hlen : i < l.length) (hk : S.kd[i]? = some (.eq v)) : RQ S (L.setIfInBounds i true) (l.set i v) w' :=
  h.quiet i v hS hn ha hb fun e he => by rw [hk] at he; cases he; exact nth_same hlen
theorem RQ.got (h : RQ S L l w) (i : Nat) {v : Value} (hd : did L i = true) (hk : S.kd[i]? = some (.eq v)) : nth l i = v := by
  obtain ⟨k, h⟩ := h
  exact h.ok i _ hd hk
/-- Ahead of act m, which asks that i be done: at most m acts are done. -/
theorem RQ.early (h : RQ S L l w) (m i : Nat) {ds : List Nat} (hn : did L i = false) (hd : S.dep[m]? = some ds) (hi : i ∈ ds) : ∃ k, k ≤ m ∧ S.ph k (S.vals l) w := by
  obtain ⟨k, h⟩ := h
  refine ⟨k, Nat.le_of_not_lt fun hk => ?_, h.ph⟩
  have := h.dp m ds hk hd i hi
  rw [hn] at this; cases this
/-- Act j, at place i. -/
theorem RQ.act (j i : Nat) (h : RQ S L l w) (hS : S.Fine) (hj : j < S.acts.length) (hi : S.acts.getD j 0 = i) (hn : did L i = false) (hp : ∀ m, m + 1 = j → did L (S.acts.getD m 0) = true) :
    S.ph j (S.vals l) w ∧ ∀ v w', i < L.size → i < l.length → (∀ a b, a < S.acts.length → b < S.acts.length → S.acts.getD a 0 = S.acts.getD b 0 → a = b) → (∀ e, S.kd[i]? = some e → e.ok w' (L.setIfInBounds i true) (l.set i v) i) → (∀ ds, S.dep[j]? = some ds → ∀ m ∈ ds, did L m = true) →
      (∀ (m : Nat) (P : World → Value → Prop), S.kd[m]? = some (Kq.new P) → did L m = true → P w (nth l m) → P w' (nth l m)) → S.ph (j + 1) (fun m => if m = j then v else S.vals l m) w' → RQ S (L.setIfInBounds i true) (l.set i v) w' := by
  obtain ⟨k, h⟩ := h
  have e1 : ¬ j < k := by have := h.st j hj; rw [hi, hn] at this; simpa using this.symm
  have e2 : k = j := by
    cases j with
    | zero => omega
    | succ m =>
      have := h.st m (by omega)
      rw [hp m rfl] at this
      have : m < k := by simpa using this.symm
      omega
  subst e2
  refine ⟨h.ph, fun v w' hL hl hnd hf hdep hnew hph => ⟨k + 1, ?_, hj, fun m hm => ?_, fun m e hm hke => ?_, fun m ds hm hd x hx => ?_⟩⟩
  · refine hS.loc _ _ _ _ (fun m hm => ?_) hph
    unfold StQ.vals
    by_cases e : m = k
    · subst e; rw [if_pos rfl, hi, nth_same hl]
    · rw [if_neg e, nth_other fun q => e (hnd m k (by omega) hj (by rw [hi, q]))]
  · by_cases e : m = k
    · subst e; rw [hi, did_same hL]; simp
    · rw [did_other fun q => e (hnd m k hm hj (by rw [hi, q])), h.st m hm]
      have : decide (m < k + 1) = decide (m < k) := by simp; omega
      rw [this]
  · by_cases hmi : m = i
    · subst hmi; exact hf e hke
    · rw [did_other hmi] at hm
      exact Kq.old (h.ok m e hm hke) hn hm fun P hP hu => hnew m P (by rw [hke, hP]) hm hu
  · have hdx : did L x = true := by
      by_cases e : m = k
      · subst e; exact hdep ds hd x hx
      · exact h.dp m ds (by omega) hd x hx
    by_cases e : x = i
    · subst e; rw [hn] at hdx; cases hdx
    · rw [did_other e]; exact hdx
theorem RQ.ends (h : RQ S L l w) (hd : ∀ j, j < S.acts.length → did L (S.acts.getD j 0) = true) : S.ph S.acts.length (S.vals l) w := by
  obtain ⟨k, h⟩ := h
  have : k = S.acts.length := by
    refine Nat.le_antisymm h.le (Nat.le_of_not_lt fun q => ?_)
    have h1 := h.st k q
    rw [hd k q] at h1
    simp at h1
  rw [this] at h
  exact h.ph

/-- .. and act m is not done. -/
theorem RQ.notyet (h : RQ S L l w) (m i : Nat) {ds : List Nat} (hm : m < S.acts.length) (hn : did L i = false) (hd : S.dep[m]? = some ds) (hi : i ∈ ds) : did L (S.acts.getD m 0) = false := by
  obtain ⟨k, h⟩ := h
  rw [h.st m hm]
  have : ¬ m < k := fun hk => by
    have := h.dp m ds hk hd i hi
    rw [hn] at this; cases this
  simp; omega

theorem wp_region_inv2 {P : Program} {ops : Array Oper} {Q : Exit → Act → World → Prop} {id : Nat} {a : Act} {w : World} (hm : P.follows .mixedOrders = true) (I : Array Bool → Act → World → Prop)
    (h0 : I (Array.replicate ops.size false) a w.drew)
    (hstep : ∀ L a w i, L.size = ops.size → i < ops.size → did L i = false → (∀ o, ops[i]? = some o → ∀ e ∈ o.after, Region.binds .any e = true → did L e.on = true) → I L a w → wpOp P ops Q i (I (L.setIfInBounds i true)) a w)
    (hback : ∀ (i : Nat) (o : Oper), ops[i]? = some o → ∀ e ∈ o.after, Region.binds .any e = true → e.on < i)
    (hend : ∀ L a w, (∀ i, i < ops.size → did L i = true) → I L a w → Q .normal a w) : (Code.region id ops true).wp P Q a w := by
  refine wp_region_any hm (wpAny_inv I hstep (fun L a w hL hr hI => hend L a w ?_ hI) ops.size _ a _ (by simp) (fun i hi _ => by omega) ?_ ?_ h0)
  · intro i
    induction i using Nat.strongRecOn with
    | _ i ih =>
      intro hi
      cases hd : did L i
      · exfalso
        have : i ∈ Region.ready .any ops L := by
          rw [mem_ready]
          refine ⟨?_, ops[i], Array.getElem?_eq_getElem hi, fun e he hb => ?_⟩
          · unfold did at hd
            simpa [hL, hi] using hd
          · have hlt := hback i _ (Array.getElem?_eq_getElem hi) e he hb
            exact ih e.on hlt (by omega)
        rw [hr] at this
        cases this
      · rfl
  · unfold Region.ready
    exact Nat.le_trans (List.length_filter_le _ _) (by simp)
  · exact Nat.le_trans (List.length_filter_le _ _) (by simp)

end Go.Proofs.Ytlnkflmnjkmhkaa

/-
  Contract of symbv.zip at two lists of integers, for any function value that hands back an integer and changes nothing that was.
-/
namespace Go.Proofs.Ytlnkflmnjkmhkaa
open Go.RowKit

theorem Try.infoInt : (Try.prog.info? 3).map (fun i => (i.zero, i.size, i.bytes)) = some (some (.int .i64 0), 1, 8) := by kernel_rfl

end Go.Proofs.Ytlnkflmnjkmhkaa

/-
  Contracts of package symbv at a store that is not there: each vector holds 0 alone.
-/
namespace Go.Proofs.Ytlnkflmnjkmhkaa
open Go.RowKit

theorem toList_madeCells_zero (n : Nat) : (madeCells (Value.int .i64 0).cells (n * 1)).toList = List.replicate n (Value.int .i64 0) := by
  rw [Nat.mul_one]; exact toList_madeCells_one _ n

end Go.Proofs.Ytlnkflmnjkmhkaa

/-
  symbv.zip at a store that is there: element by element, each call turns the store.
-/
namespace Go.Proofs.Ytlnkflmnjkmhkaa
open Go.RowKit Go.Maps

/-- Element by element; the store behind it, and what is told. -/
def zipS (g : BS → Int → Int → BS × Int) (xs ys : List Int) : Nat → BS → BS × List Int
  | 0, s => (s, [])
  | n + 1, s => ((g (zipS g xs ys n s).1 (xs.getD n 0) (ys.getD n 0)).1, (zipS g xs ys n s).2 ++ [(g (zipS g xs ys n s).1 (xs.getD n 0) (ys.getD n 0)).2])
/-- How a call ends that hands back a vector and turns the store. -/
def RetVS (b : Nat) (O : Nat → Prop) (w : World) (r : BS × List Int) (e : Ending) (w' : World) : Prop :=
  ∃ v O', e = .returned v ∧ IVecX w' O' v r.2 ∧ Sto w' b O' r.1 ∧ Ext O O' w w'

/-- A row of the call's own is beside the store's blocks, and stays where they turn. -/
theorem own_ext {w w' : World} {O O' : Nat → Prop} {base e size n : Nat} {v : Value} {xs : List Value} (h : w.ownsRow base e size v n xs) (hO : ∀ g, v.ownBlock = some g → ¬ O g) (he : Ext O O' w w') :
    w'.ownsRow base e size v n xs ∧ ∀ g, v.ownBlock = some g → ¬ O' g := by
  have hlt := h.lt
  refine ⟨?_, fun g hg hO' => ?_⟩
  · obtain ⟨hl, h⟩ := h
    refine ⟨hl, ?_⟩
    rcases h with h | ⟨g, cap, cur, h1, h2, h3, h4⟩
    · exact .inl h
    · have hg : v.ownBlock = some g := by rw [h1]; rfl
      exact .inr ⟨g, cap, cur, h1, h2, by rw [he.1.block g (hlt g hg).2 (hO g hg)]; exact h3, h4⟩
  · rcases he.2 g hO' with h1 | h1
    · exact hO g hg h1
    · have := (hlt g hg).2; omega

/-- What holds at a round's head: the store, the row, and that nothing beside them has changed. -/
def ZipAt (b : Nat) (O : Nat → Prop) (w : World) (g : BS → Int → Int → BS × Int) (xs ys : List Int) (s0 : BS) (M k : Nat) (wr : World) : Prop :=
  ∃ O', Sto wr b O' (zipS g xs ys k s0).1 ∧ Ext O O' w wr ∧ ¬ O' w.heap.size ∧ wr.ownsRow w.heap.size 3 1 (.slice (some ⟨w.heap.size, 0, none⟩) k M) k ((zipS g xs ys k s0).2.map (Value.int .i64))

/-- A call in a round. -/
theorem ZipAt.call {b : Nat} {O O1 O2 : Nat → Prop} {w wr w1 : World} {s1 : BS} {M k : Nat} {zs : List Value} (he : Ext O O1 w wr) (hg : ¬ O1 w.heap.size) (hown : wr.ownsRow w.heap.size 3 1 (.slice (some ⟨w.heap.size, 0, none⟩) k M) k zs)
    (hs : Sto w1 b O2 s1) (hx : Ext O1 O2 wr w1) : Ext O O2 w w1 ∧ ¬ O2 w.heap.size ∧ w1.ownsRow w.heap.size 3 1 (.slice (some ⟨w.heap.size, 0, none⟩) k M) k zs := by
  obtain ⟨h1, h2⟩ := own_ext hown (fun g h => by cases h; exact hg) hx
  exact ⟨he.trans hx, h2 _ rfl, h1⟩

end Go.Proofs.Ytlnkflmnjkmhkaa

/-
  Contracts of package symbv at a store that is there: And, Or, Xor, Mux, Not, Vars.
-/
namespace Go.Proofs.Ytlnkflmnjkmhkaa
open Go.RowKit Go.Maps

theorem own_call {b : Nat} {O O1 O2 : Nat → Prop} {w wr w1 : World} {s1 : BS} {M k : Nat} {zs : List Value} (he : Ext O O1 w wr) (hg : ¬ O1 w.heap.size) (hown : wr.ownsRow w.heap.size 3 1 (.slice (some ⟨w.heap.size, 0, none⟩) k M) k zs)
    (hs : Sto w1 b O2 s1) (hx : Ext O1 O2 wr w1) : Ext O O2 w w1 ∧ ¬ O2 w.heap.size ∧ w1.ownsRow w.heap.size 3 1 (.slice (some ⟨w.heap.size, 0, none⟩) k M) k zs := ZipAt.call he hg hown hs hx

theorem Ext.setNew {O O' : Nat → Prop} {w w1 : World} (h : Ext O O' w w1) {g j : Nat} (hg : w.heap.size ≤ g) (x : Value) : Ext O O' w (w1.setCell ⟨g, j, none⟩ x) :=
  ⟨⟨h.1.os, h.1.tape, h.1.output, by simpa [World.setCell] using h.1.size, fun k hk hO => (Below.heap_setCell w1 ⟨g, j, none⟩ x k (by show k ≠ g; omega)).trans (h.1.block k hk hO)⟩, h.2⟩
theorem Sto.setNew {w : World} {b : Nat} {O : Nat → Prop} {s : BS} (h : Sto w b O s) {g j : Nat} (hg : ¬ O g) (x : Value) : Sto (w.setCell ⟨g, j, none⟩ x) b O s :=
  h.kept fun k hk => Below.heap_setCell w ⟨g, j, none⟩ x k (fun e => hg (by rw [show g = k from e.symm]; exact hk))

/-- The cell that a round stores into. -/
theorem mapCell {w1 : World} {g k M : Nat} {zs : List Value} {e : TypeId} (hl : zs.length = M) (hk : k < M) (h : w1.ownsRow g e 1 (.slice (some ⟨g, 0, none⟩) M M) M zs) (z : Value) :
    (∃ x, w1.cell? ⟨g, k, none⟩ = some x) ∧ w1.frozen? ⟨g, k, none⟩ = false ∧ (w1.setCell ⟨g, k, none⟩ z).ownsRow g e 1 (.slice (some ⟨g, 0, none⟩) M M) M (zs.set k z) := by
  refine ⟨⟨zs[k]'(by omega), ?_⟩, h.frozenAt k, (h.stored k z).1⟩
  rw [h.cellAt k (by omega)]
  exact List.getElem?_eq_getElem (by omega)

end Go.Proofs.Ytlnkflmnjkmhkaa



/-
  Contract of symbv.Vars at a store that is there.
-/
namespace Go.Proofs.Ytlnkflmnjkmhkaa
open Go.RowKit Go.Maps

/-- The variables from first on, as many as n, in the order of their making. -/
def varsS (first : Int) : Nat → BS → BS × List Int
  | 0, s => (s, [])
  | n + 1, s => ((varF (varsS first n s).1 (wrap64 (first + n))).1, (varsS first n s).2 ++ [(varF (varsS first n s).1 (wrap64 (first + n))).2])
theorem varsS_len (first : Int) (n : Nat) (s : BS) : (varsS first n s).2.length = n := by
  induction n with
  | zero => rfl
  | succ n ih => simp [varsS, ih]

/-- A row of n that holds the last ones already. -/
def varTo (zs : List Int) (n : Nat) : List Value := (List.replicate (n - zs.length) 0 ++ zs.reverse).map (Value.int .i64)
theorem varTo_nil (n : Nat) : varTo [] n = List.replicate n (Value.int .i64 0) := by simp [varTo]
theorem varTo_full (zs : List Int) (n : Nat) (h : zs.length = n) : varTo zs n = zs.reverse.map (Value.int .i64) := by simp [varTo, h]
theorem varTo_set (zs : List Int) (n : Nat) (z : Int) (h : zs.length < n) : (varTo zs n).set (n - 1 - zs.length) (.int .i64 z) = varTo (zs ++ [z]) n := by
  unfold varTo
  obtain ⟨m, hm⟩ : ∃ m, n - zs.length = m + 1 := ⟨n - zs.length - 1, by omega⟩
  have h2 : n - (zs ++ [z]).length = m := by simp; omega
  have h3 : n - 1 - zs.length = m := by omega
  rw [h2, hm, h3, List.replicate_succ']
  simp only [List.map_append, List.map_replicate, List.map_cons, List.map_nil, List.reverse_append, List.reverse_cons, List.reverse_nil, List.nil_append, List.append_assoc]
  rw [List.set_append_right _ _ (by simp)]
  simp

def VarsAt (b : Nat) (O : Nat → Prop) (w : World) (r : BS × List Int) (M : Nat) (wr : World) : Prop :=
  ∃ O', Sto wr b O' r.1 ∧ Ext O O' w wr ∧ ¬ O' w.heap.size ∧ wr.ownsRow w.heap.size 3 1 (.slice (some ⟨w.heap.size, 0, none⟩) M M) M (varTo r.2 M)

theorem VarsAt.push {b : Nat} {O O2 : Nat → Prop} {w w1 : World} {s1 : BS} {zs : List Int} {z : Int} {M k : Nat} (hk : zs.length = k) (hl : k < M)
    (hs : Sto w1 b O2 s1) (he : Ext O O2 w w1) (hn : ¬ O2 w.heap.size) (hown : w1.ownsRow w.heap.size 3 1 (.slice (some ⟨w.heap.size, 0, none⟩) M M) M (varTo zs M)) :
    (∃ x, w1.cell? ⟨w.heap.size, M - 1 - k, none⟩ = some x) ∧ w1.frozen? ⟨w.heap.size, M - 1 - k, none⟩ = false ∧ VarsAt b O w (s1, zs ++ [z]) M (w1.setCell ⟨w.heap.size, M - 1 - k, none⟩ (.int .i64 z)) := by
  subst hk
  have hml : (varTo zs M).length = M := by unfold varTo; simp; omega
  obtain ⟨h1, h2, h3⟩ := mapCell hml (show M - 1 - zs.length < M by omega) hown (.int .i64 z)
  refine ⟨h1, h2, O2, hs.setNew hn _, he.setNew (Nat.le_refl _) _, hn, ?_⟩
  rw [varTo_set zs M z hl] at h3
  exact h3

set_option maxRecDepth 100000 in
set_option maxHeartbeats 1600000 in
theorem symbvVars_sto (b : Nat) (O : Nat → Prop) (s0 : BS) (first n : Int) (w : World) (hs : Sto w b O s0) (h0 : -9223372036854775808 ≤ n) (h1 : n ≤ 9223372036854775807) :
    Calls Try.prog 18 #[.pointer (some ⟨b, 0, none⟩), .int .i64 first, .int .i64 n] w (RetVS b O w ((varsS first (max 0 (min n 64)).toNat s0).1, (varsS first (max 0 (min n 64)).toNat s0).2.reverse)) := by
  obtain ⟨i0, hi, hz0, hz1, hz2⟩ := info_parts Try.infoInt
  have HS := Lib.hid hs
  clear hs
  obtain ⟨M, hM⟩ : ∃ M, M = (max 0 (min n 64)).toNat := ⟨_, rfl⟩
  have hM1 : M ≤ 64 := by omega
  have HM : Hid ((n ≤ 0 → M = 0) ∧ (0 ≤ n → n ≤ 64 → (M : Int) = n) ∧ (64 ≤ n → M = 64)) := ⟨by omega, by omega, by omega⟩
  rw [← hM]
  clear hM
  go_enter Try.func18, Try.ntmps18
  go_wp2_with (first
    | (at_make; refine wpList_make_full _ rfl _ _ 34 rfl w.heap.size 3 i0 (.int .i64 0) 1 Try.underlying34 hi hz0 hz1 .i64 .i64 _ _ M rfl rfl (by have := HM.out; omega) (by have := HM.out; omega) (by rw [hz2]; omega) (by unfold maxLen; omega) (Nat.le_refl _) ?_; intro w0 hown0 hgrow0))
  all_goals
    rw [toList_madeCells_zero] at hown0
    have H0 : Hid (VarsAt b O w (varsS first 0 s0) M w0) := ⟨O, HS.out.below ((Below.refl _ _).grown hgrow0 (Nat.le_refl _) (fun k h => by cases h)), Ext.of_below ((Below.refl _ _).grown hgrow0 (Nat.le_refl _) (fun k h => by cases h)), fun h => by have := HS.out.lt _ h; omega, by show w0.ownsRow _ _ _ _ _ (varTo [] _); rw [varTo_nil]; exact hown0⟩
    clear hown0 hgrow0
    go_loopw [15] (fun i wr => ∃ k : Nat, k ≤ M ∧ i = .int .i64 k ∧ Hid (VarsAt b O w (varsS first k s0) M wr))
      (fun i _ => M - (intOf i).toNat)
    case atStart => exact ⟨0, Nat.zero_le _, rfl, H0⟩
    case round =>
      obtain ⟨k, hk, rfl, HZ⟩ := hrel
      by_cases hlt : k < M
      · obtain ⟨O1, hs1, he1, hn1, hown1⟩ := HZ.out
        have HN : Hid (Calls Try.prog 10 #[.pointer (some ⟨b, 0, none⟩), .int .i64 (wrap64 (first + k))] wr (RetS b O1 wr (varF (varsS first k s0).1 (wrap64 (first + k))))) := var_sto b O1 _ _ wr hs1
        have HE1 := Lib.hid he1
        have HN1 := Lib.hid hn1
        have HO1 := Lib.hid hown1
        clear hs1 he1 hn1 hown1
        go_wp2_with fail
        refine HN.out.mono ?_
        rintro e w1 ⟨rfl, O2, hs2, hx2⟩
        obtain ⟨he2, hn2, hown2⟩ := own_call HE1.out HN1.out HO1.out hs2 hx2
        have hml : (varsS first k s0).2.length = k := varsS_len _ _ _
        obtain ⟨⟨x, z1⟩, z2, z3⟩ := VarsAt.push (z := (varF (varsS first k s0).1 (wrap64 (first + k))).2) hml hlt hs2 he2 hn2 hown2
        have HK : Hid (VarsAt b O w (varsS first (k + 1) s0) M (w1.setCell ⟨w.heap.size, M - 1 - k, none⟩ (.int .i64 (varF (varsS first k s0).1 (wrap64 (first + k))).2))) := z3
        clear hs2 hx2 he2 hn2 hown2 z3 hml
        go_wp2_with fail
        go_roundw
        case rel => exact ⟨k + 1, by omega, by go_num, HK⟩
        case measure => simp [intOf]; omega
      · obtain rfl : k = M := by omega
        go_wp2_with fail
        go_ret
        obtain ⟨O1, hs1, he1, hn1, hown1⟩ := HZ.out
        rw [varTo_full _ _ (varsS_len _ _ _)] at hown1
        exact ⟨_, O1, rfl, ⟨IVec.of_owns (by rw [List.length_reverse]; exact varsS_len _ _ _) hown1, fun j hj _ => by cases hj; exact hn1, NilOk.some _ _ _⟩, hs1, he1⟩

end Go.Proofs.Ytlnkflmnjkmhkaa







/-
  Contracts of symop.sum and its closure at a store that is not there, or is full: each bit is 0.
-/
namespace Go.Proofs.Ytlnkflmnjkmhkaa
open Go.RowKit Go.Maps

theorem own_setCell {w : World} {base e size n b j : Nat} {v : Value} {xs : List Value} (h : w.ownsRow base e size v n xs) (hne : v.ownBlock ≠ some b) (x : Value) : (w.setCell ⟨b, j, none⟩ x).ownsRow base e size v n xs := by
  obtain ⟨hl, h⟩ := h
  refine ⟨hl, ?_⟩
  rcases h with h | ⟨g, cap, cur, h1, h2, h3, h4⟩
  · exact .inl h
  · exact .inr ⟨g, cap, cur, h1, h2, (Below.heap_setCell w ⟨b, j, none⟩ x g (fun e => hne (by rw [h1]; show some g = some b; rw [e]))).trans h3, h4⟩

end Go.Proofs.Ytlnkflmnjkmhkaa





/-
  Contracts of bdd.New, Holds at a constant, num.Bit, symbv.Const, symbv.Eval and Is at a store that is there, of vectors of constants.
-/
namespace Go.Proofs.Ytlnkflmnjkmhkaa
open Go.RowKit

def newCells (a c : Nat) : Obj := .cells #[.int .i64 (c : Int), .slice none 0 0, .map (some a), .map (some (a + 1)), .bool false] 108
def newWorld (w : World) (c : Nat) : World := ((w.alloc (.map #[] 0)).alloc (.map #[] 0)).alloc (newCells w.heap.size c)

set_option maxRecDepth 100000 in
set_option maxHeartbeats 400000 in
theorem new_ok (c : Nat) (w : World) (h0 : 2 ≤ c) (h1 : c ≤ 1048576) :
    Calls Try.prog 8 #[.int .i64 (c : Int)] w fun e w' => e = .returned (.tuple #[.pointer (some ⟨w.heap.size + 2, 0, none⟩), .int .i64 0]) ∧ newWorld w c = w' := by
  have hmm := @run_makeMap Try.prog
  go_enter Try.func8, Try.ntmps8
  go_wp2
  go_ret2
  exact ⟨rfl, rfl⟩

set_option maxRecDepth 100000 in
set_option maxHeartbeats 400000 in
theorem width_any (k : Int) (w : World) : Calls Try.prog 79 #[.int .i64 k] w fun e w' => e = .returned (.int .i64 ((max 0 (min k 256)).toNat : Int)) ∧ w = w' := by
  have h1 : Hid (((max 0 (min k 256)).toNat : Int) = max 0 (min k 256)) := by show _ = _; omega
  go_enter Try.func79, Try.ntmps79
  go_wp2
  all_goals
    go_ret
    exact ⟨congrArg (fun x => Ending.returned (Value.int .i64 x)) (by first | omega | (rw [h1.out]; omega)), rfl⟩

end Go.Proofs.Ytlnkflmnjkmhkaa



/-
  Contracts of package symop's vectors at a store that is not there, or is full: all is 0.
-/
namespace Go.Proofs.Ytlnkflmnjkmhkaa
open Go.RowKit Go.Maps

theorem own_heap {w : World} {base e g n : Nat} {xs : List Value} (h : w.ownsRow base e 1 (.slice (some ⟨g, 0, none⟩) n n) n xs) : w.heap[g]? = some (.cells xs.toArray e (0, 0)) := by
  obtain ⟨hl, h | ⟨g', cap, cur, h1, h2, h3, h4, h5, h6, h7⟩⟩ := h
  · simp at h
  · simp only [Value.slice.injEq, Option.some.injEq, Addr.mk.injEq, and_true, true_and] at h1
    obtain ⟨rfl, rfl⟩ := h1
    rw [h3]
    have : cur.toList = xs := by
      rw [← h7, List.take_of_length_le (by simp; omega)]
    rw [← this]
theorem IVec.of_heap {w : World} {g n t : Nat} {zs : List Int} (hl : zs.length = n) (hn : n ≤ maxLen) (h : w.heap[g]? = some (.cells (zs.map (Value.int .i64)).toArray t (0, 0))) : IVec w (.slice (some ⟨g, 0, none⟩) n n) zs := by
  have hlt : g < w.heap.size := (Array.getElem?_eq_some_iff.1 h).1
  refine ⟨_, n, by rw [hl], by omega, hn, fun _ => ⟨g, 0, rfl, hlt, fun i hi => ?_⟩⟩
  simp [World.cell?, h, hi]

theorem copy_src {w : World} {pb : Option Addr} {cb : Nat} {ys : List Int} (h : IVec w (.slice pb ys.length cb) ys) (h0 : 0 < ys.length) : ∃ ad, pb = some ad ∧ ∀ j v, (ys.map (Value.int .i64))[j]? = some v → w.cell? (ad.add j) = some v := by
  obtain ⟨p, c, e, -, -, h4⟩ := h
  simp only [Value.slice.injEq, true_and] at e
  obtain ⟨b, off, hp, hlt, hc⟩ := h4 h0
  refine ⟨⟨b, off, none⟩, e.1.trans hp, fun j v hv => ?_⟩
  have hj : j < ys.length := by
    have := (List.getElem?_eq_some_iff.1 hv).1
    simpa using this
  have e1 : (⟨b, off, none⟩ : Addr).add j = ⟨b, off + j, none⟩ := by
    unfold Addr.add
    split
    · subst_vars; rfl
    · rfl
  rw [e1, hc j hj, ← hv]
  simp [hj]
end Go.Proofs.Ytlnkflmnjkmhkaa

/-
  Contracts of package symbv's functions that ask no store: Resize, Shl, Shr, Slice, Cat.
-/
namespace Go.Proofs.Ytlnkflmnjkmhkaa
open Go.RowKit Go.Maps

/-- A vector is handed back in memory of its own; nothing that was has changed. -/
def RetVecN (w : World) (xs : List Int) (e : Ending) (w' : World) : Prop := ∃ v, e = .returned v ∧ IVec w' v xs ∧ (∀ k, v.ownBlock = some k → 0 < xs.length → w.heap.size ≤ k) ∧ NilOk v ∧ Below w.heap.size w w'
/-- The source of a copy: a part of a vector, from the k-th one on, n of them. -/
theorem part_src {w : World} {pa : Option Addr} {ca : Nat} {xs : List Int} (h : IVec w (.slice pa xs.length ca) xs) (n : Nat) (hn : n ≤ xs.length) (h0 : 0 < n) : ∃ ad, pa = some ad ∧ ∀ j v, ((xs.take n).map (Value.int .i64))[j]? = some v → w.cell? (ad.add j) = some v := by
  obtain ⟨ad, h1, h2⟩ := copy_src h (by omega)
  refine ⟨ad, h1, fun j v hv => h2 j v ?_⟩
  have hj : j < n := by
    have := (List.getElem?_eq_some_iff.1 hv).1
    simp at this
    omega
  rw [← hv]
  simp [List.getElem?_take_of_lt hj]

def resizeL (xs : List Int) (M : Nat) : List Int := xs.take M ++ List.replicate (M - xs.length) 0
theorem resizeL_len (xs : List Int) (M : Nat) : (resizeL xs M).length = M := by unfold resizeL; simp; omega

theorem take_min (xs : List Int) (M : Nat) : xs.take (min xs.length M) = xs.take M := by
  by_cases h : xs.length ≤ M
  · rw [Nat.min_eq_left h, List.take_length, List.take_of_length_le h]
  · rw [Nat.min_eq_right (by omega)]
theorem resize_splice (xs : List Int) (M : Nat) : splice (List.replicate M (Value.int .i64 0)) 0 ((xs.take (min xs.length M)).map (Value.int .i64)) = (resizeL xs M).map (Value.int .i64) := by
  rw [take_min]
  unfold resizeL splice
  simp only [List.take_zero, List.nil_append, Nat.zero_add, List.length_map, List.length_take, List.drop_replicate, List.map_append, List.map_replicate]
  have e : M - min M xs.length = M - xs.length := by omega
  rw [e]

set_option maxRecDepth 100000 in
set_option maxHeartbeats 800000 in
theorem symbvResize_any (va : Value) (xs : List Int) (c : Int) (w : World) (ha : IVec w va xs) (hxl : xs.length ≤ 1000000) :
    Calls Try.prog 29 #[va, .int .i64 c] w (RetVecN w (resizeL xs (max 0 (min c 256)).toNat)) := by
  obtain ⟨i0, hi, hz0, hz1, hz2⟩ := info_parts Try.infoInt
  have HA := Lib.hid ha
  obtain ⟨pa, ca, rfl, ha3, ha4, -⟩ := ha.shape
  clear ha
  have HW := Lib.hid (width_any c w)
  have hsz : (Try.prog.info? 3).map (·.size) = some 1 := by rw [hi]; simp [hz1]
  have hMb : (max 0 (min c 256)).toNat ≤ 256 := by omega
  generalize (max 0 (min c 256)).toNat = M at *
  go_enter Try.func29, Try.ntmps29
  go_wp2_with fail
  refine HW.out.mono ?_
  rintro e w1 ⟨rfl, rfl⟩
  go_wp2_with (first
    | (at_make; refine wpList_make_full _ rfl _ _ 34 rfl w.heap.size 3 i0 (.int .i64 0) 1 Try.underlying34 hi hz0 hz1 .i64 .i64 _ _ M rfl rfl rfl rfl (by rw [hz2]; omega) (by unfold maxLen; omega) (Nat.le_refl _) ?_; intro w0 hown0 hgrow0; rw [toList_madeCells_zero] at hown0; have hb0 : Below w.heap.size w w0 := (Below.refl _ _).grown hgrow0 (Nat.le_refl _) (fun k h => by cases h); have hh := own_heap hown0)
    | (with_reducible refine wpList_copy_splice rfl (.tmp 9) (.tmp 10) 34 34 rfl 3 Try.underlying34 hsz _ _ M M xs.length ca rfl rfl w.heap.size 0 _ 3 hh ((xs.take (min xs.length M)).map (Value.int .i64)) (by rw [List.length_map, List.length_take]; exact Nat.min_eq_left (Nat.min_le_left _ _)) (fun h0 => ⟨rfl, part_src (HA.out.below hb0) _ (Nat.min_le_left _ _) (by simpa using h0)⟩) (by simp; omega) (ints_oneCell .i64 _) w.heap.size w hb0 (Nat.le_refl _) ?_; intro w2 hh2 hb2))
  go_ret
  refine ⟨_, rfl, ?_, fun k hk _ => by cases hk; exact Nat.le_refl _, NilOk.some _ _ _, hb2⟩
  refine IVec.of_heap (t := 3) (resizeL_len _ _) (by unfold maxLen; omega) ?_
  rw [hh2.out, resize_splice]

/-- append of a vector to a row of the call's own. -/
theorem append_vec {w : World} {ops : Array Oper} {rest : List Oper} {o : Oper} {a : Act} {Q : Exit → Act → World → Prop} (hgd : o.guard = none) (s x : Operand)
    (ho : o.op = .call { callee := .builtin .append, args := #[s, x], argTypes := #[34, 34] })
    (base : Nat) (v : Value) (zs : List Int) (hs : a.eval s = v) (hown : w.ownsRow base 3 1 v zs.length (zs.map (Value.int .i64)))
    (vx : Value) (xs : List Int) (hx : a.eval x = vx) (hv : IVec w vx xs) (hn : NilOk vx) (hl : zs.length + xs.length ≤ 2000000) (hbase : base ≤ w.heap.size)
    (h : ∀ v' w', w'.ownsRow base 3 1 v' (zs ++ xs).length ((zs ++ xs).map (Value.int .i64)) → w.grownBy w' v.ownBlock → wpList Try.prog ops Q rest (a.put o.dst v') w') : wpList Try.prog ops Q (o :: rest) a w := by
  obtain ⟨i0, hi, hz0, hz1, hz2⟩ := info_parts Try.infoInt
  obtain ⟨pa, ca, rfl, ha3, ha4, ha5⟩ := hv.shape
  cases pa with
  | none =>
    obtain rfl : ca = 0 := hn _ _ rfl
    obtain rfl : xs = [] := List.eq_nil_of_length_eq_zero (by omega)
    refine wpList_append_own_none hgd s x _ ho base 3 i0 1 Try.underlying34 hi v _ _ hs hown hx ?_
    exact h v w (by simpa using hown) (grownBy_none ⟨rfl, rfl, rfl, Nat.le_refl _, fun _ _ _ => rfl⟩ _)
  | some ad =>
    refine wpList_append_own _ hgd s x _ ho base 3 i0 (.int .i64 0) 1 8 Try.underlying34 hi hz0 hz1 hz2 rfl (by decide) v _ _ hs hown ad xs.length ca (xs.map (Value.int .i64)) hx (by simp) ?_ (ints_oneCell .i64 _) (by unfold maxLen; omega) (by omega) hbase ?_
    · intro j u hu
      have hj : j < xs.length := by
        have := (List.getElem?_eq_some_iff.1 hu).1
        simpa using this
      obtain ⟨ad', e, hsrc⟩ := copy_src hv (by omega)
      cases e
      exact hsrc j u hu
    · intro v' w' h1 h2 _
      exact h v' w' (by simpa using h1) h2

theorem own_empty (w : World) : (w.alloc (.cells #[] 3)).ownsRow w.heap.size 3 1 (.slice (some ⟨w.heap.size, 0, none⟩) 0 0) ([] : List Int).length (([] : List Int).map (Value.int .i64)) := by
  refine ⟨rfl, .inr ⟨w.heap.size, 0, #[], rfl, Nat.le_refl _, ?_, Nat.le_refl _, Nat.zero_le _, rfl, rfl⟩⟩
  show (w.heap.push _)[w.heap.size]? = _
  simp

theorem own_new {w w' : World} {v : Value} {xs : List Int} (h : w'.ownsRow w.heap.size 3 1 v xs.length (xs.map (Value.int .i64))) : IVec w' v xs ∧ (∀ k, v.ownBlock = some k → 0 < xs.length → w.heap.size ≤ k) ∧ NilOk v := by
  refine ⟨IVec.of_owns rfl h, fun k hk _ => (h.lt k hk).1, ?_⟩
  obtain ⟨-, h1 | ⟨g, cap, cur, h1, -⟩⟩ := h
  · rw [h1.1]; exact NilOk.nil
  · rw [h1]; exact NilOk.some _ _ _

set_option maxRecDepth 100000 in
set_option maxHeartbeats 1600000 in
theorem symbvCat_any (va vb : Value) (xs ys : List Int) (w : World) (ha : IVec w va xs) (hb : IVec w vb ys) (hna : NilOk va) (hnb : NilOk vb) (hxl : xs.length ≤ 1000000) (hyl : ys.length ≤ 1000000) :
    Calls Try.prog 25 #[va, vb] w (RetVecN w (ys ++ xs)) := by
  have HA := Lib.hid ha
  have HB := Lib.hid hb
  have HNA := Lib.hid hna
  have HNB := Lib.hid hnb
  have hem := own_empty w
  obtain ⟨pa, ca, rfl, ha3, ha4, -⟩ := ha.shape
  obtain ⟨pb, cb, rfl, hb3, hb4, -⟩ := hb.shape
  clear ha hb hna hnb
  go_enter Try.func25, Try.ntmps25
  go_wp2_with (first
    | (at_builtin; refine append_vec rfl (.tmp 5) (.tmp 6) rfl w.heap.size _ [] rfl hem _ ys rfl (HB.out.below ((Below.refl w.heap.size w).alloc (Nat.le_refl _) _)) HNB.out (by simp; omega) (by simp) ?_; intro v1 w1 hown1 hgrow1; have hb1 : Below w.heap.size w w1 := ((Below.refl w.heap.size w).alloc (Nat.le_refl _) _).grown hgrow1 (by simp) (fun k h => by cases h; exact Nat.le_refl _))
    | (at_builtin; refine append_vec rfl (.tmp 7) (.tmp 8) rfl w.heap.size _ ([] ++ ys) rfl hown1 _ xs rfl (HA.out.below hb1) HNA.out (by simp; omega) hb1.size ?_; intro v2 w2 hown2 hgrow2))
  have hb2 : Below w.heap.size w w2 := hb1.grown hgrow2 hb1.size (fun k h => (hown1.lt k h).1)
  obtain ⟨q1, q2, q3⟩ := own_new hown2
  have Q : Hid (IVec w2 v2 (ys ++ xs) ∧ (∀ k, v2.ownBlock = some k → 0 < (ys ++ xs).length → w.heap.size ≤ k) ∧ NilOk v2 ∧ Below w.heap.size w w2) := ⟨q1, q2, q3, hb2⟩
  clear q1 q2 q3 hb2 hb1 hown1 hgrow1 hown2 hgrow2 hem
  go_ret
  exact ⟨_, rfl, Q.out⟩

end Go.Proofs.Ytlnkflmnjkmhkaa
