/-
  symhead.New of the program of the page's examples: what its regions tell.
-/
import Derived.Test.YtlnkflmnjkmhkaaJS10
import Derived.Test.YtlnkflmnjkmhkaaJS13

namespace Go.Proofs.Ytlnkflmnjkmhkaa
open Go.RowKit Go.Maps

/-- 'make([]T, n)' in a region that draws its order. -/
theorem step_make {P : Program} {ops : Array Oper} {o : Oper} {a : Act} {w : World} {K : Act → World → Prop} {Q : Exit → Act → World → Prop} {E : Prop}
    (hgd : o.guard = none) (l c : Operand) (t : TypeId) (hop : o.op = Op.makeSlice t l c)
    (e : TypeId) (i : TypeInfo) (z : Value) (size : Nat) (h1 : P.underlying t = some (.slice e)) (h2 : P.info? e = some i) (h3 : i.zero = some z) (h4 : i.size = size)
    (kl kc : IntKind) (L C : Int) (n : Nat) (hl : a.eval l = .int kl L) (hc : a.eval c = .int kc C) (hL : L = (n : Int)) (hC : C = (n : Int)) (b2 : i.bytes * n ≤ 281474976710656) (b3 : n ≤ maxLen)
    (hK : ∀ w', w'.ownsRow w.heap.size e size (.slice (some ⟨w.heap.size, 0, none⟩) n n) n (madeCells z.cells (n * size)).toList → w.grownBy w' none → K (a.put o.dst (.slice (some ⟨w.heap.size, 0, none⟩) n n)) w') :
    if Region.wanted o (yielded ops a.tmps) = true then Oper.wp P o a w K Q else E := by
  have hw : Region.wanted o (yielded ops a.tmps) = true := by simp [Region.wanted, hgd]
  rw [if_pos hw]
  obtain ⟨w', hrun, r1, r2⟩ := run_make_full (P := P) w w.heap.size t e i z size h1 h2 h3 h4 kl kc n b2 b3 (Nat.le_refl _)
  subst hL
  subst hC
  unfold Oper.wp
  simp [execOp, hop, hl, hc, hrun, Result.andThen]
  exact hK w' r1 r2

/-- A vector in blocks of its own. -/
def TVec (n : Nat) (xs : List Int) : Tw := fun B W _ v => ∃ g, v = .slice (some ⟨g, 0, none⟩) n n ∧ B g ∧ IVec W v xs
/-- A row of one vector. -/
def TRow (bs : List Int) : Tw := fun B W _ v => ∃ r a ca, v = .slice (some ⟨r, 0, none⟩) 1 1 ∧ B r ∧ W.cell? ⟨r, 0, none⟩ = some (.slice (some a) 8 ca) ∧ IVec W (.slice (some a) 8 ca) bs ∧ B a.block
/-- A box. -/
def TBox (n : Nat) : Tw := fun B W _ v => ∃ g, v = .pointer (some ⟨g, 0, none⟩) ∧ B g ∧ (∀ j, j < n → ∃ y, W.cell? ⟨g, j, none⟩ = some y) ∧ ∀ j, W.frozen? ⟨g, j, none⟩ = false
def TSym : Tw := fun _ _ ls v => ∃ x y z, ls = [x, y, z] ∧ v = .agg #[.int .i64 1, .int .i64 3, x, y, .slice none 0 0, .slice none 0 0, .int .i64 0, .int .i64 0, z, .int .i64 0]
def TAny : Tw := fun _ _ _ _ => True

theorem TVec.stab {n : Nat} {xs : List Int} {B D : Nat → Prop} {w w' : World} {ls : List Value} {v : Value} (h : TVec n xs B w ls v) (hk : ∀ k, B k ∨ D k → w'.heap[k]? = w.heap[k]?) (hs : w.heap.size ≤ w'.heap.size) : TVec n xs B w' ls v := by
  obtain ⟨g, rfl, h1, h2⟩ := h
  exact ⟨g, rfl, h1, h2.keepBlock (hk _ (.inl h1)) hs⟩
theorem TRow.stab {bs : List Int} {B D : Nat → Prop} {w w' : World} {ls : List Value} {v : Value} (h : TRow bs B w ls v) (hk : ∀ k, B k ∨ D k → w'.heap[k]? = w.heap[k]?) (hs : w.heap.size ≤ w'.heap.size) : TRow bs B w' ls v := by
  obtain ⟨r, a, ca, rfl, h1, h2, h3, h4⟩ := h
  exact ⟨r, a, ca, rfl, h1, (World.cell?_of_block (a := ⟨r, 0, none⟩) (hk _ (.inl h1))).trans h2, h3.keepBlock (hk _ (.inl h4)) hs, h4⟩
theorem TBox.stab {n : Nat} {B D : Nat → Prop} {w w' : World} {ls : List Value} {v : Value} (h : TBox n B w ls v) (hk : ∀ k, B k ∨ D k → w'.heap[k]? = w.heap[k]?) : TBox n B w' ls v := by
  obtain ⟨g, rfl, h1, h2, h3⟩ := h
  exact ⟨g, rfl, h1, fun j hj => by obtain ⟨y, hy⟩ := h2 j hj; exact ⟨y, (World.cell?_of_block (a := ⟨g, j, none⟩) (hk _ (.inl h1))).trans hy⟩, fun j => (World.frozen?_of_block (a := ⟨g, j, none⟩) (hk _ (.inl h1))).trans (h3 j)⟩
theorem TBox.sets {n : Nat} {B : Nat → Prop} {w : World} {ls : List Value} {v : Value} {g : Nat} {XS : List Value} (hX : XS.length = n) (h : TBox n B w ls v) : TBox n B (setsL w g 0 XS) ls v := by
  obtain ⟨k, rfl, h1, h2, h3⟩ := h
  refine ⟨k, rfl, h1, fun j hj => ?_, fun j => (setsL_frozen _ _ _ _).trans (h3 j)⟩
  by_cases e : k = g
  · subst e
    have := setsL_new (g := k) (j := j) (x := XS[j]'(by omega)) XS w 0 (fun m hm => by rw [Nat.zero_add]; exact h2 m (by omega)) (List.getElem?_eq_getElem _)
    rw [Nat.zero_add] at this
    exact ⟨_, this⟩
  · obtain ⟨y, hy⟩ := h2 j hj
    exact ⟨y, (World.cell?_of_block (a := ⟨k, j, none⟩) (setsL_heap e XS w 0)).trans hy⟩

/-- Behind operation s the cells of t's box are those of x. -/
def Laid (s t x : Nat) (L : Array Bool) (l : List Value) (w : World) : Prop := did L s = true → did L t = true ∧ did L x = true ∧ ∃ g Xs, nth l t = .pointer (some ⟨g, 0, none⟩) ∧ nth l x = .agg Xs ∧ ∀ j v, Xs[j]? = some v → w.cell? ⟨g, j, none⟩ = some v
theorem Laid.quiet {s t x i : Nat} {v : Value} {L : Array Bool} {l : List Value} {w w' : World} (h : Laid s t x L l w) (hn : did L i = false) (hs : i ≠ s) (hL : i < L.size) (hb : Below w.heap.size w w') : Laid s t x (L.setIfInBounds i true) (l.set i v) w' := fun hd => by
  rw [did_other (fun e => hs e.symm)] at hd
  obtain ⟨h1, h2, g, Xs, e1, e2, h3⟩ := h hd
  have it : i ≠ t := fun e => by rw [e, h1] at hn; cases hn
  have ix : i ≠ x := fun e => by rw [e, h2] at hn; cases hn
  exact ⟨by rw [did_other (fun e => it e.symm)]; exact h1, by rw [did_other (fun e => ix e.symm)]; exact h2, g, Xs, by rw [nth_other it]; exact e1, by rw [nth_other ix]; exact e2, fun j v hj => (hb.cell (p := ⟨g, j, none⟩) (cell_there (h3 j v hj)).1).trans (h3 j v hj)⟩
theorem Laid.put {s t x g : Nat} {v : Value} {XS : List Value} {L : Array Bool} {l : List Value} {w : World} (ht : did L t = true) (hx : did L x = true) (hn : did L s = false) (e1 : nth l t = .pointer (some ⟨g, 0, none⟩)) (e2 : nth l x = .agg XS.toArray) (hc : ∀ j, j < XS.length → ∃ y, w.cell? ⟨g, j, none⟩ = some y) : Laid s t x (L.setIfInBounds s true) (l.set s v) (setsL w g 0 XS) := fun _ => by
  have it : s ≠ t := fun e => by rw [e, ht] at hn; cases hn
  have ix : s ≠ x := fun e => by rw [e, hx] at hn; cases hn
  refine ⟨by rw [did_other (fun e => it e.symm)]; exact ht, by rw [did_other (fun e => ix e.symm)]; exact hx, g, XS.toArray, by rw [nth_other it]; exact e1, by rw [nth_other ix]; exact e2, fun j u hj => ?_⟩
  have := setsL_new (g := g) (j := j) (x := u) XS w 0 (fun m hm => by rw [Nat.zero_add]; exact hc m hm) (by simpa using hj)
  rwa [Nat.zero_add] at this

theorem Laid.start {s t x n : Nat} {l : List Value} {w : World} : Laid s t x (Array.replicate n false) l w := fun hd => by rw [did_none] at hd; cases hd

/-- Region 1 of New: the packet's parts, and the packet's box. -/
def new1 (gp gh r0 : Nat) (bs : List Int) (w0 : World) : Rw where
  n0 := w0.heap.size
  dep := fun _ => False
  kd := [isV (.int .i64 1), isV (.int .i64 3), isV (.slice (some ⟨r0, 0, none⟩) 1 1), ([], TRow bs), isV (.pointer (some ⟨gp, 0, none⟩)), isV (.slice (some ⟨gh, 0, none⟩) 1 1), isV (.int .i64 1), ([], TVec 1 [0]),
    isV (.pointer (some ⟨gp, 1, none⟩)), isV (.slice none 0 0), isV (.slice none 0 0), ([], TVec 9 zero9), ([3, 7, 11], TSym), ([], TBox 10), ([12, 13], TAny)]
  G := fun L l w => Below w0.heap.size w0 w ∧ Laid 14 13 12 L l w

theorem new1_fine {gp gh r0 : Nat} {bs : List Int} {w0 : World} : (new1 gp gh r0 bs w0).Fine where
  old := fun _ h => h.elim
  stab := fun i js P hk B w w' ls v hp _ hw hs => by
    match i, hk with
    | 0, hk => cases hk; exact hp
    | 1, hk => cases hk; exact hp
    | 2, hk => cases hk; exact hp
    | 3, hk => cases hk; exact TRow.stab hp hw hs
    | 4, hk => cases hk; exact hp
    | 5, hk => cases hk; exact hp
    | 6, hk => cases hk; exact hp
    | 7, hk => cases hk; exact TVec.stab hp hw hs
    | 8, hk => cases hk; exact hp
    | 9, hk => cases hk; exact hp
    | 10, hk => cases hk; exact hp
    | 11, hk => cases hk; exact TVec.stab hp hw hs
    | 12, hk => cases hk; exact hp
    | 13, hk => cases hk; exact TBox.stab hp hw
    | 14, hk => cases hk; trivial
    | i + 15, hk => simp [new1] at hk

/-- A row of one vector of eight noughts. -/
def TZer : Tw := fun B W _ v => ∃ p c zz zc, v = .slice (some ⟨p, 0, none⟩) 1 c ∧ 1 ≤ c ∧ B p ∧ W.cell? ⟨p, 0, none⟩ = some (.slice (some zz) 8 zc) ∧ IVec W (.slice (some zz) 8 zc) zero8 ∧ B zz.block
/-- A row of what another one yields. -/
def TOne : Tw := fun B W ls v => ∃ g x, v = .slice (some ⟨g, 0, none⟩) 1 1 ∧ B g ∧ ls = [x] ∧ W.cell? ⟨g, 0, none⟩ = some x
def TApp : Tw := fun B W ls v => ∃ g c x y, v = .slice (some ⟨g, 0, none⟩) 1 c ∧ 1 ≤ c ∧ B g ∧ ls = [x, y] ∧ W.cell? ⟨g, 0, none⟩ = some x
theorem TZer.stab {B D : Nat → Prop} {w w' : World} {ls : List Value} {v : Value} (h : TZer B w ls v) (hk : ∀ k, B k ∨ D k → w'.heap[k]? = w.heap[k]?) (hs : w.heap.size ≤ w'.heap.size) : TZer B w' ls v := by
  obtain ⟨p, c, zz, zc, rfl, h1, h2, h3, h4, h5⟩ := h
  exact ⟨p, c, zz, zc, rfl, h1, h2, (World.cell?_of_block (a := ⟨p, 0, none⟩) (hk _ (.inl h2))).trans h3, h4.keepBlock (hk _ (.inl h5)) hs, h5⟩
theorem TOne.stab {B D : Nat → Prop} {w w' : World} {ls : List Value} {v : Value} (h : TOne B w ls v) (hk : ∀ k, B k ∨ D k → w'.heap[k]? = w.heap[k]?) : TOne B w' ls v := by
  obtain ⟨g, x, rfl, h1, h2, h3⟩ := h
  exact ⟨g, x, rfl, h1, h2, (World.cell?_of_block (a := ⟨g, 0, none⟩) (hk _ (.inl h1))).trans h3⟩
theorem TApp.stab {B D : Nat → Prop} {w w' : World} {ls : List Value} {v : Value} (h : TApp B w ls v) (hk : ∀ k, B k ∨ D k → w'.heap[k]? = w.heap[k]?) : TApp B w' ls v := by
  obtain ⟨g, c, x, y, rfl, h0, h1, h2, h3⟩ := h
  exact ⟨g, c, x, y, rfl, h0, h1, h2, (World.cell?_of_block (a := ⟨g, 0, none⟩) (hk _ (.inl h1))).trans h3⟩

/-- Region 5 of New: a header's noughts, laid at the fields' end. -/
def new5 (gx gw : Nat) (w0 : World) : Rw where
  n0 := w0.heap.size
  dep := fun _ => False
  kd := [isV (.pointer (some ⟨gx, 4, none⟩)), isV (.slice none 0 0), isV (.slice (some ⟨gw, 0, none⟩) 1 1), ([], TZer), ([3], TOne), ([3, 4], TApp), isV (.pointer (some ⟨gx, 4, none⟩)), ([5], TAny)]
  G := fun L l w => L.size = 8 ∧ ((did L 7 = false ∧ Below w0.heap.size w0 w) ∨ (did L 7 = true ∧ (∀ j, j < 7 → did L j = true) ∧ ∃ w1, Below w0.heap.size w0 w1 ∧ w = w1.setCell ⟨gx, 4, none⟩ (nth l 5)))
theorem new5_fine {gx gw : Nat} {w0 : World} : (new5 gx gw w0).Fine where
  old := fun _ h => h.elim
  stab := fun i js P hk B w w' ls v hp _ hw hs => by
    match i, hk with
    | 0, hk => cases hk; exact hp
    | 1, hk => cases hk; exact hp
    | 2, hk => cases hk; exact hp
    | 3, hk => cases hk; exact TZer.stab hp hw hs
    | 4, hk => cases hk; exact TOne.stab hp hw
    | 5, hk => cases hk; exact TApp.stab hp hw
    | 6, hk => cases hk; exact hp
    | 7, hk => cases hk; trivial
    | i + 8, hk => simp [new5] at hk
theorem new5_gq {gx gw : Nat} {w0 : World} (i : Nat) (v : Value) (L : Array Bool) (l : List Value) (w w' : World) (hn : did L i = false) (hL : i < L.size) (hb : Below w.heap.size w w') (h : (new5 gx gw w0).G L l w) (h7 : i ≠ 7) : (new5 gx gw w0).G (L.setIfInBounds i true) (l.set i v) w' := by
  obtain ⟨h0, h⟩ := h
  refine ⟨by simpa using h0, ?_⟩
  rcases h with ⟨h1, h2⟩ | ⟨h1, h2, -⟩
  · exact .inl ⟨by rw [did_other (fun e => h7 e.symm)]; exact h1, h2.trans (hb.mono h2.size)⟩
  · have := h2 i (by omega)
    rw [hn] at this; cases this
theorem new5_early {gx gw : Nat} {w0 : World} {L : Array Bool} {l : List Value} {w : World} (h : (new5 gx gw w0).G L l w) {i : Nat} (hi : i < 7) (hn : did L i = false) : Below w0.heap.size w0 w := by
  obtain ⟨-, ⟨h1, h2⟩ | ⟨h1, h2, -⟩⟩ := h
  · exact h2
  · have := h2 i hi
    rw [hn] at this; cases this

end Go.Proofs.Ytlnkflmnjkmhkaa
