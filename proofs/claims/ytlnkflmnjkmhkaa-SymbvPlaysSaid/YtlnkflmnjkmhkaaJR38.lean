/-
  Lemmas, joined: Plays17b, Law17R9.
-/
import Derived.Test.YtlnkflmnjkmhkaaJR27
import Derived.Test.YtlnkflmnjkmhkaaJR37
import Derived.Test.YtlnkflmnjkmhkaaJR32
/-
  The law SymbvPlays of layer 17: what holds of all of memory at a round's head, and what each step does to it.
-/
namespace Go.Proofs.Ytlnkflmnjkmhkaa
open Go.RowKit Go.Maps

/-- The blocks that may turn: of the program's store, of the reference's, of the row of the vectors that were told. -/
def MutV (O Ow : Nat → Prop) (v : Value) (k : Nat) : Prop := O k ∨ Ow k ∨ v.ownBlock = some k

structure P17 (w0 W : World) (b : Nat) (O : Nat → Prop) (s : BS) (bw : Nat) (Ow : Nat → Prop) (t : BS) (n : Nat) (v : Value) (vals : Nat → Value) (xs : Nat → List Int) : Prop where
  sto : Sto W b O s
  rst : RSto W bw Ow t
  row : W.ownsRow 0 34 1 v n ((List.range n).map vals)
  new : ∀ k, MutV O Ow v k → w0.heap.size ≤ k
  d1 : ∀ k, O k → ¬ Ow k ∧ v.ownBlock ≠ some k
  d2 : ∀ k, Ow k → v.ownBlock ≠ some k
  vec : ∀ j, j < n → IVecX W (MutV O Ow v) (vals j) (xs j) ∧ (xs j).length ≤ 300
  below : Below w0.heap.size w0 W

variable {w0 W W' : World} {b : Nat} {O O' : Nat → Prop} {s s' : BS} {bw : Nat} {Ow : Nat → Prop} {t : BS} {n : Nat} {v : Value} {vals : Nat → Value} {xs : Nat → List Int}

theorem P17.lt (h : P17 w0 W b O s bw Ow t n v vals xs) : ∀ k, MutV O Ow v k → k < W.heap.size := by
  rintro k (hk | hk | hk)
  · exact h.sto.lt k hk
  · exact h.rst.lt k hk
  · exact (h.row.lt k hk).2

theorem mutV_sto (he : Ext O O' W W') : Ext (MutV O Ow v) (MutV O' Ow v) W W' :=
  ⟨⟨he.1.os, he.1.tape, he.1.output, he.1.size, fun k hk hO => he.1.block k hk (fun q => hO (.inl q))⟩, fun k hk => by
    rcases hk with hk | hk
    · rcases he.2 k hk with q | q
      · exact .inl (.inl q)
      · exact .inr q
    · exact .inl (.inr hk)⟩
theorem mutV_rst (he : Ext Ow O' W W') : Ext (MutV O Ow v) (MutV O O' v) W W' :=
  ⟨⟨he.1.os, he.1.tape, he.1.output, he.1.size, fun k hk hO => he.1.block k hk (fun q => hO (.inr (.inl q)))⟩, fun k hk => by
    rcases hk with hk | hk | hk
    · exact .inl (.inl hk)
    · rcases he.2 k hk with q | q
      · exact .inl (.inr (.inl q))
      · exact .inr q
    · exact .inl (.inr (.inr hk))⟩

/-- Behind a call that turns the program's store alone. -/
theorem P17.stoCall (h : P17 w0 W b O s bw Ow t n v vals xs) (hs : Sto W' b O' s') (he : Ext O O' W W') : P17 w0 W' b O' s' bw Ow t n v vals xs := by
  have hlt := h.lt
  have hkeep : ∀ k, k < W.heap.size → ¬ O k → W'.heap[k]? = W.heap[k]? ∧ ¬ O' k := fun k hk hO => ⟨he.1.block k hk hO, fun h' => by rcases he.2 k h' with q | q; exact hO q; omega⟩
  have hM := mutV_sto (Ow := Ow) (v := v) he
  obtain ⟨r1, r2⟩ := own_ext h.row (fun k hk hO => (h.d1 k hO).2 hk) he
  refine ⟨hs, h.rst.kept fun k hk => (hkeep k (h.rst.lt k hk) (fun q => (h.d1 k q).1 hk)).1, r1, fun k hk => ?_, fun k hk => ?_, h.d2, fun j hj => ⟨(h.vec j hj).1.ext hM, (h.vec j hj).2⟩, below_ext h.below hM h.new h.below.size⟩
  · rcases hM.2 k hk with q | q
    · exact h.new k q
    · exact Nat.le_trans h.below.size q
  · rcases he.2 k hk with q | q
    · exact h.d1 k q
    · refine ⟨fun q2 => ?_, fun q2 => ?_⟩
      · have := hlt k (.inr (.inl q2)); omega
      · have := hlt k (.inr (.inr q2)); omega
/-- Behind a call that turns the reference's store alone. -/
theorem P17.rstCall (h : P17 w0 W b O s bw Ow t n v vals xs) (hs : RSto W' bw O' s') (he : Ext Ow O' W W') : P17 w0 W' b O s bw O' s' n v vals xs := by
  have hlt := h.lt
  have hM := mutV_rst (O := O) (v := v) he
  obtain ⟨r1, r2⟩ := own_ext h.row (fun k hk hO => h.d2 k hO hk) he
  refine ⟨h.sto.kept fun k hk => he.1.block k (h.sto.lt k hk) (h.d1 k hk).1, hs, r1, fun k hk => ?_, fun k hk => ⟨fun q => ?_, (h.d1 k hk).2⟩, fun k hk => ?_, fun j hj => ⟨(h.vec j hj).1.ext hM, (h.vec j hj).2⟩, below_ext h.below hM h.new h.below.size⟩
  · rcases hM.2 k hk with q | q
    · exact h.new k q
    · exact Nat.le_trans h.below.size q
  · rcases he.2 k q with q2 | q2
    · exact (h.d1 k hk).1 q2
    · have := hlt k (.inl hk); omega
  · rcases he.2 k hk with q | q
    · exact h.d2 k q
    · intro q2
      have := hlt k (.inr (.inr q2)); omega
theorem P17.later (h : P17 w0 W b O s bw Ow t n v vals xs) (hb : Below W.heap.size W W') : P17 w0 W' b O s bw Ow t n v vals xs := h.stoCall (h.sto.below hb) (Ext.of_below hb)

/-- Behind stores into blocks that no store and no row has. -/
theorem P17.other {P : Nat → Prop} (h : P17 w0 W b O s bw Ow t n v vals xs) (he : Ext P P W W') (hP : ∀ k, P k → w0.heap.size ≤ k ∧ ¬ MutV O Ow v k) (hv : ∀ j, j < n → ∀ k, (vals j).ownBlock = some k → 0 < (xs j).length → ¬ P k) : P17 w0 W' b O s bw Ow t n v vals xs := by
  have hblk : ∀ k, MutV O Ow v k → W'.heap[k]? = W.heap[k]? := fun k hk => he.1.block k (h.lt k hk) (fun q => (hP k q).2 hk)
  obtain ⟨r1, r2⟩ := own_ext h.row (fun k hk q => (hP k q).2 (.inr (.inr hk))) he
  refine ⟨h.sto.kept fun k hk => hblk k (.inl hk), h.rst.kept fun k hk => hblk k (.inr (.inl hk)), r1, h.new, h.d1, h.d2, fun j hj => ?_, below_ext h.below he (fun k hk => (hP k hk).1) h.below.size⟩
  obtain ⟨⟨q1, q2, q3⟩, q4⟩ := h.vec j hj
  have : IVecX W P (vals j) (xs j) := ⟨q1, fun k hk h0 => hv j hj k hk h0, q3⟩
  exact ⟨⟨(this.ext he).1, q2, q3⟩, q4⟩

/-- Behind the append of a vector. -/
theorem P17.push {W2 : World} {o : Obj} {v' x : Value} {ys : List Int} (h : P17 w0 W b O s bw Ow t n v vals xs) (hx : IVecX W (MutV O Ow v) x ys) (hy : ys.length ≤ 300)
    (hown : W2.ownsRow 0 34 1 v' (n + 1) ((List.range n).map vals ++ [x])) (hg : (W.alloc o).grownBy W2 v.ownBlock) (hwh : v'.ownBlock = v.ownBlock ∨ ∀ k, v'.ownBlock = some k → (W.alloc o).heap.size ≤ k) :
    P17 w0 W2 b O s bw Ow t (n + 1) v' (putAt vals n x) (putAt xs n ys) := by
  have hlt := h.lt
  have hsz : (W.alloc o).heap.size = W.heap.size + 1 := by simp
  have hsz2 := hg.size
  have hkeep : ∀ k, k < W.heap.size → v.ownBlock ≠ some k → W2.heap[k]? = W.heap[k]? := fun k hk h2 => by
    rw [hg.block k (by omega) (fun e => h2 e.symm)]
    exact Below.heap_alloc W o k hk
  have hM : Ext (MutV O Ow v) (MutV O Ow v') W W2 := ⟨⟨hg.os, hg.tape, hg.output, by omega, fun k hk hO => hkeep k hk (fun e => hO (.inr (.inr e)))⟩, fun k hk => by
    rcases hk with hk | hk | hk
    · exact .inl (.inl hk)
    · exact .inl (.inr (.inl hk))
    · rcases hwh with q | q
      · exact .inl (.inr (.inr (q ▸ hk)))
      · exact .inr (by have := q k hk; omega)⟩
  refine ⟨h.sto.kept fun k hk => hkeep k (h.sto.lt k hk) (h.d1 k hk).2, h.rst.kept fun k hk => hkeep k (h.rst.lt k hk) (h.d2 k hk), ?_, fun k hk => ?_, fun k hk => ⟨(h.d1 k hk).1, fun e => ?_⟩, fun k hk e => ?_, fun j hj => ?_, below_ext h.below hM h.new h.below.size⟩
  · rw [range_put]
    exact hown
  · rcases hM.2 k hk with q | q
    · exact h.new k q
    · exact Nat.le_trans h.below.size q
  · rcases hwh with q | q
    · exact (h.d1 k hk).2 (q ▸ e)
    · have := q k e; have := h.sto.lt k hk; omega
  · rcases hwh with q | q
    · exact h.d2 k hk (q ▸ e)
    · have := q k e; have := h.rst.lt k hk; omega
  · unfold putAt
    by_cases e : j = n
    · rw [if_pos e, if_pos e]; exact ⟨hx.ext hM, hy⟩
    · rw [if_neg e, if_neg e]; exact ⟨(h.vec j (by omega)).1.ext hM, (h.vec j (by omega)).2⟩

/-- What is told by at. -/
theorem P17.at (h : P17 w0 W b O s bw Ow t n v vals xs) (hn : n ≤ 1000) (i : Int) (hb : Below W.heap.size W W') :
    Calls Try.prog 94 #[v, .int .i64 i] W' fun e w' => e = .returned (atV n vals i) ∧ W' = w' := by
  have h' := h.later hb
  have hrow := h'.row
  have hsh : ∀ j, j < n → ∃ p m c, vals j = .slice p m c := fun j hj => by
    obtain ⟨⟨⟨p, c, e, -⟩, -⟩, -⟩ := h'.vec j hj
    exact ⟨_, _, _, e⟩
  obtain ⟨-, ⟨h1, h2⟩ | ⟨ra, cap, cur, h1, h2, h3, h4, h5, h6, h7⟩⟩ := hrow
  · have h0 : n = 0 := by omega
    subst h1
    subst h0
    exact at17_any none 0 0 vals i W' (by omega) (Nat.le_refl _) (fun h => absurd h (Nat.lt_irrefl 0)) hsh
  · have hc := h'.row.cells (g := ra) (by rw [h1]; rfl)
    subst h1
    refine at17_any (some ⟨ra, 0, none⟩) n cap vals i W' hn h4 (fun _ => ⟨ra, rfl, fun j hj => ?_⟩) hsh
    have := hc j (vals j) (by simp [hj])
    rw [show (⟨ra, 0, none⟩ : Addr).add j = ⟨ra, j, none⟩ from by unfold Addr.add; simp; omega] at this
    exact this
theorem P17.asked (h : P17 w0 W b O s bw Ow t n v vals xs) (i : Int) : IVecX W (MutV O Ow v) (atV n vals i) (atX n xs i) ∧ (atX n xs i).length ≤ 300 := by
  unfold atV atX
  by_cases e : i < 0 ∨ n = 0
  · rw [if_pos e, if_pos e]; exact ⟨⟨IVec.nil _, (fun k hk _ => by cases hk), NilOk.nil⟩, by simp⟩
  · rw [if_neg e, if_neg e]; exact h.vec _ (by have := Nat.mod_lt i.toNat (show 0 < n by omega); omega)
theorem P17.old (h : P17 w0 W b O s bw Ow t n v vals xs) : ∀ j, j < n → ∀ k, (vals j).ownBlock = some k → 0 < (xs j).length → k < W.heap.size := by
  intro j hj k hk h0
  obtain ⟨⟨⟨p, c, e, -, -, h4⟩, -⟩, -⟩ := h.vec j hj
  obtain ⟨b1, o1, e1, hlt, -⟩ := h4 h0
  rw [e, e1] at hk
  obtain rfl : b1 = k := by simpa [Value.ownBlock] using hk
  exact hlt

def OpCells17 (W : World) (g : Nat) (kind oa ob oc ok ol n0 n1 : Int) : Prop := W.cell? ⟨g, 0, none⟩ = some (.int .i64 kind) ∧ W.cell? ⟨g, 1, none⟩ = some (.int .i64 oa) ∧ W.cell? ⟨g, 2, none⟩ = some (.int .i64 ob) ∧ W.cell? ⟨g, 3, none⟩ = some (.int .i64 oc) ∧
  W.cell? ⟨g, 4, none⟩ = some (.int .i64 ok) ∧ W.cell? ⟨g, 5, none⟩ = some (.int .i64 ol) ∧ W.cell? ⟨g, 6, none⟩ = some (.int .u64 n0) ∧ W.cell? ⟨g, 7, none⟩ = some (.int .u64 n1)
variable {kind oa ob oc ok ol n0 n1 : Int} {g gX z0 : Nat} {r : BS × List Int}
theorem OpCells17.ext (h : OpCells17 W g kind oa ob oc ok ol n0 n1) (he : Ext O O' W W') (hn : ¬ O g) : OpCells17 W' g kind oa ob oc ok ol n0 n1 ∧ ¬ O' g := by
  obtain ⟨h0, h1, h2, h3, h4, h5, h6, h7⟩ := h
  have hg := (cell_there h0).1
  have e : ∀ j x, W.cell? ⟨g, j, none⟩ = some x → W'.cell? ⟨g, j, none⟩ = some x := fun j x q => (he.cell (p := ⟨g, j, none⟩) hg hn).1.trans q
  exact ⟨⟨e _ _ h0, e _ _ h1, e _ _ h2, e _ _ h3, e _ _ h4, e _ _ h5, e _ _ h6, e _ _ h7⟩, (he.cell (p := ⟨g, 0, none⟩) hg hn).2.2⟩

/-- A row of the round's own, in memory from z0 on. -/
def RowV (z0 : Nat) (M : Nat → Prop) (W : World) (x : Value) (ys : List Int) : Prop := W.ownsRow z0 3 1 x ys.length (ys.map (Value.int .i64)) ∧ ∀ k, x.ownBlock = some k → ¬ M k
theorem RowV.ext {x : Value} {ys : List Int} (h : RowV z0 O W x ys) (he : Ext O O' W W') : RowV z0 O' W' x ys := own_ext h.1 h.2 he

/-- The phases of a round: ahead of the calls, behind the first one, behind both. -/
def ph17 (w0 : World) (z0 b bw n gX : Nat) (kind oa ob oc ok ol n0 n1 : Int) (s : BS) (r : BS × List Int) (v : Value) (vals : Nat → Value) (xs : Nat → List Int) : Nat → Value → Value → World → Prop
  | 0, _, _, W => ∃ O Ow, P17 w0 W b O s bw Ow s n v vals xs ∧ OpCells17 W gX kind oa ob oc ok ol n0 n1 ∧ ¬ MutV O Ow v gX ∧ z0 ≤ W.heap.size
  | 1, x, _, W => ∃ O Ow, P17 w0 W b O r.1 bw Ow s n v vals xs ∧ OpCells17 W gX kind oa ob oc ok ol n0 n1 ∧ ¬ MutV O Ow v gX ∧ RowV z0 (MutV O Ow v) W x r.2
  | _, x, y, W => ∃ O Ow, P17 w0 W b O r.1 bw Ow r.1 n v vals xs ∧ OpCells17 W gX kind oa ob oc ok ol n0 n1 ∧ ¬ MutV O Ow v gX ∧ RowV z0 (MutV O Ow v) W x r.2 ∧ IVecX W (MutV O Ow v) y r.2 ∧ ∀ k, y.ownBlock = some k → 0 < r.2.length → x.ownBlock ≠ some k

theorem ph17_cells : ∀ k x y W, ph17 w0 z0 b bw n gX kind oa ob oc ok ol n0 n1 s r v vals xs k x y W → OpCells17 W gX kind oa ob oc ok ol n0 n1
  | 0, _, _, _, ⟨_, _, _, h, _⟩ => h
  | 1, _, _, _, ⟨_, _, _, h, _⟩ => h
  | _ + 2, _, _, _, ⟨_, _, _, h, _⟩ => h
theorem ph17_later : ∀ k x y W W', ph17 w0 z0 b bw n gX kind oa ob oc ok ol n0 n1 s r v vals xs k x y W → Below W.heap.size W W' → ph17 w0 z0 b bw n gX kind oa ob oc ok ol n0 n1 s r v vals xs k x y W'
  | 0, _, _, _, _, ⟨O, Ow, h1, h2, h3, h4⟩, hb => ⟨O, Ow, h1.later hb, (h2.ext (Ext.of_below hb) h3).1, h3, Nat.le_trans h4 hb.size⟩
  | 1, _, _, _, _, ⟨O, Ow, h1, h2, h3, h4⟩, hb => ⟨O, Ow, h1.later hb, (h2.ext (Ext.of_below hb) h3).1, h3, h4.ext (Ext.of_below hb)⟩
  | _ + 2, _, _, _, _, ⟨O, Ow, h1, h2, h3, h4, h5, h6⟩, hb => ⟨O, Ow, h1.later hb, (h2.ext (Ext.of_below hb) h3).1, h3, h4.ext (Ext.of_below hb), h5.below hb, h6⟩

theorem ph17_call0 {p0 p1 : Nat} (hn : n ≤ 1000) (hp0 : p0 < B) (hp1 : p1 < B) (hok : -9223372036854775808 ≤ ok ∧ ok ≤ 9223372036854775807) (hr : r = callG kind oa ok ol (p0 * B + p1) (atX n xs oa) (atX n xs ob) (atX n xs oc) s) (x y : Value) (W : World)
    (h : ph17 w0 z0 b bw n gX kind oa ob oc ok ol (p0 : Int) (p1 : Int) s r v vals xs 0 x y W) :
    Calls Try.prog 43 #[.pointer (some ⟨b, 0, none⟩), v, .agg #[.int .i64 kind, .int .i64 oa, .int .i64 ob, .int .i64 oc, .int .i64 ok, .int .i64 ol, .int .u64 (p0 : Int), .int .u64 (p1 : Int)]] W fun e w' => ∃ x, e = .returned x ∧ ph17 w0 z0 b bw n gX kind oa ob oc ok ol (p0 : Int) (p1 : Int) s r v vals xs 1 x y w' := by
  obtain ⟨O, Ow, h, hc, hn', hz⟩ := h
  refine (call17_new b O s v (atV n vals) (atX n xs) kind oa ob oc ok ol p0 p1 hp0 hp1 hok W h.sto (fun i W' hb => h.at hn i hb) (fun i => ⟨(h.asked i).1.sub fun k q => .inl q, (h.asked i).2⟩)).mono ?_
  rw [← hr]
  rintro e w' ⟨x, O', he, hv, hvO, hs, hx⟩
  refine ⟨x, he, O', Ow, h.stoCall hs hx, (hc.ext (mutV_sto hx) hn').1, (hc.ext (mutV_sto hx) hn').2, ownsRow_mono hv hz, fun k hk hM => ?_⟩
  have hge := (hv.lt k hk).1
  rcases hM with q | q
  · exact hvO k hk q
  · have := h.lt k (.inr q); omega
theorem ph17_call1 {p0 p1 : Nat} (hn : n ≤ 1000) (hp0 : p0 < B) (hp1 : p1 < B) (hok : -9223372036854775808 ≤ ok ∧ ok ≤ 9223372036854775807) (hr : r = callG kind oa ok ol (p0 * B + p1) (atX n xs oa) (atX n xs ob) (atX n xs oc) s) (x y : Value) (W : World)
    (h : ph17 w0 z0 b bw n gX kind oa ob oc ok ol (p0 : Int) (p1 : Int) s r v vals xs 1 x y W) :
    Calls Try.prog 44 #[.pointer (some ⟨bw, 0, none⟩), v, .agg #[.int .i64 kind, .int .i64 oa, .int .i64 ob, .int .i64 oc, .int .i64 ok, .int .i64 ol, .int .u64 (p0 : Int), .int .u64 (p1 : Int)]] W fun e w' => ∃ y, e = .returned y ∧ ph17 w0 z0 b bw n gX kind oa ob oc ok ol (p0 : Int) (p1 : Int) s r v vals xs 2 x y w' := by
  obtain ⟨O, Ow, h, hc, hn', hx⟩ := h
  refine (want17_rs bw Ow s v (atV n vals) (atX n xs) kind oa ob oc ok ol p0 p1 hp0 hp1 hok W h.rst (fun i W' hb => h.at hn i hb) (fun i => ⟨(h.asked i).1.sub fun k q => .inr (.inl q), (h.asked i).2⟩)).mono ?_
  rw [← hr]
  rintro e w' ⟨y, O', he, hv, hs, hx'⟩
  refine ⟨y, he, O, O', h.rstCall hs hx', (hc.ext (mutV_rst hx') hn').1, (hc.ext (mutV_rst hx') hn').2, hx.ext (mutV_rst hx'), ⟨hv.1.1, fun k hk h0 hM => ?_, hv.1.2.2⟩, fun k hk h0 e => ?_⟩
  · have hge := hv.2 k hk h0
    rcases hM with q | q | q
    · have := h.lt k (.inl q); omega
    · exact hv.1.2.1 k hk h0 q
    · have := h.lt k (.inr (.inr q)); omega
  · have := hv.2 k hk h0
    have := (hx.1.lt k e).2
    omega
theorem ph17_end (k : Nat) (hk : 1 < k) (x y : Value) (W : World) (h : ph17 w0 z0 b bw n gX kind oa ob oc ok ol n0 n1 s r v vals xs k x y W) :
    ∃ O Ow, P17 w0 W b O r.1 bw Ow r.1 n v vals xs ∧ RowV z0 (MutV O Ow v) W x r.2 ∧ IVecX W (MutV O Ow v) y r.2 ∧ ∀ k, y.ownBlock = some k → 0 < r.2.length → x.ownBlock ≠ some k := by
  match k, hk, h with
  | _ + 2, _, ⟨O, Ow, h1, _, _, h4, h5, h6⟩ => exact ⟨O, Ow, h1, h4, h5, h6⟩

/-- What holds at each round's head. -/
def P17At (w0 : World) (b bw n : Nat) (v : Value) (W : World) : Prop := ∃ O s Ow vals xs, P17 w0 W b O s bw Ow s n v vals xs

/-- Behind New and the reference's store. -/
theorem P17At.start (w0 : World) (c : Nat) (h0 : 2 ≤ c) (h1 : c ≤ 400) {W1 W2 : World} (hW1 : newWorld w0 c = W1) (hb : Below W1.heap.size W1 W2) : P17At w0 (w0.heap.size + 2) W2.heap.size 0 (.slice none 0 0) (W2.alloc (refCells c)) := by
  subst hW1
  obtain ⟨O, hS, hO⟩ := new_sto w0 c h0 (by omega)
  have hsz : (newWorld w0 c).heap.size = w0.heap.size + 3 := by unfold newWorld; simp
  have hB0 : Below w0.heap.size w0 (newWorld w0 c) := by unfold newWorld; exact (by repeat (first | exact Below.refl _ _ | assumption | refine Below.drew ?_ | refine Below.alloc ?_ (by first | omega | (simp <;> omega)) _ | refine Below.setCell ?_ (by first | omega | (simp <;> omega)) _ | refine Below.trans ?_ (Below.mono (by assumption) (by first | omega | (simp <;> omega)))))
  have hBA : Below (newWorld w0 c).heap.size (newWorld w0 c) (W2.alloc (refCells c)) := hb.alloc hb.size _
  have hlt := hS.lt
  have hs2 := hb.size
  have hR : RSto (W2.alloc (refCells c)) W2.heap.size (fun k => k = W2.heap.size) ⟨c, [], false⟩ := by
    refine ⟨⟨.slice none 0 0, ?_, ?_, ?_, fun j => ?_, ⟨rfl, .inl ⟨rfl, rfl⟩⟩, (by simp [Value.ownBlock]), fun k => ?_, (by show c ≤ 1048576; omega), Nat.zero_le _, fun t ht => by cases ht⟩, hS.ord⟩
    · simp [refCells, go_sem]
    · simp [refCells, go_sem]
    · simp [refCells, go_sem]
    · simp [refCells, go_sem]
    · simp [Value.ownBlock]
  refine ⟨O, ⟨c, [], false⟩, fun k => k = W2.heap.size, fun _ => .slice none 0 0, fun _ => [], hS.below hBA, hR, ⟨rfl, .inl ⟨rfl, rfl⟩⟩, ?_, ?_, ?_, fun j hj => absurd hj (Nat.not_lt_zero _), hB0.trans (hBA.mono hB0.size)⟩
  · rintro k (hk | rfl | hk)
    · exact hO k hk
    · omega
    · cases hk
  · exact fun k hk => ⟨by have := hlt k hk; omega, fun h => by cases h⟩
  · rintro k rfl
    exact fun h => by cases h

end Go.Proofs.Ytlnkflmnjkmhkaa

/-
  The law SymbvPlays of layer 17: the region of the two calls.
-/
namespace Go.Proofs.Ytlnkflmnjkmhkaa
open Go.RowKit Go.Maps

noncomputable def regQ (n : Nat) : Code := (Try.f5.body.bind (findRegion n)).getD .skip
def reg9S (b bw : Nat) (kind oa ob oc ok ol n0 n1 : Int) (va : Value) (ph : Nat → Value → Value → World → Prop) : StP := ⟨[.eq (.pointer (some ⟨b, 0, none⟩)), .eq va, .eq (.agg #[.int .i64 kind, .int .i64 oa, .int .i64 ob, .int .i64 oc, .int .i64 ok, .int .i64 ol, .int .u64 n0, .int .u64 n1]), .free, .eq (.pointer (some ⟨bw, 0, none⟩)), .eq va, .eq (.agg #[.int .i64 kind, .int .i64 oa, .int .i64 ob, .int .i64 oc, .int .i64 ok, .int .i64 ol, .int .u64 n0, .int .u64 n1]), .free, .same 3, .same 7], 3, 7, ph⟩

set_option maxRecDepth 100000 in
set_option maxHeartbeats 6000000 in
theorem reg9 (b bw gX : Nat) (kind oa ob oc ok ol n0 n1 : Int) (va : Value) (ph : Nat → Value → Value → World → Prop) (WB : World)
    (H0 : Hid (∀ x y, ph 0 x y WB)) (HLT : Hid (StP.Later (reg9S b bw kind oa ob oc ok ol n0 n1 va ph))) (HCE : Hid (∀ k x y W, ph k x y W → OpCells17 W gX kind oa ob oc ok ol n0 n1))
    (HC0 : Hid (∀ x y W, ph 0 x y W → Calls Try.prog 43 #[.pointer (some ⟨b, 0, none⟩), va, .agg #[.int .i64 kind, .int .i64 oa, .int .i64 ob, .int .i64 oc, .int .i64 ok, .int .i64 ol, .int .u64 n0, .int .u64 n1]] W fun e w' => ∃ v, e = .returned v ∧ ph 1 v y w'))
    (HC1 : Hid (∀ x y W, ph 1 x y W → Calls Try.prog 44 #[.pointer (some ⟨bw, 0, none⟩), va, .agg #[.int .i64 kind, .int .i64 oa, .int .i64 ob, .int .i64 oc, .int .i64 ok, .int .i64 ol, .int .u64 n0, .int .u64 n1]] W fun e w' => ∃ v, e = .returned v ∧ ph 2 x v w'))
    (c0 c1 c2 c3 c4 c5 c6 c8 c11 c13 c14 c15 c16 c17 c18 c19 c20 c21 c22 c23 c24 c25 c26 c27 c28 c29 c30 c31 c32 c33 c34 c35 c36 c37 c38 c39 c40 c41 c42 c43 c44 c45 c46 c47 c48 c49 c50 c51 c52 c53 c54 c55 c56 c57 c58 c59 c60 c61 c62 c63 c64 c65 c66 c67 c68 c69 c70 c71 c72 c73 c74 c75 c76 c77 c78 c79 c80 c81 c82 c83 c84 c85 c86 c87 c88 c89 c90 c91 c92 c93 c94 c95 c96 c97 c98 c99 c100 c101 c102 c103 c104 c105 c106 c107 c108 c109 c110 c111 c112 c113 c114 c115 c116 c117 c118 c119 c120 c121 c122 : Value) (Q : Exit → Act → World → Prop)
    (hexit : ∀ (u0 u1 u2 u3 u4 u5 u6 u7 : Value) (w' : World), (∃ k, 1 < k ∧ ph k u3 u7 w') → Q .normal ⟨#[c0, c1, c2, c3, c4, c5, c6, .pointer (some ⟨b, 0, none⟩), c8, .pointer (some ⟨bw, 0, none⟩), va, c11, .pointer (some ⟨gX, 0, none⟩), u3, u7, c15, c16, c17, c18, c19, c20, c21, c22, c23, c24, c25, c26, c27, c28, c29, c30, c31, c32, c33, c34, c35, c36, c37, c38, c39, c40, c41, c42, c43, c44, c45, c46, c47, c48, c49, u0, u1, u2, u3, u4, u5, u6, u7, c58, c59, c60, c61, c62, c63, c64, c65, c66, c67, c68, c69, c70, c71, c72, c73, c74, c75, c76, c77, c78, c79, c80, c81, c82, c83, c84, c85, c86, c87, c88, c89, c90, c91, c92, c93, c94, c95, c96, c97, c98, c99, c100, c101, c102, c103, c104, c105, c106, c107, c108, c109, c110, c111, c112, c113, c114, c115, c116, c117, c118, c119, c120, c121, c122], []⟩ w') :
    Code.wp Try.prog (regQ 9) Q ⟨#[c0, c1, c2, c3, c4, c5, c6, .pointer (some ⟨b, 0, none⟩), c8, .pointer (some ⟨bw, 0, none⟩), va, c11, .pointer (some ⟨gX, 0, none⟩), c13, c14, c15, c16, c17, c18, c19, c20, c21, c22, c23, c24, c25, c26, c27, c28, c29, c30, c31, c32, c33, c34, c35, c36, c37, c38, c39, c40, c41, c42, c43, c44, c45, c46, c47, c48, c49, c50, c51, c52, c53, c54, c55, c56, c57, c58, c59, c60, c61, c62, c63, c64, c65, c66, c67, c68, c69, c70, c71, c72, c73, c74, c75, c76, c77, c78, c79, c80, c81, c82, c83, c84, c85, c86, c87, c88, c89, c90, c91, c92, c93, c94, c95, c96, c97, c98, c99, c100, c101, c102, c103, c104, c105, c106, c107, c108, c109, c110, c111, c112, c113, c114, c115, c116, c117, c118, c119, c120, c121, c122], []⟩ WB := by
  dsimp only at hexit ⊢
  conv => arg 2; whnf
  have HEX := Lib.hid hexit
  clear hexit
  have HL := HLT.out
  refine wp_region_inv (by kernel_rfl) (fun L a' w' => ∃ u0 u1 u2 u3 u4 u5 u6 u7 u8 u9 : Value, a' = ⟨#[c0, c1, c2, c3, c4, c5, c6, .pointer (some ⟨b, 0, none⟩), c8, .pointer (some ⟨bw, 0, none⟩), va, c11, .pointer (some ⟨gX, 0, none⟩), u8, u9, c15, c16, c17, c18, c19, c20, c21, c22, c23, c24, c25, c26, c27, c28, c29, c30, c31, c32, c33, c34, c35, c36, c37, c38, c39, c40, c41, c42, c43, c44, c45, c46, c47, c48, c49, u0, u1, u2, u3, u4, u5, u6, u7, c58, c59, c60, c61, c62, c63, c64, c65, c66, c67, c68, c69, c70, c71, c72, c73, c74, c75, c76, c77, c78, c79, c80, c81, c82, c83, c84, c85, c86, c87, c88, c89, c90, c91, c92, c93, c94, c95, c96, c97, c98, c99, c100, c101, c102, c103, c104, c105, c106, c107, c108, c109, c110, c111, c112, c113, c114, c115, c116, c117, c118, c119, c120, c121, c122], []⟩ ∧ L.size = 10 ∧ RP (reg9S b bw kind oa ob oc ok ol n0 n1 va ph) L [u0, u1, u2, u3, u4, u5, u6, u7, u8, u9] w') ?_ ?_ ?_ ?_
  · exact ⟨_, _, _, _, _, _, _, _, _, _, rfl, by simp, RP.init (fun i => did_none _ _) (fun x y => HL 0 x y _ _ (H0.out x y) (below_drewN (Below.refl _ _) 1))⟩
  · rintro L a' w' i hL hi hnd hdep ⟨u0, u1, u2, u3, u4, u5, u6, u7, u8, u9, rfl, hLn, hI⟩
    dsimp only
    have hsz : ∀ i, (L.setIfInBounds i true).size = 10 := fun i => by simpa using hLn
    have hL10 : L.size = 10 := hL
    have HI := Lib.hid hI
    obtain ⟨kk, xx, yy, hph⟩ := hI.any
    obtain ⟨z0, z1, z2, z3, z4, z5, z6, z7⟩ := HCE.out _ _ _ _ hph
    clear hI hph
    match i, hi with
    | 0, _ =>
      have HN := Lib.hid hnd
      clear hdep hnd
      refine wpOp_step rfl (fun K' hK => ?_)
      go_simp
      exact hK _ _ ⟨_, _, _, _, _, _, _, _, _, _, rfl, hsz _, HI.out.val 0 _ HN.out (show (3 : Nat) ≠ 0 by decide) (show (7 : Nat) ≠ 0 by decide) HL (Below.refl _ _) (by show 0 < 10; omega) rfl⟩
    | 1, _ =>
      have HN := Lib.hid hnd
      clear hdep hnd
      refine wpOp_step rfl (fun K' hK => ?_)
      go_simp
      exact hK _ _ ⟨_, _, _, _, _, _, _, _, _, _, rfl, hsz _, HI.out.val 1 _ HN.out (show (3 : Nat) ≠ 1 by decide) (show (7 : Nat) ≠ 1 by decide) HL (Below.refl _ _) (by show 1 < 10; omega) rfl⟩
    | 2, _ =>
      have HN := Lib.hid hnd
      clear hdep hnd
      refine wpOp_step rfl (fun K' hK => ?_)
      go_simp
      exact hK _ _ ⟨_, _, _, _, _, _, _, _, _, _, rfl, hsz _, HI.out.val 2 _ HN.out (show (3 : Nat) ≠ 2 by decide) (show (7 : Nat) ≠ 2 by decide) HL (Below.refl _ _) (by show 2 < 10; omega) rfl⟩
    | 3, _ =>
      have HN := Lib.hid hnd
      have q0 := (HI.out.got 0 (hdep _ rfl ⟨0, .data⟩ (by simp) (by kernel_rfl)) rfl).symm
      subst q0
      have q1 := (HI.out.got 1 (hdep _ rfl ⟨1, .data⟩ (by simp) (by kernel_rfl)) rfl).symm
      subst q1
      have q2 := (HI.out.got 2 (hdep _ rfl ⟨2, .data⟩ (by simp) (by kernel_rfl)) rfl).symm
      subst q2
      obtain ⟨x, y, hp, hput⟩ := HI.out.call0 3 rfl HN.out
      have HP := Lib.hid hput
      clear hput hdep hnd
      refine wpOp_step rfl (fun K' hK => ?_)
      go_simp
      refine (HC0.out x y _ hp).mono ?_
      rintro e w1 ⟨v, rfl, hp1⟩
      exact hK _ _ ⟨_, _, _, _, _, _, _, _, _, _, rfl, hsz _, HP.out v w1 (by omega) (by show 3 < 10; omega) (show (3 : Nat) ≠ 7 by decide) rfl hp1⟩
    | 4, _ =>
      have HN := Lib.hid hnd
      clear hdep hnd
      refine wpOp_step rfl (fun K' hK => ?_)
      go_simp
      exact hK _ _ ⟨_, _, _, _, _, _, _, _, _, _, rfl, hsz _, HI.out.val 4 _ HN.out (show (3 : Nat) ≠ 4 by decide) (show (7 : Nat) ≠ 4 by decide) HL (Below.refl _ _) (by show 4 < 10; omega) rfl⟩
    | 5, _ =>
      have HN := Lib.hid hnd
      clear hdep hnd
      refine wpOp_step rfl (fun K' hK => ?_)
      go_simp
      exact hK _ _ ⟨_, _, _, _, _, _, _, _, _, _, rfl, hsz _, HI.out.val 5 _ HN.out (show (3 : Nat) ≠ 5 by decide) (show (7 : Nat) ≠ 5 by decide) HL (Below.refl _ _) (by show 5 < 10; omega) rfl⟩
    | 6, _ =>
      have HN := Lib.hid hnd
      clear hdep hnd
      refine wpOp_step rfl (fun K' hK => ?_)
      go_simp
      exact hK _ _ ⟨_, _, _, _, _, _, _, _, _, _, rfl, hsz _, HI.out.val 6 _ HN.out (show (3 : Nat) ≠ 6 by decide) (show (7 : Nat) ≠ 6 by decide) HL (Below.refl _ _) (by show 6 < 10; omega) rfl⟩
    | 7, _ =>
      have HN := Lib.hid hnd
      have q4 := (HI.out.got 4 (hdep _ rfl ⟨4, .data⟩ (by simp) (by kernel_rfl)) rfl).symm
      subst q4
      have q5 := (HI.out.got 5 (hdep _ rfl ⟨5, .data⟩ (by simp) (by kernel_rfl)) rfl).symm
      subst q5
      have q6 := (HI.out.got 6 (hdep _ rfl ⟨6, .data⟩ (by simp) (by kernel_rfl)) rfl).symm
      subst q6
      obtain ⟨x, y, hp, hput⟩ := HI.out.call1 7 rfl HN.out (hdep _ rfl ⟨3, .chain⟩ (by simp) (by kernel_rfl))
      have HP := Lib.hid hput
      clear hput hdep hnd
      refine wpOp_step rfl (fun K' hK => ?_)
      go_simp
      refine (HC1.out x y _ hp).mono ?_
      rintro e w1 ⟨v, rfl, hp1⟩
      exact hK _ _ ⟨_, _, _, _, _, _, _, _, _, _, rfl, hsz _, HP.out v w1 (by omega) (by show 7 < 10; omega) (show (3 : Nat) ≠ 7 by decide) rfl hp1⟩
    | 8, _ =>
      have HN := Lib.hid hnd
      have h3 := hdep _ rfl ⟨3, .data⟩ (by simp) (by kernel_rfl)
      have HD := Lib.hid h3
      clear hdep hnd h3
      refine wpOp_step rfl (fun K' hK => ?_)
      go_simp
      exact hK _ _ ⟨_, _, _, _, _, _, _, _, _, _, rfl, hsz _, HI.out.copy 8 3 HN.out HD.out (show (3 : Nat) ≠ 8 by decide) (show (7 : Nat) ≠ 8 by decide) HL (by show 8 < 10; omega) rfl⟩
    | 9, _ =>
      have HN := Lib.hid hnd
      have h7 := hdep _ rfl ⟨7, .data⟩ (by simp) (by kernel_rfl)
      have HD := Lib.hid h7
      clear hdep hnd h7
      refine wpOp_step rfl (fun K' hK => ?_)
      go_simp
      exact hK _ _ ⟨_, _, _, _, _, _, _, _, _, _, rfl, hsz _, HI.out.copy 9 7 HN.out HD.out (show (3 : Nat) ≠ 9 by decide) (show (7 : Nat) ≠ 9 by decide) HL (by show 9 < 10; omega) rfl⟩
    | i + 10, hi => exact absurd hi (by show ¬ (i + 10 < 10); omega)
  · intro i o ho e he
    match i, ho with
    | 0, ho => cases ho; simp at he
    | 1, ho => cases ho; simp at he
    | 2, ho => cases ho; simp at he
    | 3, ho => cases ho; simp at he; rcases he with rfl | rfl | rfl <;> simp
    | 4, ho => cases ho; simp at he
    | 5, ho => cases ho; simp at he
    | 6, ho => cases ho; simp at he
    | 7, ho => cases ho; simp at he; rcases he with rfl | rfl | rfl | rfl <;> simp
    | 8, ho => cases ho; simp at he; rcases he with rfl | rfl | rfl | rfl | rfl | rfl | rfl | rfl | rfl | rfl <;> simp
    | 9, ho => cases ho; simp at he; rcases he with rfl | rfl | rfl | rfl | rfl | rfl | rfl | rfl | rfl | rfl | rfl <;> simp
    | i + 10, ho => simp at ho
  · rintro L a' w' hall ⟨u0, u1, u2, u3, u4, u5, u6, u7, u8, u9, rfl, hLn, hI⟩
    have q8 : u8 = u3 := hI.same 8 3 (hall 8 (by show 8 < 10; omega)) rfl
    have q9 : u9 = u7 := hI.same 9 7 (hall 9 (by show 9 < 10; omega)) rfl
    subst q8 q9
    exact HEX.out u0 u1 u2 u8 u4 u5 u6 u9 w' (hI.ends (hall 7 (by show 7 < 10; omega)))

end Go.Proofs.Ytlnkflmnjkmhkaa
