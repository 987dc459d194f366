/-
  Lemmas, joined: HeadC, Head7, Head8.
-/
import Derived.Test.YtlnkflmnjkmhkaaJS04
import Derived.Test.YtlnkflmnjkmhkaaJS10
import Derived.Test.YtlnkflmnjkmhkaaJS11
/-
  Ite at constants, of a store that is not full.
-/
namespace Go.Proofs.Ytlnkflmnjkmhkaa
open Go.RowKit Go.Maps
theorem iteF_one (s : BS) (a d : Int) (hf : s.full = false) : iteF s 1 a d = (s, rightP s.nodes a) := by
  unfold iteF
  have h1 : rightP s.nodes 1 = 1 := by unfold rightP; rw [if_pos (by omega)]
  rw [h1]
  simp [hf, iteP]
theorem iteF_zero (s : BS) (a d : Int) (hf : s.full = false) : iteF s 0 a d = (s, rightP s.nodes d) := by
  unfold iteF
  have h1 : rightP s.nodes 0 = 0 := by unfold rightP; rw [if_pos (by omega)]
  rw [h1]
  by_cases h : rightP s.nodes a = rightP s.nodes d
  · simp [hf, iteP, h]
  · simp [hf, iteP, h]
theorem rightP_zero (l : List T3) : rightP l 0 = 0 := by unfold rightP; rw [if_pos (by omega)]
theorem rightP_one (l : List T3) : rightP l 1 = 1 := by unfold rightP; rw [if_pos (by omega)]
theorem notF_0 (s : BS) (hf : s.full = false) : notF s 0 = (s, 1) := by unfold notF; rw [iteF_zero s 0 1 hf, rightP_one]
theorem notF_1 (s : BS) (hf : s.full = false) : notF s 1 = (s, 0) := by unfold notF; rw [iteF_one s 0 1 hf, rightP_zero]
theorem andF_11 (s : BS) (hf : s.full = false) : andF s 1 1 = (s, 1) := by unfold andF; rw [iteF_one s 1 0 hf, rightP_one]
theorem andF_10 (s : BS) (hf : s.full = false) : andF s 1 0 = (s, 0) := by unfold andF; rw [iteF_one s 0 0 hf, rightP_zero]
theorem orF_00 (s : BS) (hf : s.full = false) : orF s 0 0 = (s, 0) := by unfold orF; rw [iteF_zero s 1 0 hf, rightP_zero]

end Go.Proofs.Ytlnkflmnjkmhkaa

/-
  symhead.Take of the packet of the page's examples: the memory under way.
-/
namespace Go.Proofs.Ytlnkflmnjkmhkaa
open Go.RowKit Go.Maps

theorem IVec.keepBlock {W W' : World} {a : Addr} {n ca : Nat} {xs : List Int} (h : IVec W (.slice (some a) n ca) xs) (hk : W'.heap[a.block]? = W.heap[a.block]?) (hs : W.heap.size ≤ W'.heap.size) : IVec W' (.slice (some a) n ca) xs := by
  obtain ⟨pa, c, e, h1, h2, h3⟩ := h
  refine ⟨pa, c, e, h1, h2, fun h0 => ?_⟩
  obtain ⟨b1, o1, e1, hl, hc⟩ := h3 h0
  simp only [Value.slice.injEq] at e
  have ea : a = ⟨b1, o1, none⟩ := by have := e.1.trans e1; simpa using this
  subst ea
  exact ⟨b1, o1, e1, by omega, fun i hi => by rw [World.cell?_of_block (a := ⟨b1, o1 + i, none⟩) hk]; exact hc i hi⟩

/-- Take's memory: the program's box, the packet's, the result's; the packet's rows. -/
structure KM (W : World) (gp gx gr : Nat) (PL YL : List Value) (bs : List Int) (r ca vb lo q : Nat) (a : Addr) (v0 : Int) : Prop where
  prog : ∀ j v, PL[j]? = some v → W.cell? ⟨gp, j, none⟩ = some v
  box : ∀ j v, YL[j]? = some v → W.cell? ⟨gx, j, none⟩ = some v
  res : ∀ j, j < 10 → ∃ y, W.cell? ⟨gr, j, none⟩ = some y
  fx : ∀ j, W.frozen? ⟨gx, j, none⟩ = false
  fr : ∀ j, W.frozen? ⟨gr, j, none⟩ = false
  rc : W.cell? ⟨r, 0, none⟩ = some (.slice (some a) 8 ca)
  rv : IVec W (.slice (some a) 8 ca) bs
  vbc : W.cell? ⟨vb, 0, none⟩ = some (.int .i64 v0)
  vbf : W.frozen? ⟨vb, 0, none⟩ = false
  loc : W.cell? ⟨lo, 0, none⟩ = some (.slice (some ⟨q, 0, none⟩) 1 1)
  qc : ∃ zv, W.cell? ⟨q, 0, none⟩ = some zv
  qf : W.frozen? ⟨q, 0, none⟩ = false
  lx : gx < W.heap.size
  lr : gr < W.heap.size

variable {W W' : World} {gp gx gr : Nat} {PL YL : List Value} {bs : List Int} {r ca vb lo q : Nat} {a : Addr} {v0 : Int}

theorem KM.below (h : KM W gp gx gr PL YL bs r ca vb lo q a v0) (hb : Below W.heap.size W W') : KM W' gp gx gr PL YL bs r ca vb lo q a v0 := by
  have e : ∀ {b j x}, W.cell? ⟨b, j, none⟩ = some x → W'.cell? ⟨b, j, none⟩ = some x := fun {b j x} hx => (hb.cell (p := ⟨b, j, none⟩) (cell_there hx).1).trans hx
  have f : ∀ {b j}, b < W.heap.size → W.frozen? ⟨b, j, none⟩ = false → W'.frozen? ⟨b, j, none⟩ = false := fun {b j} hl hx => (hb.frozen (p := ⟨b, j, none⟩) hl).trans hx
  obtain ⟨zv, hz⟩ := h.qc
  exact ⟨fun j v hj => e (h.prog j v hj), fun j v hj => e (h.box j v hj), fun j hj => by obtain ⟨y, hy⟩ := h.res j hj; exact ⟨y, e hy⟩, fun j => f h.lx (h.fx j), fun j => f h.lr (h.fr j), e h.rc, h.rv.below hb, e h.vbc, f (cell_there h.vbc).1 h.vbf, e h.loc, ⟨zv, e hz⟩, f (cell_there hz).1 h.qf, Nat.lt_of_lt_of_le h.lx hb.size, Nat.lt_of_lt_of_le h.lr hb.size⟩

/-- .. behind the bytes' loop: the packet's box, the result's, and the rows that are written. -/
structure KM2 (W : World) (gx gr : Nat) (YL : List Value) (vb lo q : Nat) (v0 : Int) (zq : Value) : Prop where
  box : ∀ j v, YL[j]? = some v → W.cell? ⟨gx, j, none⟩ = some v
  res : ∀ j, j < 10 → ∃ y, W.cell? ⟨gr, j, none⟩ = some y
  fx : ∀ j, W.frozen? ⟨gx, j, none⟩ = false
  fr : ∀ j, W.frozen? ⟨gr, j, none⟩ = false
  vbc : W.cell? ⟨vb, 0, none⟩ = some (.int .i64 v0)
  vbf : W.frozen? ⟨vb, 0, none⟩ = false
  loc : W.cell? ⟨lo, 0, none⟩ = some (.slice (some ⟨q, 0, none⟩) 1 1)
  qc : W.cell? ⟨q, 0, none⟩ = some zq
  qf : W.frozen? ⟨q, 0, none⟩ = false
  lx : gx < W.heap.size
  lr : gr < W.heap.size
  ord : gx < gr ∧ gr < vb ∧ vb < lo ∧ lo < q

variable {zq : Value} {O O' : Nat → Prop}
theorem KM.two (h : KM W gp gx gr PL YL bs r ca vb lo q a v0) (ho : gx < gr ∧ gr < vb ∧ vb < lo ∧ lo < q) : ∃ zq, KM2 W gx gr YL vb lo q v0 zq := by
  obtain ⟨zq, hz⟩ := h.qc
  exact ⟨zq, h.box, h.res, h.fx, h.fr, h.vbc, h.vbf, h.loc, hz, h.qf, h.lx, h.lr, ho⟩
theorem KM2.ext (h : KM2 W gx gr YL vb lo q v0 zq) (he : Ext O O' W W') (hO : ∀ k, gx ≤ k → k ≤ q → ¬ O k) : KM2 W' gx gr YL vb lo q v0 zq := by
  obtain ⟨o1, o2, o3, o4⟩ := h.ord
  have e : ∀ {b j x}, gx ≤ b → b ≤ q → W.cell? ⟨b, j, none⟩ = some x → W'.cell? ⟨b, j, none⟩ = some x := fun {b j x} hb hq hx => (he.cell (p := ⟨b, j, none⟩) (cell_there hx).1 (hO _ hb hq)).1.trans hx
  have f : ∀ {b j}, gx ≤ b → b ≤ q → b < W.heap.size → W.frozen? ⟨b, j, none⟩ = false → W'.frozen? ⟨b, j, none⟩ = false := fun {b j} hb hq hl hx => (he.cell (p := ⟨b, j, none⟩) hl (hO _ hb hq)).2.1.trans hx
  exact ⟨fun j v hj => e (Nat.le_refl _) (by omega) (h.box j v hj), fun j hj => by obtain ⟨y, hy⟩ := h.res j hj; exact ⟨y, e (by omega) (by omega) hy⟩, fun j => f (Nat.le_refl _) (by omega) h.lx (h.fx j), fun j => f (by omega) (by omega) h.lr (h.fr j), e (by omega) (by omega) h.vbc, f (by omega) (by omega) (cell_there h.vbc).1 h.vbf, e (by omega) (by omega) h.loc, e (by omega) (by omega) h.qc, f (by omega) (by omega) (cell_there h.qc).1 h.qf, Nat.lt_of_lt_of_le h.lx he.1.size, Nat.lt_of_lt_of_le h.lr he.1.size, h.ord⟩
theorem KM2.below (h : KM2 W gx gr YL vb lo q v0 zq) (hb : Below W.heap.size W W') : KM2 W' gx gr YL vb lo q v0 zq := h.ext (O := fun _ => False) (O' := fun _ => False) (Ext.of_below hb) (fun _ _ _ h => h)

theorem cell_set_other {W : World} {g i b j : Nat} {x v : Value} (h : b ≠ g) (hx : W.cell? ⟨b, j, none⟩ = some v) : (W.setCell ⟨g, i, none⟩ x).cell? ⟨b, j, none⟩ = some v := (World.cell?_of_block (a := ⟨b, j, none⟩) (setCell_heap (w := W) (g := g) (i := i) (k := b) (v := x) h)).trans hx
theorem KM2.setQ (h : KM2 W gx gr YL vb lo q v0 zq) (z : Value) : KM2 (W.setCell ⟨q, 0, none⟩ z) gx gr YL vb lo q v0 z := by
  obtain ⟨o1, o2, o3, o4⟩ := h.ord
  exact ⟨fun j v hj => cell_set_other (by omega) (h.box j v hj), fun j hj => by obtain ⟨y, hy⟩ := h.res j hj; exact ⟨y, cell_set_other (by omega) hy⟩, fun j => by rw [World.frozen?_setCell]; exact h.fx j, fun j => by rw [World.frozen?_setCell]; exact h.fr j, cell_set_other (by omega) h.vbc, by rw [World.frozen?_setCell]; exact h.vbf, cell_set_other (by omega) h.loc, World.cell?_setCell_same _ _ _ h.qc, by rw [World.frozen?_setCell]; exact h.qf, by simpa [World.setCell] using h.lx, by simpa [World.setCell] using h.lr, h.ord⟩
theorem KM2.setVb (h : KM2 W gx gr YL vb lo q v0 zq) (n : Int) : KM2 (W.setCell ⟨vb, 0, none⟩ (.int .i64 n)) gx gr YL vb lo q n zq := by
  obtain ⟨o1, o2, o3, o4⟩ := h.ord
  exact ⟨fun j v hj => cell_set_other (by omega) (h.box j v hj), fun j hj => by obtain ⟨y, hy⟩ := h.res j hj; exact ⟨y, cell_set_other (by omega) hy⟩, fun j => by rw [World.frozen?_setCell]; exact h.fx j, fun j => by rw [World.frozen?_setCell]; exact h.fr j, World.cell?_setCell_same _ _ _ h.vbc, by rw [World.frozen?_setCell]; exact h.vbf, cell_set_other (by omega) h.loc, cell_set_other (by omega) h.qc, by rw [World.frozen?_setCell]; exact h.qf, by simpa [World.setCell] using h.lx, by simpa [World.setCell] using h.lr, h.ord⟩
theorem KM2.setBox (h : KM2 W gx gr YL vb lo q v0 zq) (i : Nat) (v : Value) (hi : i < YL.length) : KM2 (W.setCell ⟨gx, i, none⟩ v) gx gr (YL.set i v) vb lo q v0 zq := by
  obtain ⟨o1, o2, o3, o4⟩ := h.ord
  refine ⟨fun j x hj => ?_, fun j hj => by obtain ⟨y, hy⟩ := h.res j hj; exact ⟨y, cell_set_other (by omega) hy⟩, fun j => by rw [World.frozen?_setCell]; exact h.fx j, fun j => by rw [World.frozen?_setCell]; exact h.fr j, cell_set_other (by omega) h.vbc, by rw [World.frozen?_setCell]; exact h.vbf, cell_set_other (by omega) h.loc, cell_set_other (by omega) h.qc, by rw [World.frozen?_setCell]; exact h.qf, by simpa [World.setCell] using h.lx, by simpa [World.setCell] using h.lr, h.ord⟩
  rw [List.getElem?_set] at hj
  by_cases e : i = j
  · subst e
    rw [if_pos rfl, if_pos hi] at hj
    cases hj
    exact World.cell?_setCell_same _ _ _ (h.box i _ (List.getElem?_eq_getElem hi))
  · rw [if_neg e] at hj
    have hx := h.box j x hj
    exact (World.cell?_setCell_other (w := W) (a := ⟨gx, i, none⟩) (b := ⟨gx, j, none⟩) (v := v) (fun hh => e (by injection hh))).trans hx

/-- Cells laid one behind the other. -/
def setsL (W : World) (g : Nat) : Nat → List Value → World
  | _, [] => W
  | i, v :: vs => setsL (W.setCell ⟨g, i, none⟩ v) g (i + 1) vs
theorem setsL_heap {g k : Nat} (hk : k ≠ g) : ∀ (vs : List Value) (W : World) (i : Nat), (setsL W g i vs).heap[k]? = W.heap[k]?
  | [], _, _ => rfl
  | v :: vs, W, i => (setsL_heap hk vs _ _).trans (setCell_heap hk)
theorem setsL_below {g n : Nat} {w : World} (hn : n ≤ g) : ∀ (vs : List Value) (W : World) (i : Nat), Below n w W → Below n w (setsL W g i vs)
  | [], _, _, h => h
  | v :: vs, W, i, h => setsL_below hn vs _ _ (h.setCell hn v)
theorem setsL_frozen {g : Nat} (p : Addr) : ∀ (vs : List Value) (W : World) (i : Nat), (setsL W g i vs).frozen? p = W.frozen? p
  | [], _, _ => rfl
  | v :: vs, W, i => (setsL_frozen p vs _ _).trans (World.frozen?_setCell ..)
theorem setsL_size {g : Nat} : ∀ (vs : List Value) (W : World) (i : Nat), (setsL W g i vs).heap.size = W.heap.size
  | [], _, _ => rfl
  | v :: vs, W, i => (setsL_size vs _ _).trans (by simp [World.setCell])
theorem setsL_old {g j : Nat} : ∀ (vs : List Value) (W : World) (i : Nat), j < i → (setsL W g i vs).cell? ⟨g, j, none⟩ = W.cell? ⟨g, j, none⟩
  | [], _, _, _ => rfl
  | v :: vs, W, i, h => (setsL_old vs _ _ (by omega)).trans (World.cell?_setCell_other (w := W) (a := ⟨g, i, none⟩) (b := ⟨g, j, none⟩) (v := v) (fun hh => by injection hh; omega))
theorem setsL_new {g j : Nat} {x : Value} : ∀ (vs : List Value) (W : World) (i : Nat), (∀ m, m < vs.length → ∃ y, W.cell? ⟨g, i + m, none⟩ = some y) → vs[j]? = some x → (setsL W g i vs).cell? ⟨g, i + j, none⟩ = some x
  | [], _, _, _, h => by simp at h
  | v :: vs, W, i, hy, h => by
    obtain ⟨y, h0⟩ := hy 0 (by simp)
    match j, h with
    | 0, h =>
      cases h
      exact (setsL_old vs _ _ (by omega)).trans (World.cell?_setCell_same _ _ _ h0)
    | j + 1, h =>
      rw [show i + (j + 1) = i + 1 + j by omega]
      refine setsL_new vs _ (i + 1) (fun m hm => ?_) (by simpa using h)
      obtain ⟨y1, h1⟩ := hy (m + 1) (by simp; omega)
      exact ⟨y1, (World.cell?_setCell_other (w := W) (a := ⟨g, i, none⟩) (b := ⟨g, i + 1 + m, none⟩) (v := v) (fun hh => by injection hh; omega)).trans (by rw [show i + 1 + m = i + (m + 1) by omega]; exact h1)⟩
theorem KM2.setR (h : KM2 W gx gr YL vb lo q v0 zq) (L : List Value) (hL : L.length = 10) : KM2 (setsL W gr 0 L) gx gr YL vb lo q v0 zq ∧ ∀ j v, L[j]? = some v → (setsL W gr 0 L).cell? ⟨gr, j, none⟩ = some v := by
  obtain ⟨o1, o2, o3, o4⟩ := h.ord
  have hz : ∀ j v, L[j]? = some v → (setsL W gr 0 L).cell? ⟨gr, j, none⟩ = some v := fun j v hj => by
    have := setsL_new (g := gr) (j := j) L W 0 (fun m hm => by rw [Nat.zero_add]; exact h.res m (by omega)) hj
    rwa [Nat.zero_add] at this
  have c : ∀ {b j x}, b ≠ gr → W.cell? ⟨b, j, none⟩ = some x → (setsL W gr 0 L).cell? ⟨b, j, none⟩ = some x := fun {b j x} hb hx => (World.cell?_of_block (a := ⟨b, j, none⟩) (setsL_heap (g := gr) (k := b) hb L W 0)).trans hx
  exact ⟨⟨fun j v hj => c (by omega) (h.box j v hj), fun j hj => ⟨L[j]'(by omega), hz j _ (List.getElem?_eq_getElem _)⟩, fun j => (setsL_frozen _ _ _ _).trans (h.fx j), fun j => (setsL_frozen _ _ _ _).trans (h.fr j), c (by omega) h.vbc, (setsL_frozen _ _ _ _).trans h.vbf, c (by omega) h.loc, c (by omega) h.qc, (setsL_frozen _ _ _ _).trans h.qf, by rw [setsL_size]; exact h.lx, by rw [setsL_size]; exact h.lr, h.ord⟩, hz⟩

end Go.Proofs.Ytlnkflmnjkmhkaa

/-
  symhead.Take of the packet of the page's examples: the phases of its regions.
-/
namespace Go.Proofs.Ytlnkflmnjkmhkaa
open Go.RowKit Go.Maps

/-- The field that is taken. -/
def FldV (W : World) (q : Nat) (bs : List Int) (v : Value) : Prop := ∃ fa fc, v = .slice (some fa) 8 fc ∧ IVec W v bs ∧ q < fa.block
theorem FldV.below {W W' : World} {q : Nat} {bs : List Int} {v : Value} (h : FldV W q bs v) (hb : Below W.heap.size W W') : FldV W' q bs v := by
  obtain ⟨fa, fc, e, h1, h2⟩ := h
  exact ⟨fa, fc, e, h1.below hb, h2⟩
theorem FldV.set {W : World} {q : Nat} {bs : List Int} {v : Value} (h : FldV W q bs v) {b j : Nat} {x : Value} (hb : b ≤ q) : FldV (W.setCell ⟨b, j, none⟩ x) q bs v := by
  obtain ⟨fa, fc, rfl, h1, h2⟩ := h
  exact ⟨fa, fc, rfl, h1.setOther (by omega), h2⟩
theorem FldV.of_ret {W W' : World} {q : Nat} {bs xs : List Int} {e : Ending} (h : RetVecN W xs e W') (hx : xs = bs) (hbs : bs.length = 8) (hq : q < W.heap.size) : ∃ v, e = .returned v ∧ FldV W' q bs v ∧ Below W.heap.size W W' := by
  subst hx
  obtain ⟨v, rfl, hv, hk, -, hb⟩ := h
  obtain ⟨pa, c, rfl, -, -, hc⟩ := hv.shape
  obtain ⟨b1, o1, rfl, -, -⟩ := hc (by omega)
  rw [hbs] at hv hk ⊢
  exact ⟨_, rfl, ⟨_, _, rfl, hv, by have := hk b1 rfl (by omega); show q < b1; omega⟩, hb⟩

/-- Behind k acts of region 17. -/
def P17 (w : World) (gx gr : Nat) (YL : List Value) (bs : List Int) (vb lo q : Nat) (al : Value) (k : Nat) (f : Nat → Value) (W : World) : Prop :=
  (∃ zq, KM2 W gx gr YL vb lo q 0 zq ∧ (k = 3 → zq = f 1)) ∧ Below w.heap.size w W ∧ (k = 0 → IVec W al bs) ∧ (k = 1 → IVec W (f 0) bs) ∧ (2 ≤ k → FldV W q bs (f 1))

variable {w : World} {gx gr : Nat} {YL : List Value} {bs : List Int} {vb lo q ac : Nat} {al : Addr}

theorem p17_fine : (take17S gx lo q ac al (P17 w gx gr YL bs vb lo q (.slice (some al) 8 ac))).Fine where
  loc := fun k f g W e ⟨⟨zq, h1, h1'⟩, h2, h3, h4, h5⟩ => ⟨⟨zq, h1, fun hk => by rw [← e 1 (by omega)]; exact h1' hk⟩, h2, h3, fun hk => by rw [← e 0 (by omega)]; exact h4 hk, fun hk => by rw [← e 1 (by omega)]; exact h5 hk⟩
  later := fun k f W W' ⟨⟨zq, h1, h1'⟩, h2, h3, h4, h5⟩ hb => ⟨⟨zq, h1.below hb, h1'⟩, h2.trans (hb.mono h2.size), fun hk => (h3 hk).below hb, fun hk => (h4 hk).below hb, fun hk => (h5 hk).below hb⟩
  new := fun i P hP => (take17K _ _ _ _ _ _ i P hP).elim

theorem slice8 (bs : List Int) (hbs : bs.length = 8) : sliceL bs 7 0 = bs := by
  unfold sliceL
  rw [if_neg (by omega), hbs]
  simp only [Int.toNat_zero, List.drop_zero]
  exact List.take_of_length_le (by omega)
theorem resize8 (bs : List Int) (hbs : bs.length = 8) : resizeL bs (max 0 (min (8 : Int) 256)).toNat = bs := by
  unfold resizeL
  have e : (max 0 (min (8 : Int) 256)).toNat = 8 := by decide
  rw [e, hbs, List.take_of_length_le (by omega)]
  simp

theorem p17_slice (hbs : bs.length = 8) (f : Nat → Value) (W : World) (h : P17 w gx gr YL bs vb lo q (.slice (some al) 8 ac) 0 f W) :
    Calls Try.prog 28 #[.slice (some al) 8 ac, .int .i64 7, .int .i64 0] W fun e w' => ∃ v, e = .returned v ∧ P17 w gx gr YL bs vb lo q (.slice (some al) 8 ac) 1 (fun m => if m = 0 then v else f m) w' ∧ Below W.heap.size W w' := by
  obtain ⟨⟨zq, h1, h1'⟩, h2, h3, h4, h5⟩ := h
  refine (symbvSlice_any _ bs 7 0 W (h3 rfl) (by omega)).mono ?_
  rintro e w' hr
  rw [slice8 bs hbs] at hr
  obtain ⟨v, rfl, hv, -, -, hb⟩ := hr
  exact ⟨v, rfl, ⟨⟨zq, h1.below hb, fun hk => by omega⟩, h2.trans (hb.mono h2.size), fun hk => by omega, fun _ => hv, fun hk => by omega⟩, hb⟩

theorem p17_resize (hbs : bs.length = 8) (f : Nat → Value) (W : World) (h : P17 w gx gr YL bs vb lo q (.slice (some al) 8 ac) 1 f W) :
    Calls Try.prog 29 #[f 0, .int .i64 8] W fun e w' => ∃ v, e = .returned v ∧ P17 w gx gr YL bs vb lo q (.slice (some al) 8 ac) 2 (fun m => if m = 1 then v else f m) w' ∧ Below W.heap.size W w' := by
  obtain ⟨⟨zq, h1, h1'⟩, h2, h3, h4, h5⟩ := h
  refine (symbvResize_any _ bs 8 W (h4 rfl) (by omega)).mono ?_
  rintro e w' hr
  obtain ⟨v, rfl, hv, hb⟩ := FldV.of_ret hr (resize8 bs hbs) hbs (cell_there h1.qc).1
  exact ⟨v, rfl, ⟨⟨zq, h1.below hb, fun hk => by omega⟩, h2.trans (hb.mono h2.size), fun hk => by omega, fun hk => by omega, fun _ => hv⟩, hb⟩

theorem p17_store (f : Nat → Value) (W : World) (hgx : w.heap.size ≤ gx) (h : P17 w gx gr YL bs vb lo q (.slice (some al) 8 ac) 2 f W) :
    (∃ sp sm sc, f 1 = .slice sp sm sc) ∧ (∃ y, W.cell? ⟨q, 0, none⟩ = some y) ∧ W.frozen? ⟨q, 0, none⟩ = false ∧ P17 w gx gr YL bs vb lo q (.slice (some al) 8 ac) 3 (fun m => if m = 2 then undef else f m) (W.setCell ⟨q, 0, none⟩ (f 1)) := by
  obtain ⟨⟨zq, h1, h1'⟩, h2, h3, h4, h5⟩ := h
  have h5' := h5 (by omega)
  obtain ⟨fa, fc, e, -⟩ := h5'
  obtain ⟨o1, o2, o3, o4⟩ := h1.ord
  exact ⟨⟨_, _, _, e⟩, ⟨_, h1.qc⟩, h1.qf, ⟨f 1, h1.setQ _, fun _ => rfl⟩, h2.setCell (by show w.heap.size ≤ q; omega) _, fun hk => by omega, fun hk => by omega, fun _ => (h5 (by omega)).set (Nat.le_refl _)⟩

/-- Behind a call of the store. -/
structure KS (w : World) (b : Nat) (s : BS) (O O' : Nat → Prop) (bs : List Int) (gx gr : Nat) (YL : List Value) (vb lo q : Nat) (v0 : Int) (fld : Value) (W : World) : Prop where
  sto : Sto W b O' s
  ext : Ext O O' w W
  mem : KM2 W gx gr YL vb lo q v0 fld
  fv : IVecX W O' fld bs
  fbk : ∃ fa fc, fld = .slice (some fa) 8 fc ∧ q < fa.block
  off : ∀ k, gx ≤ k → k ≤ q → ¬ O' k

variable {b : Nat} {s s' : BS} {O O' O2 : Nat → Prop} {v0 : Int} {fld : Value} {W W' : World}
theorem KS.to (h : KS w b s O O' bs gx gr YL vb lo q v0 fld W) (hs : Sto W' b O2 s') (he : Ext O' O2 W W') : KS w b s' O O2 bs gx gr YL vb lo q v0 fld W' :=
  ⟨hs, h.ext.trans he, h.mem.ext he h.off, h.fv.ext he, h.fbk, fun k h1 h2 h3 => by
    rcases he.2 k h3 with a | a
    · exact h.off k h1 h2 a
    · have := (cell_there h.mem.qc).1; have : q < W.heap.size := this; omega⟩
theorem KS.below (h : KS w b s O O' bs gx gr YL vb lo q v0 fld W) (hb : Below W.heap.size W W') : KS w b s O O' bs gx gr YL vb lo q v0 fld W' :=
  h.to (h.sto.below hb) (Ext.of_below hb)

theorem KS.keep (h : KS w b s O O' bs gx gr YL vb lo q v0 fld W) {YL' : List Value} {v0' : Int} {g : Nat} (hg : gx ≤ g ∧ g ≤ q) (hw : w.heap.size ≤ gx) (hm : KM2 W' gx gr YL' vb lo q v0' fld) (hk : ∀ k, k ≠ g → W'.heap[k]? = W.heap[k]?) (hB : Below w.heap.size w W → Below w.heap.size w W') (hBW : Below g W W') : KS w b s O O' bs gx gr YL' vb lo q v0' fld W' := by
  obtain ⟨fa, fc, e, hf⟩ := h.fbk
  subst e
  refine ⟨h.sto.kept fun k hO => hk k (fun q => h.off k (by omega) (by omega) hO), ⟨⟨hBW.os.trans h.ext.1.os, hBW.tape.trans h.ext.1.tape, hBW.output.trans h.ext.1.output, Nat.le_trans h.ext.1.size hBW.size, fun k hk1 hO => (hk k (by omega)).trans (h.ext.1.block k hk1 hO)⟩, h.ext.2⟩, hm, ⟨?_, h.fv.2⟩, ⟨_, _, rfl, hf⟩, h.off⟩
  exact h.fv.1.keepBlock (hk _ (by omega)) hBW.size

/-- The packet's cells behind k acts of region 21. -/
def yl21 (YL : List Value) (r k : Nat) : List Value := if k ≤ 2 then YL else if k ≤ 4 then YL.set 2 (.slice (some ⟨r, 0, none⟩) 0 0) else (YL.set 2 (.slice (some ⟨r, 0, none⟩) 0 0)).set 0 (.int .i64 1)
def P21 (w : World) (b : Nat) (s : BS) (O : Nat → Prop) (bs : List Int) (gx gr : Nat) (YL : List Value) (vb lo q r : Nat) (fld : Value) (k : Nat) (f : Nat → Value) (W : World) : Prop :=
  (∃ O', KS w b s O O' bs gx gr (yl21 YL r k) vb lo q (if k ≤ 3 then 0 else 1) fld W) ∧ (1 ≤ k → f 0 = .int .i64 1) ∧ (2 ≤ k → f 1 = .int .i64 1)

variable {r vc : Nat}
theorem p21_fine : (take21S gx b vb vc r (P21 w b s O bs gx gr YL vb lo q r fld)).Fine where
  loc := fun k f g W e ⟨h1, h2, h3⟩ => ⟨h1, fun hk => by rw [← e 0 (by omega)]; exact h2 hk, fun hk => by rw [← e 1 (by omega)]; exact h3 hk⟩
  later := fun k f W W' ⟨⟨O', h1⟩, h2, h3⟩ hb => ⟨⟨O', h1.below hb⟩, h2, h3⟩
  new := fun i P hP => (take21K _ _ _ _ _ _ i P hP).elim
theorem p21_not (hf : s.full = false) (f : Nat → Value) (W : World) (h : P21 w b s O bs gx gr YL vb lo q r fld 0 f W) :
    Calls Try.prog 85 #[.pointer (some ⟨b, 0, none⟩), .int .i64 0] W fun e w' => ∃ v, e = .returned v ∧ P21 w b s O bs gx gr YL vb lo q r fld 1 (fun m => if m = 0 then v else f m) w' := by
  obtain ⟨⟨O', h1⟩, -, -⟩ := h
  refine (not_sto b O' s 0 W h1.sto).mono ?_
  rintro e w' ⟨rfl, O2, hs, he⟩
  rw [notF_0 s hf] at hs ⊢
  exact ⟨_, rfl, ⟨O2, h1.to hs he⟩, fun _ => rfl, fun hk => by omega⟩
theorem p21_and (hf : s.full = false) (f : Nat → Value) (W : World) (h : P21 w b s O bs gx gr YL vb lo q r fld 1 f W) :
    Calls Try.prog 82 #[.pointer (some ⟨b, 0, none⟩), .int .i64 1, f 0] W fun e w' => ∃ v, e = .returned v ∧ P21 w b s O bs gx gr YL vb lo q r fld 2 (fun m => if m = 1 then v else f m) w' := by
  obtain ⟨⟨O', h1⟩, h2, -⟩ := h
  rw [h2 (Nat.le_refl _)]
  refine (and_sto b O' s 1 1 W h1.sto).mono ?_
  rintro e w' ⟨rfl, O2, hs, he⟩
  rw [andF_11 s hf] at hs ⊢
  exact ⟨_, rfl, ⟨O2, h1.to hs he⟩, fun _ => h2 (Nat.le_refl _), fun _ => rfl⟩
theorem p21_box (hw : w.heap.size ≤ gx) (i : Nat) (x : Value) {YL : List Value} (hi : i < YL.length) (h : KS w b s O O' bs gx gr YL vb lo q v0 fld W) : (∃ y, W.cell? ⟨gx, i, none⟩ = some y) ∧ W.frozen? ⟨gx, i, none⟩ = false ∧ KS w b s O O' bs gx gr (YL.set i x) vb lo q v0 fld (W.setCell ⟨gx, i, none⟩ x) := by
  obtain ⟨o1, o2, o3, o4⟩ := h.mem.ord
  refine ⟨⟨_, h.mem.box i _ (List.getElem?_eq_getElem hi)⟩, h.mem.fx i, h.keep (g := gx) ⟨Nat.le_refl _, by omega⟩ hw (h.mem.setBox i x hi) (fun k hk => setCell_heap hk) (fun hB => hB.setCell hw _) ((Below.refl gx W).setCell (p := ⟨gx, i, none⟩) (Nat.le_refl gx) x)⟩
theorem p21_st2 (hw : w.heap.size ≤ gx) (hl : YL.length = 10) (f : Nat → Value) (W : World) (h : P21 w b s O bs gx gr YL vb lo q r fld 2 f W) : (∃ y, W.cell? ⟨gx, 2, none⟩ = some y) ∧ W.frozen? ⟨gx, 2, none⟩ = false ∧ P21 w b s O bs gx gr YL vb lo q r fld 3 (fun m => if m = 2 then undef else f m) (W.setCell ⟨gx, 2, none⟩ (.slice (some ⟨r, 0, none⟩) 0 0)) := by
  obtain ⟨⟨O', h1⟩, h2, h3⟩ := h
  obtain ⟨a1, a2, a3⟩ := p21_box hw 2 (.slice (some ⟨r, 0, none⟩) 0 0) (by unfold yl21; rw [if_pos (by omega)]; omega) h1
  exact ⟨a1, a2, ⟨O', a3⟩, fun _ => h2 (by omega), fun _ => h3 (by omega)⟩
theorem p21_st3 (hw : w.heap.size ≤ gx) (f : Nat → Value) (W : World) (h : P21 w b s O bs gx gr YL vb lo q r fld 3 f W) : (∃ y, W.cell? ⟨vb, 0, none⟩ = some y) ∧ W.frozen? ⟨vb, 0, none⟩ = false ∧ P21 w b s O bs gx gr YL vb lo q r fld 4 (fun m => if m = 3 then undef else f m) (W.setCell ⟨vb, 0, none⟩ (.int .i64 1)) := by
  obtain ⟨⟨O', h1⟩, h2, h3⟩ := h
  obtain ⟨o1, o2, o3, o4⟩ := h1.mem.ord
  exact ⟨⟨_, h1.mem.vbc⟩, h1.mem.vbf, ⟨O', h1.keep (g := vb) ⟨by omega, by omega⟩ hw (h1.mem.setVb 1) (fun k hk => setCell_heap hk) (fun hB => hB.setCell (by show w.heap.size ≤ vb; omega) _) ((Below.refl vb W).setCell (p := ⟨vb, 0, none⟩) (Nat.le_refl vb) _)⟩, fun _ => h2 (by omega), fun _ => h3 (by omega)⟩
theorem p21_st4 (hw : w.heap.size ≤ gx) (hl : YL.length = 10) (f : Nat → Value) (W : World) (h : P21 w b s O bs gx gr YL vb lo q r fld 4 f W) : (∃ sn : Int, f 1 = .int .i64 sn) ∧ (∃ y, W.cell? ⟨gx, 0, none⟩ = some y) ∧ W.frozen? ⟨gx, 0, none⟩ = false ∧ P21 w b s O bs gx gr YL vb lo q r fld 5 (fun m => if m = 4 then undef else f m) (W.setCell ⟨gx, 0, none⟩ (f 1)) := by
  obtain ⟨⟨O', h1⟩, h2, h3⟩ := h
  rw [h3 (by omega)]
  obtain ⟨a1, a2, a3⟩ := p21_box hw 0 (.int .i64 1) (by unfold yl21; rw [if_neg (by omega), if_pos (by omega)]; simp; omega) h1
  exact ⟨⟨1, rfl⟩, a1, a2, ⟨O', a3⟩, fun _ => h2 (by omega), fun _ => h3 (by omega)⟩

/-- Behind k acts of region 22. -/
def P22 (w : World) (b : Nat) (s : BS) (O : Nat → Prop) (bs : List Int) (gx gr : Nat) (YL : List Value) (vb lo q : Nat) (fld : Value) (k : Nat) (f : Nat → Value) (W : World) : Prop :=
  (∃ O', KS w b s O O' bs gx gr YL vb lo q 1 fld W) ∧ (1 ≤ k → f 0 = .int .i64 0) ∧ (2 ≤ k → ∀ j v, YL[j]? = some v → W.cell? ⟨gr, j, none⟩ = some v) ∧ (3 ≤ k → f 2 = .int .i64 0)
variable {ne ce : Nat} {mb : Addr} {pe : Option Addr}
theorem p22_fine : (take22S gx gr b vb vc r lo ne ce mb pe (P22 w b s O bs gx gr YL vb lo q fld)).Fine where
  loc := fun k f g W e ⟨h1, h2, h3, h4⟩ => ⟨h1, fun hk => by rw [← e 0 (by omega)]; exact h2 hk, h3, fun hk => by rw [← e 2 (by omega)]; exact h4 hk⟩
  later := fun k f W W' ⟨⟨O', h1⟩, h2, h3, h4⟩ hb => ⟨⟨O', h1.below hb⟩, h2, fun hk j v hj => (hb.cell (p := ⟨gr, j, none⟩) (cell_there (h3 hk j v hj)).1).trans (h3 hk j v hj), h4⟩
  new := fun i P hP => (take22K _ _ _ _ _ _ _ _ _ _ _ _ i P hP).elim
theorem p22_and (hf : s.full = false) (f : Nat → Value) (W : World) (h : P22 w b s O bs gx gr YL vb lo q fld 0 f W) :
    Calls Try.prog 82 #[.pointer (some ⟨b, 0, none⟩), .int .i64 1, .int .i64 0] W fun e w' => ∃ v, e = .returned v ∧ P22 w b s O bs gx gr YL vb lo q fld 1 (fun m => if m = 0 then v else f m) w' := by
  obtain ⟨⟨O', h1⟩, -, -, -⟩ := h
  refine (and_sto b O' s 1 0 W h1.sto).mono ?_
  rintro e w' ⟨rfl, O2, hs, he⟩
  rw [andF_10 s hf] at hs ⊢
  exact ⟨_, rfl, ⟨O2, h1.to hs he⟩, fun _ => rfl, fun hk => by omega, fun hk => by omega⟩
theorem p22_store (hw : w.heap.size ≤ gx) (hl : YL.length = 10) (f : Nat → Value) (W : World) (h : P22 w b s O bs gx gr YL vb lo q fld 1 f W) :
    (∀ j, j < 10 → ∃ y, W.cell? ⟨gr, j, none⟩ = some y) ∧ (∀ j, W.frozen? ⟨gr, j, none⟩ = false) ∧ P22 w b s O bs gx gr YL vb lo q fld 2 (fun m => if m = 1 then undef else f m) (setsL W gr 0 YL) := by
  obtain ⟨⟨O', h1⟩, h2, -, -⟩ := h
  obtain ⟨o1, o2, o3, o4⟩ := h1.mem.ord
  obtain ⟨a1, a2⟩ := h1.mem.setR YL hl
  exact ⟨h1.mem.res, h1.mem.fr, ⟨O', h1.keep (g := gr) ⟨by omega, by omega⟩ hw a1 (fun k hk => setsL_heap hk _ _ _) (fun hB => setsL_below (by omega) _ _ _ hB) (setsL_below (Nat.le_refl _) _ _ _ (Below.refl _ _))⟩, fun _ => h2 (by omega), fun _ => a2, fun hk => by omega⟩

end Go.Proofs.Ytlnkflmnjkmhkaa
