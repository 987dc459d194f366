/-
  Lemmas, joined: Head12, Head13, Head14.
-/
import Derived.Test.YtlnkflmnjkmhkaaJS15
/-
  symhead.New of the program of the page's examples: the walk.
-/
namespace Go.Proofs.Ytlnkflmnjkmhkaa
open Go.RowKit Go.Maps

set_option maxRecDepth 100000 in
set_option maxHeartbeats 4000000 in
theorem new_known (bs : List Int) (hbs : bs.length = 8) (gh gw rb ca : Nat) (a : Addr) (w : World) (hh : HeadAt w gh gw) (hcb : w.cell? ⟨rb, 0, none⟩ = some (.slice (some a) 8 ca)) (hvb : IVec w (.slice (some a) 8 ca) bs) :
    Calls Try.prog 116 #[.agg #[.slice (some ⟨gh, 0, none⟩) 1 1, .slice none 0 0, .slice none 0 0, .slice none 0 0, .slice none 0 0, .slice none 0 0, .slice none 0 0, .slice none 0 0, .slice none 0 0, .slice none 0 0, .slice none 0 0, .slice none 0 0], .int .i64 1, .int .i64 3, .slice (some ⟨rb, 0, none⟩) 1 1] w fun e w' => ∃ X, e = .returned X ∧ KIn w' bs X ∧ Below w.heap.size w w' := by
  obtain ⟨A, hA⟩ : ∃ A, A = ((w.alloc (.cells #[.slice (some ⟨gh, 0, none⟩) 1 1, .slice none 0 0, .slice none 0 0, .slice none 0 0, .slice none 0 0, .slice none 0 0, .slice none 0 0, .slice none 0 0, .slice none 0 0, .slice none 0 0, .slice none 0 0, .slice none 0 0] 94)).alloc (.cells #[.int .i64 0, .int .i64 0, .slice none 0 0, .slice none 0 0, .slice none 0 0, .slice none 0 0, .int .i64 0, .int .i64 0, .slice none 0 0, .int .i64 0] 97)) := ⟨_, rfl⟩
  have hbA : Below w.heap.size w A := by rw [hA]; exact (by repeat (first | exact Below.refl _ _ | assumption | refine Below.drew ?_ | refine Below.alloc ?_ (by first | omega | (simp <;> omega)) _ | refine Below.setCell ?_ (by first | omega | (simp <;> omega)) _ | refine Below.trans ?_ (Below.mono (by assumption) (by first | omega | (simp <;> omega)))))
  have h0 : A.heap[w.heap.size]? = some (.cells #[.slice (some ⟨gh, 0, none⟩) 1 1, .slice none 0 0, .slice none 0 0, .slice none 0 0, .slice none 0 0, .slice none 0 0, .slice none 0 0, .slice none 0 0, .slice none 0 0, .slice none 0 0, .slice none 0 0, .slice none 0 0] 94 (0, 0)) := by rw [hA, Below.heap_alloc _ _ _ (by simp), heap_new]
  have h2 : A.heap[w.heap.size + 1]? = some (.cells #[.int .i64 0, .int .i64 0, .slice none 0 0, .slice none 0 0, .slice none 0 0, .slice none 0 0, .int .i64 0, .int .i64 0, .slice none 0 0, .int .i64 0] 97 (0, 0)) := by
    rw [hA]
    have := heap_new (w.alloc (.cells #[.slice (some ⟨gh, 0, none⟩) 1 1, .slice none 0 0, .slice none 0 0, .slice none 0 0, .slice none 0 0, .slice none 0 0, .slice none 0 0, .slice none 0 0, .slice none 0 0, .slice none 0 0, .slice none 0 0, .slice none 0 0] 94)) (.cells #[.int .i64 0, .int .i64 0, .slice none 0 0, .slice none 0 0, .slice none 0 0, .slice none 0 0, .int .i64 0, .int .i64 0, .slice none 0 0, .int .i64 0] 97)
    simp only [World.size_alloc] at this
    exact this
  have hsz : A.heap.size = w.heap.size + 1 + 1 := by rw [hA]; simp
  have HC : Hid (∀ W, Below A.heap.size A W → W.cell? ⟨w.heap.size, 0, none⟩ = some (.slice (some ⟨gh, 0, none⟩) 1 1) ∧ W.cell? ⟨w.heap.size, 1, none⟩ = some (.slice none 0 0)) := fun W hW => by
    have q := (hW.block _ (lt_of_block h0)).trans h0
    exact ⟨by simp [World.cell?, q], by simp [World.cell?, q]⟩
  have HV : Hid (∀ W, Below A.heap.size A W → Calls Try.prog 146 #[.slice (some ⟨rb, 0, none⟩) 1 1] W fun e w' => ∃ v, e = .returned v ∧ TRow bs (NewB W w') w' [] v ∧ Below W.heap.size W w') := fun W hW => by
    have hwW : Below w.heap.size w W := hbA.trans (hW.mono hbA.size)
    refine (vecs_one rb 1 8 ca a bs W hbs ((hwW.cell (p := ⟨rb, 0, none⟩) (cell_there hcb).1).trans hcb) (hvb.below hwW) (Nat.le_refl _) (by omega)).mono ?_
    rintro e w' ⟨rfl, ⟨rv, h1, -, h3⟩, hb⟩
    refine ⟨_, rfl, ?_, hb⟩
    have h3' := h3
    obtain ⟨-, ⟨e1, e2⟩ | ⟨g, cap, cur, e1, -⟩⟩ := h3'
    · omega
    · subst e1
      rw [hbs] at h1 h3
      have hg := h3.lt g rfl
      exact ⟨W.heap.size, ⟨g, 0, none⟩, cap, rfl, ⟨Nat.le_refl _, (cell_there h1).1⟩, h1, IVec.of_owns hbs h3, ⟨by have := hg.1; show W.heap.size ≤ g; omega, hg.2⟩⟩
  have HHD : Hid (∀ W, Below w.heap.size w W → HeadAt W gh gw) := fun W hW => hh.below hW
  have H2 := Lib.hid h2
  have HBA := Lib.hid hbA
  have HSZ := Lib.hid hsz
  clear hh hcb hvb hbA h0 h2 hsz
  go_enter Try.func116, Try.ntmps116
  go_wp2_with fail
  rw [← hA]
  clear hA
  refine new1R w.heap.size gh rb bs A (Lib.hid new1_fine) (Lib.hid fun l => ⟨below_drewN (Below.refl _ _) 1, Laid.start⟩) (Nat.le_refl _) HC HV (Lib.hid fun i v L l w1 w2 hn hL _ hb hg h14 => ⟨hg.1.trans (hb.mono hg.1.size), hg.2.quiet hn h14 hL hb⟩) _ _ _ _ _ _ _ _ _ _ _ _ _ _ _ _ _ _ _ _ _ _ _ _ _ _ _ _ _ _ _ _ _ _ _ _ _ _  ?_
  intro u0 u1 u2 u3 u4 u5 u6 u7 u8 u9 u10 u11 u12 u13 L w4 hall hrw
  dsimp only
  obtain ⟨g, r3, g7, g11, a3, ca3, rfl, hNM, hb4, hx⟩ := new1_out hall hrw
  clear hrw hall
  have HNM := Lib.hid hNM
  have HB4 := Lib.hid hb4
  have HX := Lib.hid hx
  have hp0 := (HC.out _ hb4).1
  have hgh := (HHD.out _ (HBA.out.trans (HB4.out.mono HBA.out.size))).1
  have HGL : Hid (g < w4.heap.size) := (cell_there (HX.out 0 _ rfl)).1
  clear hNM hb4 hx HC HV
  go_wp2_with fail
  go_loopw [28] (fun i wr => (i = .int .i64 0 ∧ wr = w4) ∨ (i = .int .i64 1 ∧ Hid (∃ f0 fc, (∀ j v, ([.int .i64 1, .int .i64 3, .slice (some ⟨r3, 0, none⟩) 1 1, .slice (some ⟨g7, 0, none⟩) 1 1, .slice (some ⟨f0, 0, none⟩) 1 fc, .slice none 0 0, .int .i64 0, .int .i64 0, .slice (some ⟨g11, 0, none⟩) 9 9, .int .i64 0] : List Value)[j]? = some v → wr.cell? ⟨g, j, none⟩ = some v) ∧ KInB (w.heap.size + 1 + 1) wr bs (.agg #[.int .i64 1, .int .i64 3, .slice (some ⟨r3, 0, none⟩) 1 1, .slice (some ⟨g7, 0, none⟩) 1 1, .slice (some ⟨f0, 0, none⟩) 1 fc, .slice none 0 0, .int .i64 0, .int .i64 0, .slice (some ⟨g11, 0, none⟩) 9 9, .int .i64 0]) ∧ Below (w.heap.size + 1 + 1) A wr))) (fun i _ => 1 - (intOf i).toNat)
  case atStart => exact .inl ⟨rfl, rfl⟩
  case round =>
    rcases hrel with ⟨rfl, rfl⟩ | ⟨rfl, HV⟩
    · go_wp2_with fail
      refine new5R g gw wr (Lib.hid new5_fine) (Lib.hid fun l => ⟨by simp, .inl ⟨did_none _ _, below_drewN (Below.refl _ _) 1⟩⟩) (Nat.le_refl _) HGL (Lib.hid fun W hW => (hW.cell (p := ⟨g, 4, none⟩) HGL.out).trans (HX.out 4 _ rfl)) (Lib.hid fun W hW => (hW.frozen (p := ⟨g, 4, none⟩) HGL.out).trans (HNM.out.fz 4))
        (Lib.hid fun W hW => ((HHD.out _ (HBA.out.trans (HB4.out.mono HBA.out.size))).below hW).2) (Lib.hid fun i v L l w1 w2 hn hL _ hb hg h7 => new5_gq i v L l w1 w2 hn hL hb hg h7) _ _ _ _ _ _ _ _ _ _ _ _ _ _ _ _ _ _ _ _ _ _ _ _ _ _ _ _ _ _ _ _ _ _ _ _ _ _ _ _  ?_
      intro u0 u1 u2 u3 u4 u5 u6 L5 w5 hall hrw
      dsimp only
      have HK : Hid (∃ f0 fc, (∀ j v, ([.int .i64 1, .int .i64 3, .slice (some ⟨r3, 0, none⟩) 1 1, .slice (some ⟨g7, 0, none⟩) 1 1, .slice (some ⟨f0, 0, none⟩) 1 fc, .slice none 0 0, .int .i64 0, .int .i64 0, .slice (some ⟨g11, 0, none⟩) 9 9, .int .i64 0] : List Value)[j]? = some v → w5.cell? ⟨g, j, none⟩ = some v) ∧ KInB (w.heap.size + 1 + 1) w5 bs (.agg #[.int .i64 1, .int .i64 3, .slice (some ⟨r3, 0, none⟩) 1 1, .slice (some ⟨g7, 0, none⟩) 1 1, .slice (some ⟨f0, 0, none⟩) 1 fc, .slice none 0 0, .int .i64 0, .int .i64 0, .slice (some ⟨g11, 0, none⟩) 9 9, .int .i64 0]) ∧ Below (w.heap.size + 1 + 1) A w5) := by
        obtain ⟨f0, fc, q0, qc, zz, zc, w1, hb, rfl, hfc, hf0, hq0, hzz, hcf, hqc, hcq, hvz⟩ := new5_out hall hrw
        have hM := (HNM.out.below HGL.out hb).set (j := 4) (x := .slice (some ⟨f0, 0, none⟩) 1 fc)
        have hS := HSZ.out
        obtain ⟨l1, l2, l3, l4, l5⟩ := hM.lo
        have hs4 := HB4.out.size
        refine ⟨f0, fc, fun j v hj => ?_, ⟨r3, ca3, g7, f0, fc, q0, qc, zc, g11, a3, zz, rfl, ⟨by omega, by omega, by omega, by omega, by omega, by omega, by omega⟩, hM.rc, hM.rv, hM.vv, hfc, hcf, hqc, hcq, hvz, hM.ev⟩, ?_⟩
        · have old : ∀ j v, j ≠ 4 → ([.int .i64 1, .int .i64 3, .slice (some ⟨r3, 0, none⟩) 1 1, .slice (some ⟨g7, 0, none⟩) 1 1, .slice none 0 0, .slice none 0 0, .int .i64 0, .int .i64 0, .slice (some ⟨g11, 0, none⟩) 9 9, .int .i64 0] : List Value)[j]? = some v → (w1.setCell ⟨g, 4, none⟩ (.slice (some ⟨f0, 0, none⟩) 1 fc)).cell? ⟨g, j, none⟩ = some v := fun j v hj4 hj =>
            (World.cell?_setCell_other (w := w1) (a := ⟨g, 4, none⟩) (b := ⟨g, j, none⟩) (v := .slice (some ⟨f0, 0, none⟩) 1 fc) (fun hh => by injection hh; omega)).trans ((hb.cell (p := ⟨g, j, none⟩) HGL.out).trans (HX.out j v hj))
          by_cases e : j = 4
          · subst e
            cases hj
            exact World.cell?_setCell_same _ _ _ ((hb.cell (p := ⟨g, 4, none⟩) HGL.out).trans (HX.out 4 _ rfl))
          · refine old j v e ?_
            match j, e, hj with
            | 0, _, hj => exact hj
            | 1, _, hj => exact hj
            | 2, _, hj => exact hj
            | 3, _, hj => exact hj
            | 4, e, _ => exact absurd rfl e
            | 5, _, hj => exact hj
            | 6, _, hj => exact hj
            | 7, _, hj => exact hj
            | 8, _, hj => exact hj
            | 9, _, hj => exact hj
            | j + 10, _, hj => simp at hj
        · have := (HB4.out.trans (hb.mono hs4)).setCell (p := ⟨g, 4, none⟩) (show A.heap.size ≤ g by omega) (.slice (some ⟨f0, 0, none⟩) 1 fc)
          rw [HSZ.out] at this
          exact this
      clear hrw hall
      go_wp2_with fail
      go_roundw
      case rel => exact .inr ⟨by go_num, HK⟩
      case measure => simp [intOf]
    · obtain ⟨f0, fc, hx5, hk5, hb5⟩ := HV.out
      have HK5 := Lib.hid hk5
      have HB5 := Lib.hid hb5
      have x0 : wr.cell? ⟨g, 0, none⟩ = some (.int .i64 1) := hx5 0 _ rfl
      have x1 : wr.cell? ⟨g, 1, none⟩ = some (.int .i64 3) := hx5 1 _ rfl
      have x2 : wr.cell? ⟨g, 2, none⟩ = some (.slice (some ⟨r3, 0, none⟩) 1 1) := hx5 2 _ rfl
      have x3 : wr.cell? ⟨g, 3, none⟩ = some (.slice (some ⟨g7, 0, none⟩) 1 1) := hx5 3 _ rfl
      have x4 : wr.cell? ⟨g, 4, none⟩ = some (.slice (some ⟨f0, 0, none⟩) 1 fc) := hx5 4 _ rfl
      have x5 : wr.cell? ⟨g, 5, none⟩ = some (.slice none 0 0) := hx5 5 _ rfl
      have x6 : wr.cell? ⟨g, 6, none⟩ = some (.int .i64 0) := hx5 6 _ rfl
      have x7 : wr.cell? ⟨g, 7, none⟩ = some (.int .i64 0) := hx5 7 _ rfl
      have x8 : wr.cell? ⟨g, 8, none⟩ = some (.slice (some ⟨g11, 0, none⟩) 9 9) := hx5 8 _ rfl
      have x9 : wr.cell? ⟨g, 9, none⟩ = some (.int .i64 0) := hx5 9 _ rfl
      have h2' := (hb5.block (w.heap.size + 1) (by omega)).trans H2.out
      have fr : ∀ j, wr.frozen? ⟨w.heap.size + 1, j, none⟩ = false := fun j => by simp [World.frozen?, h2']
      have z0 : wr.cell? ⟨w.heap.size + 1, 0, none⟩ = some (.int .i64 0) := by simp [World.cell?, h2']
      have z1 : wr.cell? ⟨w.heap.size + 1, 1, none⟩ = some (.int .i64 0) := by simp [World.cell?, h2']
      have z2 : wr.cell? ⟨w.heap.size + 1, 2, none⟩ = some (.slice none 0 0) := by simp [World.cell?, h2']
      have z3 : wr.cell? ⟨w.heap.size + 1, 3, none⟩ = some (.slice none 0 0) := by simp [World.cell?, h2']
      have z4 : wr.cell? ⟨w.heap.size + 1, 4, none⟩ = some (.slice none 0 0) := by simp [World.cell?, h2']
      have z5 : wr.cell? ⟨w.heap.size + 1, 5, none⟩ = some (.slice none 0 0) := by simp [World.cell?, h2']
      have z6 : wr.cell? ⟨w.heap.size + 1, 6, none⟩ = some (.int .i64 0) := by simp [World.cell?, h2']
      have z7 : wr.cell? ⟨w.heap.size + 1, 7, none⟩ = some (.int .i64 0) := by simp [World.cell?, h2']
      have z8 : wr.cell? ⟨w.heap.size + 1, 8, none⟩ = some (.slice none 0 0) := by simp [World.cell?, h2']
      have z9 : wr.cell? ⟨w.heap.size + 1, 9, none⟩ = some (.int .i64 0) := by simp [World.cell?, h2']
      clear hx5 hk5 hb5 h2' HV HX HNM hp0 hgh
      go_wp2_with fail
      refine bodyPost_ret (v := .agg #[.int .i64 1, .int .i64 3, .slice (some ⟨r3, 0, none⟩) 1 1, .slice (some ⟨g7, 0, none⟩) 1 1, .slice (some ⟨f0, 0, none⟩) 1 fc, .slice none 0 0, .int .i64 0, .int .i64 0, .slice (some ⟨g11, 0, none⟩) 9 9, .int .i64 0]) (by simp [results, Try.results116, go_sem, z0, z1, z2, z3, z4, z5, z6, z7, z8, z9]) rfl ?_
      refine ⟨_, rfl, HK5.out.keep (w' := setsL wr (w.heap.size + 1) 0 [.int .i64 1, .int .i64 3, .slice (some ⟨r3, 0, none⟩) 1 1, .slice (some ⟨g7, 0, none⟩) 1 1, .slice (some ⟨f0, 0, none⟩) 1 fc, .slice none 0 0, .int .i64 0, .int .i64 0, .slice (some ⟨g11, 0, none⟩) 9 9, .int .i64 0]) (fun k hk => setsL_heap (by omega) _ _ _) (Nat.le_of_eq (setsL_size _ _ _).symm), ?_⟩
      exact setsL_below (w := w) (n := w.heap.size) (g := w.heap.size + 1) (Nat.le_succ _) [.int .i64 1, .int .i64 3, .slice (some ⟨r3, 0, none⟩) 1 1, .slice (some ⟨g7, 0, none⟩) 1 1, .slice (some ⟨f0, 0, none⟩) 1 fc, .slice none 0 0, .int .i64 0, .int .i64 0, .slice (some ⟨g11, 0, none⟩) 9 9, .int .i64 0] wr 0 (HBA.out.trans (HB5.out.mono (by omega)))

end Go.Proofs.Ytlnkflmnjkmhkaa

/-
  symhead.access and symhead.Get of the taken packet of the page's examples.
-/
namespace Go.Proofs.Ytlnkflmnjkmhkaa
open Go.RowKit Go.Maps

/-- The taken packet's box at g, its rows beside the store's blocks O. -/
structure GotM (W : World) (b : Nat) (O : Nat → Prop) (s : BS) (bs : List Int) (g vb vc lo q fc : Nat) (fa : Addr) : Prop where
  sto : Sto W b O s
  ng : ¬ O g
  nv : ¬ O vb
  nl : ¬ O lo
  nq : ¬ O q
  c3 : W.cell? ⟨g, 3, none⟩ = some (.slice (some ⟨vb, 0, none⟩) 1 vc)
  c4 : W.cell? ⟨g, 4, none⟩ = some (.slice (some ⟨lo, 0, none⟩) 1 1)
  c9 : W.cell? ⟨g, 9, none⟩ = some (.int .i64 0)
  v0 : W.cell? ⟨vb, 0, none⟩ = some (.int .i64 1)
  l0 : W.cell? ⟨lo, 0, none⟩ = some (.slice (some ⟨q, 0, none⟩) 1 1)
  q0 : W.cell? ⟨q, 0, none⟩ = some (.slice (some fa) 8 fc)
  fz : ∀ j, W.frozen? ⟨g, j, none⟩ = false
  fv : IVecX W O (.slice (some fa) 8 fc) bs
  fg : fa.block ≠ g
  lg : lo ≠ g
  qg : q ≠ g

variable {W W' : World} {b : Nat} {O O' : Nat → Prop} {s : BS} {bs : List Int} {g vb vc lo q fc : Nat} {fa : Addr}
theorem GotM.to (h : GotM W b O s bs g vb vc lo q fc fa) (hs : Sto W' b O' s) (he : Ext O O' W W') : GotM W' b O' s bs g vb vc lo q fc fa := by
  have n : ∀ {k j x}, ¬ O k → W.cell? ⟨k, j, none⟩ = some x → ¬ O' k := fun {k j x} hk hx ho => by
    rcases he.2 k ho with a | a
    · exact hk a
    · have : k < W.heap.size := (cell_there hx).1; omega
  have c : ∀ {k j x}, ¬ O k → W.cell? ⟨k, j, none⟩ = some x → W'.cell? ⟨k, j, none⟩ = some x := fun {k j x} hk hx => (he.cell (p := ⟨k, j, none⟩) (cell_there hx).1 hk).1.trans hx
  exact ⟨hs, n h.ng h.c3, n h.nv h.v0, n h.nl h.l0, n h.nq h.q0, c h.ng h.c3, c h.ng h.c4, c h.ng h.c9, c h.nv h.v0, c h.nl h.l0, c h.nq h.q0, fun j => (he.cell (p := ⟨g, j, none⟩) (cell_there h.c3).1 h.ng).2.1.trans (h.fz j), h.fv.ext he, h.fg, h.lg, h.qg⟩

/-- Behind access: all but the store's blocks and the packet's box is kept; of the box all but the access. -/
def AccR (W : World) (b : Nat) (O : Nat → Prop) (s : BS) (bs : List Int) (g lo q fc : Nat) (fa : Addr) (w' : World) : Prop :=
  Keeps (fun k => O k ∨ k = g) W w' ∧ (∀ j, j ≠ 9 → w'.cell? ⟨g, j, none⟩ = W.cell? ⟨g, j, none⟩) ∧ w'.cell? ⟨g, 9, none⟩ = some (.int .i64 0) ∧
  w'.cell? ⟨lo, 0, none⟩ = some (.slice (some ⟨q, 0, none⟩) 1 1) ∧ w'.cell? ⟨q, 0, none⟩ = some (.slice (some fa) 8 fc) ∧ IVec w' (.slice (some fa) 8 fc) bs

set_option maxRecDepth 100000 in
set_option maxHeartbeats 1600000 in
theorem access_known (hf : s.full = false) (h : GotM W b O s bs g vb vc lo q fc fa) :
    Calls Try.prog 122 #[.pointer (some ⟨b, 0, none⟩), .pointer (some ⟨g, 0, none⟩), .int .i64 0] W fun e w' => e = .returned (.tuple #[]) ∧ AccR W b O s bs g lo q fc fa w' := by
  have HN := Lib.hid (not_sto b O s 1 W h.sto)
  have HG := Lib.hid h
  have c3 := h.c3
  have v0 := h.v0
  clear h
  go_enter Try.func122, Try.ntmps122
  go_wp2_with fail
  refine HN.out.mono ?_
  rintro e w1 ⟨rfl, O1, hs1, he1⟩
  rw [notF_1 s hf] at hs1 ⊢
  have HG1 := Lib.hid (HG.out.to hs1 he1)
  have HE1 := Lib.hid he1
  have HO := Lib.hid (or_sto b O1 s 0 0 w1 hs1)
  have c9 := HG1.out.c9
  clear hs1 he1 c3 v0 HN
  go_wp2_with fail
  refine HO.out.mono ?_
  rintro e w2 ⟨rfl, O2, hs2, he2⟩
  rw [orF_00 s hf] at hs2 ⊢
  have HG2 := Lib.hid (HG1.out.to hs2 he2)
  have HE2 := Lib.hid (HE1.out.trans he2)
  have z9 := HG2.out.c9
  have z0 := HG2.out.fz 9
  clear hs2 he2 HO c9
  go_wp2_with fail
  go_end0
  refine ⟨rfl, ⟨HE2.out.1.os, HE2.out.1.tape, HE2.out.1.output, by simpa [World.setCell] using HE2.out.1.size, fun k hk hO => ?_⟩, fun j hj => ?_, World.cell?_setCell_same _ _ _ z9, cell_set_other HG.out.lg HG2.out.l0, cell_set_other HG.out.qg HG2.out.q0, HG2.out.fv.1.setOther HG.out.fg.symm⟩
  · rw [setCell_heap (fun e => hO (.inr e))]
    exact HE2.out.1.block k hk (fun e => hO (.inl e))
  · exact (World.cell?_setCell_other (w := w2) (a := ⟨g, 9, none⟩) (b := ⟨g, j, none⟩) (v := .int .i64 0) (fun hh => hj (by injection hh with h1 h2; exact h2.symm))).trans (HE2.out.cell (p := ⟨g, j, none⟩) (cell_there HG.out.c3).1 HG.out.ng).1

/-- .. and behind Get. -/
def GetR (W : World) (O : Nat → Prop) (bs : List Int) (g : Nat) (e : Ending) (w' : World) : Prop := ∃ a cv, e = .returned (.slice (some a) 8 cv) ∧ Keeps (fun k => O k ∨ k = g) W w' ∧ (∀ j, j ≠ 9 → ∀ v, W.cell? ⟨g, j, none⟩ = some v → w'.cell? ⟨g, j, none⟩ = some v) ∧ w'.cell? ⟨g, 9, none⟩ = some (.int .i64 0) ∧ IVec w' (.slice (some a) 8 cv) bs

set_option maxRecDepth 100000 in
set_option maxHeartbeats 1600000 in
theorem get_known (hf : s.full = false) (hbs : bs.length = 8) (h : GotM W b O s bs g vb vc lo q fc fa) :
    Calls Try.prog 62 #[.pointer (some ⟨b, 0, none⟩), .pointer (some ⟨g, 0, none⟩), .int .i64 0, .int .i64 0] W (GetR W O bs g) := by
  have HA := Lib.hid (access_known hf h)
  have HIS := Lib.hid (isF_one g _ vc 1 lo 1 _ W h.c3 h.c4 (Nat.le_refl _) h.l0)
  have HG := Lib.hid h
  clear h
  go_enter Try.func62, Try.ntmps62
  go_wp2_with (go_at_call 121; (with_reducible refine HIS.out.mono ?_); rintro e w1 ⟨rfl, rfl⟩)
  refine HA.out.mono ?_
  rintro e w1 ⟨rfl, hk, hold, h9, hl, hq, hv⟩
  have d4 := (hold 4 (by omega)).trans HG.out.c4
  have HK := Lib.hid hk
  have HOLD : Hid (∀ j, j ≠ 9 → ∀ v, W.cell? ⟨g, j, none⟩ = some v → w1.cell? ⟨g, j, none⟩ = some v) := fun j hj v hv => (hold j hj).trans hv
  have HCL := Lib.hid (cloneV_any fa 8 fc bs w1 hbs hv (by omega))
  have H9 := Lib.hid h9
  clear hk hold h9 hv HA HIS
  go_wp2_with fail
  refine HCL.out.mono ?_
  rintro e w2 ⟨rv, rfl, hown, hb⟩
  have HR : Hid (GetR W O bs g (.returned rv) w2) := by
    have h' := hown
    obtain ⟨-, ⟨-, e2⟩ | ⟨k, cap, cur, e1, -⟩⟩ := h'
    · omega
    · subst e1
      rw [hbs] at hown ⊢
      refine ⟨_, _, rfl, ⟨hb.os.trans HK.out.os, hb.tape.trans HK.out.tape, hb.output.trans HK.out.output, Nat.le_trans HK.out.size hb.size, fun k hk hO => (hb.block k (Nat.lt_of_lt_of_le hk HK.out.size)).trans (HK.out.block k hk hO)⟩, fun j hj v hv => ?_, (hb.cell (p := ⟨g, 9, none⟩) (cell_there H9.out).1).trans H9.out, IVec.of_owns hbs hown⟩
      have := HOLD.out j hj v hv
      exact (hb.cell (p := ⟨g, j, none⟩) (cell_there this).1).trans this
  clear hown hb
  go_wp2_with fail
  go_ret
  exact HR.out

end Go.Proofs.Ytlnkflmnjkmhkaa

/-
  The page's examples of layer 24: what the region tells that makes a packet, and takes its header.
-/
namespace Go.Proofs.Ytlnkflmnjkmhkaa
open Go.RowKit Go.Maps

theorem new_sto24 (w : World) (c : Nat) (h0 : 2 ≤ c) (h1 : c ≤ 1048576) : ∃ O, Sto (newWorld w c) (w.heap.size + 2) O ⟨c, [], false⟩ ∧ ∀ k, O k → w.heap.size ≤ k := by
  refine ⟨Blk (w.heap.size + 2) w.heap.size (w.heap.size + 1) (.slice none 0 0), ⟨fun _ => none, ⟨.slice none 0 0, w.heap.size, w.heap.size + 1, ?_, ?_, ?_, ?_, ?_, ?_, ?_, by omega, by simp [Value.ownBlock], ?_, ?_, fun k => Iff.rfl, h0, h1, Nat.zero_le _, by simp⟩, ⟨by simp, by simp, by simp, by simp, by simp⟩, fun k r h => by cases h⟩, ?_⟩
  · simp [newWorld, newCells, go_sem]
  · simp [newWorld, newCells, go_sem]
  · simp [newWorld, newCells, go_sem]
  · simp [newWorld, newCells, go_sem]
  · simp [newWorld, newCells, go_sem]
  · intro j; simp [newWorld, newCells, go_sem]
  · exact ⟨rfl, .inl ⟨rfl, rfl⟩⟩
  · have e : byOf [] = fun _ => none := by funext t; simp [byOf]
    rw [e]
    refine IMap.empty _ _ ?_
    unfold newWorld
    rw [Below.heap_alloc _ _ _ (by simp; omega), Below.heap_alloc _ _ _ (by simp)]
    show (w.heap.push (.map #[] 0))[w.heap.size]? = _
    simp
  · refine IMap.empty _ _ ?_
    unfold newWorld
    rw [Below.heap_alloc _ _ _ (by simp)]
    show ((w.heap.push (.map #[] 0)).push (.map #[] 0))[w.heap.size + 1]? = _
    rw [Array.getElem?_push]
    simp
  · rintro k (h | h | h | h)
    · omega
    · omega
    · omega
    · simp [Value.ownBlock] at h

/-- The taken packet. -/
def TakenX (r vb vc lo : Nat) (mb : Addr) (pe : Option Addr) (ne ce : Nat) : List Value := [.int .i64 1, .int .i64 3, .slice (some ⟨r, 0, none⟩) 0 0, .slice (some ⟨vb, 0, none⟩) 1 vc, .slice (some ⟨lo, 0, none⟩) 1 1, .slice (some mb) 0 0, .int .i64 0, .int .i64 0, .slice pe ne ce, .int .i64 0]
/-- What Take tells, of blocks of its own beside the store's. -/
def TTake (b : Nat) (O : Nat → Prop) (s : BS) (bs : List Int) : Tw := fun B W _ v => ∃ (O' : Nat → Prop) (r vb vc lo q fc ne ce : Nat) (mb fa : Addr) (pe : Option Addr),
  v = .tuple #[.agg (TakenX r vb vc lo mb pe ne ce).toArray, .int .i64 0] ∧ Sto W b O' s ∧ (∀ k, O' k → O k ∨ B k) ∧ W.cell? ⟨vb, 0, none⟩ = some (.int .i64 1) ∧ W.cell? ⟨lo, 0, none⟩ = some (.slice (some ⟨q, 0, none⟩) 1 1) ∧ W.cell? ⟨q, 0, none⟩ = some (.slice (some fa) 8 fc) ∧ IVecX W O' (.slice (some fa) 8 fc) bs ∧ ¬ O' vb ∧ ¬ O' lo ∧ ¬ O' q ∧ B vb ∧ B lo ∧ B q ∧ B fa.block
def TSame : Tw := fun _ _ ls v => ls = [v]
def TFst : Tw := fun _ _ ls v => ∃ x y, ls = [.tuple #[x, y]] ∧ v = x
def TSnd : Tw := fun _ _ ls v => ∃ x y, ls = [.tuple #[x, y]] ∧ v = y

theorem TTake.stab {b : Nat} {O B D : Nat → Prop} {s : BS} {bs : List Int} {w w' : World} {ls : List Value} {v : Value} (h : TTake b O s bs B w ls v) (hO : ∀ k, O k → D k) (hk : ∀ k, B k ∨ D k → w'.heap[k]? = w.heap[k]?) (hs : w.heap.size ≤ w'.heap.size) : TTake b O s bs B w' ls v := by
  obtain ⟨O', r, vb, vc, lo, q, fc, ne, ce, mb, fa, pe, e, h1, h2, h3, h4, h5, h6, h7, h8, h9, b1, b2, b3, b4⟩ := h
  exact ⟨O', r, vb, vc, lo, q, fc, ne, ce, mb, fa, pe, e, h1.kept fun k hO' => hk k (by
    rcases h2 k hO' with a | a
    · exact .inr (hO k a)
    · exact .inl a), h2, (World.cell?_of_block (a := ⟨vb, 0, none⟩) (hk _ (.inl b1))).trans h3, (World.cell?_of_block (a := ⟨lo, 0, none⟩) (hk _ (.inl b2))).trans h4, (World.cell?_of_block (a := ⟨q, 0, none⟩) (hk _ (.inl b3))).trans h5, ⟨h6.1.keepBlock (hk _ (.inl b4)) hs, h6.2⟩, h7, h8, h9, b1, b2, b3, b4⟩

/-- Region 6 of the examples. -/
def k6 (b gh : Nat) (O : Nat → Prop) (s : BS) (bs : List Int) (ab : Addr) (cb : Nat) (w0 : World) : Rw where
  n0 := w0.heap.size
  dep := fun k => k < w0.heap.size
  kd := [isV (.agg #[.slice (some ⟨gh, 0, none⟩) 1 1, .slice none 0 0, .slice none 0 0, .slice none 0 0, .slice none 0 0, .slice none 0 0, .slice none 0 0, .slice none 0 0, .slice none 0 0, .slice none 0 0, .slice none 0 0, .slice none 0 0]), isV (.pointer (some ⟨b, 0, none⟩)), isV (.agg #[.slice (some ⟨gh, 0, none⟩) 1 1, .slice none 0 0, .slice none 0 0, .slice none 0 0, .slice none 0 0, .slice none 0 0, .slice none 0 0, .slice none 0 0, .slice none 0 0, .slice none 0 0, .slice none 0 0, .slice none 0 0]), isV (.slice (some ab) 8 cb), ([], TAny), ([], TAny), ([], TTake b O s bs), ([6], TSame), ([7], TFst), ([7], TSnd), ([], TBox 10), ([10, 8], TAny), ([9], TSame)]
  G := fun L l w => (did L 6 = true → did L 5 = true) ∧ (did L 6 = false → Sto w b O s ∧ Below w0.heap.size w0 w ∧ (did L 5 = true → KIn w bs (nth l 5)) ∧ (did L 4 = true → ∃ r0, nth l 4 = .slice (some ⟨r0, 0, none⟩) 1 1 ∧ w.cell? ⟨r0, 0, none⟩ = some (.slice (some ab) 8 cb))) ∧
    Laid 11 10 8 L l w ∧ Keeps O w0 w

variable {b gh : Nat} {O : Nat → Prop} {s : BS} {bs : List Int} {ab : Addr} {cb : Nat} {w0 w w' : World} {L : Array Bool} {l : List Value}
theorem k6_fine (hO : ∀ k, O k → k < w0.heap.size) : (k6 b gh O s bs ab cb w0).Fine where
  old := fun _ h => h
  stab := fun i js P hk B w w' ls v hp _ hw hs => by
    match i, hk with
    | 0, hk => cases hk; exact hp
    | 1, hk => cases hk; exact hp
    | 2, hk => cases hk; exact hp
    | 3, hk => cases hk; exact hp
    | 4, hk => cases hk; trivial
    | 5, hk => cases hk; trivial
    | 6, hk => cases hk; exact TTake.stab hp hO hw hs
    | 7, hk => cases hk; exact hp
    | 8, hk => cases hk; exact hp
    | 9, hk => cases hk; exact hp
    | 10, hk => cases hk; exact TBox.stab hp hw
    | 11, hk => cases hk; trivial
    | 12, hk => cases hk; exact hp
    | i + 13, hk => simp [k6] at hk
theorem Keeps.below {O : Nat → Prop} {w0 w w' : World} (h : Keeps O w0 w) (hb : Below w.heap.size w w') : Keeps O w0 w' :=
  ⟨hb.os.trans h.os, hb.tape.trans h.tape, hb.output.trans h.output, Nat.le_trans h.size hb.size, fun k hk hO => (hb.block k (Nat.lt_of_lt_of_le hk h.size)).trans (h.block k hk hO)⟩

/-- What else holds stays where all that was is left, whatever is done but the packet, its making, its taking and its laying. -/
theorem k6_gq {i : Nat} {v : Value} (hn : did L i = false) (hL : i < L.size) (hb : Below w.heap.size w w') (h : (k6 b gh O s bs ab cb w0).G L l w) (h4 : i ≠ 4) (h5 : i ≠ 5) (h6 : i ≠ 6) (h11 : i ≠ 11) : (k6 b gh O s bs ab cb w0).G (L.setIfInBounds i true) (l.set i v) w' := by
  obtain ⟨g0, g1, g2, g3⟩ := h
  refine ⟨fun hd => ?_, fun hd => ?_, g2.quiet hn h11 hL hb, g3.below hb⟩
  · rw [did_other (fun e => h6 e.symm)] at hd
    rw [did_other (fun e => h5 e.symm)]
    exact g0 hd
  · rw [did_other (fun e => h6 e.symm)] at hd
    obtain ⟨a1, a2, a3, a4⟩ := g1 hd
    refine ⟨a1.below hb, a2.trans (hb.mono a2.size), fun hd5 => ?_, fun hd4 => ?_⟩
    · rw [did_other (fun e => h5 e.symm)] at hd5
      rw [nth_other h5]
      exact (a3 hd5).below hb
    · rw [did_other (fun e => h4 e.symm)] at hd4
      rw [nth_other h4]
      obtain ⟨r0, e, hc⟩ := a4 hd4
      exact ⟨r0, e, (hb.cell (p := ⟨r0, 0, none⟩) (cell_there hc).1).trans hc⟩
theorem k6_g4 {r0 : Nat} (hn : did L 4 = false) (hL : 4 < L.size) (hl : 4 < l.length) (hb : Below w.heap.size w w') (hc : w'.cell? ⟨r0, 0, none⟩ = some (.slice (some ab) 8 cb)) (h : (k6 b gh O s bs ab cb w0).G L l w) : (k6 b gh O s bs ab cb w0).G (L.setIfInBounds 4 true) (l.set 4 (.slice (some ⟨r0, 0, none⟩) 1 1)) w' := by
  obtain ⟨g0, g1, g2, g3⟩ := h
  refine ⟨fun hd => ?_, fun hd => ?_, g2.quiet hn (by decide) hL hb, g3.below hb⟩
  · rw [did_other (by decide)] at hd ⊢
    exact g0 hd
  · rw [did_other (by decide)] at hd
    obtain ⟨a1, a2, a3, a4⟩ := g1 hd
    refine ⟨a1.below hb, a2.trans (hb.mono a2.size), fun hd5 => ?_, fun hd4 => ⟨r0, nth_same hl, hc⟩⟩
    rw [did_other (by decide)] at hd5
    rw [nth_other (by decide)]
    exact (a3 hd5).below hb
theorem k6_g5 {X : Value} (hn : did L 5 = false) (hL : 5 < L.size) (hl : 5 < l.length) (hb : Below w.heap.size w w') (hX : KIn w' bs X) (h : (k6 b gh O s bs ab cb w0).G L l w) : (k6 b gh O s bs ab cb w0).G (L.setIfInBounds 5 true) (l.set 5 X) w' := by
  obtain ⟨g0, g1, g2, g3⟩ := h
  refine ⟨fun _ => did_same hL, fun hd => ?_, g2.quiet hn (by decide) hL hb, g3.below hb⟩
  rw [did_other (by decide)] at hd
  obtain ⟨a1, a2, a3, a4⟩ := g1 hd
  refine ⟨a1.below hb, a2.trans (hb.mono a2.size), fun hd5 => by rw [nth_same hl]; exact hX, fun hd4 => ?_⟩
  rw [did_other (by decide)] at hd4
  rw [nth_other (by decide)]
  obtain ⟨r0, e, hc⟩ := a4 hd4
  exact ⟨r0, e, (hb.cell (p := ⟨r0, 0, none⟩) (cell_there hc).1).trans hc⟩
theorem k6_before (hn : did L 5 = false ∨ did L 6 = false) (h : (k6 b gh O s bs ab cb w0).G L l w) : did L 6 = false := by
  rcases hn with q | q
  · cases h6 : did L 6
    · rfl
    · have := h.1 h6; rw [q] at this; cases this
  · exact q
/-- Take. -/
theorem k6_take {O' : Nat → Prop} {v : Value} (hO : ∀ k, O k → k < w0.heap.size) (hl : l.length = 13) (h : RW (k6 b gh O s bs ab cb w0) L l w) (hn : did L 6 = false) (hL : L.size = 13) (hd5 : did L 5 = true) (he : Ext O O' w w') (hv : TTake b O s bs (NewB w w') w' [] v) : RW (k6 b gh O s bs ab cb w0) (L.setIfInBounds 6 true) (l.set 6 v) w' := by
  obtain ⟨B, h⟩ := h
  refine h.turn 6 v hn (by omega) (by omega) rfl (fun j hj => by cases hj) he.1.size (fun j js' P' hj hk hp => ?_) ?_ hv
  · have no7 : ∀ m, m = 6 → did L m = true → False := fun m e hd => by rw [e, hn] at hd; cases hd
    match j, hk with
    | 0, hk => cases hk; exact hp
    | 1, hk => cases hk; exact hp
    | 2, hk => cases hk; exact hp
    | 3, hk => cases hk; exact hp
    | 4, hk => cases hk; trivial
    | 5, hk => cases hk; trivial
    | 6, hk => rw [hn] at hj; cases hj
    | 7, hk => cases hk; exact hp
    | 8, hk => cases hk; exact hp
    | 9, hk => cases hk; exact hp
    | 10, hk =>
      cases hk
      refine TBox.stab (D := fun _ => False) hp fun k hk => ?_
      rcases hk with q | q
      · have := h.blk 10 k hj q
        refine he.1.block k this.2 fun ho => ?_
        have h1 := hO k ho
        have h2 : w0.heap.size ≤ k := this.1
        omega
      · exact q.elim
    | 11, hk => cases hk; trivial
    | 12, hk => cases hk; exact hp
    | i + 13, hk => simp [k6] at hk
  · obtain ⟨g0, g1, g2, g3⟩ := h.glob
    refine ⟨fun _ => by rw [did_other (by decide)]; exact hd5, (fun hd => by rw [did_same (by omega)] at hd; cases hd), fun hd => ?_, ⟨he.1.os.trans g3.os, he.1.tape.trans g3.tape, he.1.output.trans g3.output, Nat.le_trans g3.size he.1.size, fun k hk ho => (he.1.block k (Nat.lt_of_lt_of_le hk g3.size) ho).trans (g3.block k hk ho)⟩⟩
    rw [did_other (by decide)] at hd
    obtain ⟨-, h8, -⟩ := g2 hd
    have := (h.ok 8 _ _ h8 rfl).1 7 (by simp)
    have := (h.ok 7 _ _ this rfl).1 6 (by simp)
    rw [hn] at this; cases this

end Go.Proofs.Ytlnkflmnjkmhkaa
