/-
  Lemmas, joined: Head15, Head16, Head17.
-/
import Derived.Test.YtlnkflmnjkmhkaaJS16
/-
  The page's examples of layer 24: the region that makes a packet, and takes its header.
-/
namespace Go.Proofs.Ytlnkflmnjkmhkaa
open Go.RowKit Go.Maps

theorem IVec.block8 {w : World} {xs : List Int} {a : Addr} {c : Nat} (h : IVec w (.slice (some a) 8 c) xs) (hx : xs.length = 8) : ∃ (b1 o1 : Nat), b1 = a.block ∧ b1 < w.heap.size ∧ True := by
  obtain ⟨pa, cap, e, -, -, hc⟩ := h
  obtain ⟨b1, o1, e1, hl, -⟩ := hc (by omega)
  simp only [Value.slice.injEq] at e
  have ea : a = ⟨b1, o1, none⟩ := by have := e.1.trans e1; simpa using this
  exact ⟨b1, o1, by rw [ea], hl, trivial⟩
theorem k6_six {b gh : Nat} {O : Nat → Prop} {s : BS} {bs : List Int} {ab : Addr} {cb : Nat} {w0 w : World} {L : Array Bool} {l : List Value} (h : RW (k6 b gh O s bs ab cb w0) L l w) (hd : did L 7 = true) : did L 6 = true := by
  obtain ⟨B, h⟩ := h
  exact (h.ok 7 _ _ hd rfl).1 6 (by simp)
theorem k6_g11 {b gh g : Nat} {v : Value} {XS : List Value} {O : Nat → Prop} {s : BS} {bs : List Int} {ab : Addr} {cb : Nat} {w0 w : World} {L : Array Bool} {l : List Value} (hn : did L 11 = false) (h8 : did L 8 = true) (hg0 : w0.heap.size ≤ g) (h : (k6 b gh O s bs ab cb w0).G L l w) (hl : Laid 11 10 8 (L.setIfInBounds 11 true) (l.set 11 v) (setsL w g 0 XS)) (h6 : did L 6 = true) : (k6 b gh O s bs ab cb w0).G (L.setIfInBounds 11 true) (l.set 11 v) (setsL w g 0 XS) := by
  obtain ⟨g0, g1, g2, g3⟩ := h
  refine ⟨fun hd => ?_, fun hd => ?_, hl, ?_⟩
  · rw [did_other (by decide)]
    exact g0 h6
  · rw [did_other (by decide), h6] at hd; cases hd
  · have hb := setsL_below (n := g) (w := w) (g := g) (Nat.le_refl _) XS w 0 (Below.refl _ _)
    exact ⟨hb.os.trans g3.os, hb.tape.trans g3.tape, hb.output.trans g3.output, Nat.le_trans g3.size hb.size, fun k hk ho => (setsL_heap (by omega) XS w 0).trans (g3.block k hk ho)⟩

set_option maxRecDepth 100000 in
set_option maxHeartbeats 6000000 in
theorem k6R (b gh gw gp : Nat) (O : Nat → Prop) (s : BS) (bs : List Int) (ab : Addr) (cb : Nat) (WB : World)
    (HF : Hid (Rw.Fine (k6 b gh O s bs ab cb WB))) (HG0 : Hid (∀ l : List Value, (k6 b gh O s bs ab cb WB).G (Array.replicate 13 false) l WB.drew)) (Hn0 : (k6 b gh O s bs ab cb WB).n0 ≤ WB.heap.size)
    (HFU : Hid (s.full = false)) (HBS : Hid (bs.length = 8)) (HO : Hid (∀ k, O k → k < WB.heap.size)) (HH : Hid (HeadAt WB gh gw)) (HIV : Hid (IVec WB (.slice (some ab) 8 cb) bs))
    (HC : Hid (∀ W : World, (∀ k, k < WB.heap.size → ¬ O k → W.heap[k]? = WB.heap[k]?) → W.cell? ⟨gp, 0, none⟩ = some (.slice (some ⟨gh, 0, none⟩) 1 1) ∧ W.cell? ⟨gp, 1, none⟩ = some (.slice none 0 0) ∧ W.cell? ⟨gp, 2, none⟩ = some (.slice none 0 0) ∧ W.cell? ⟨gp, 3, none⟩ = some (.slice none 0 0) ∧ W.cell? ⟨gp, 4, none⟩ = some (.slice none 0 0) ∧ W.cell? ⟨gp, 5, none⟩ = some (.slice none 0 0) ∧ W.cell? ⟨gp, 6, none⟩ = some (.slice none 0 0) ∧ W.cell? ⟨gp, 7, none⟩ = some (.slice none 0 0) ∧ W.cell? ⟨gp, 8, none⟩ = some (.slice none 0 0) ∧ W.cell? ⟨gp, 9, none⟩ = some (.slice none 0 0) ∧ W.cell? ⟨gp, 10, none⟩ = some (.slice none 0 0) ∧ W.cell? ⟨gp, 11, none⟩ = some (.slice none 0 0)))
    (HGQ : Hid (∀ (i : Nat) (v : Value) (L : Array Bool) (l : List Value) (w w' : World), did L i = false → i < L.size → i < l.length → Below w.heap.size w w' → (k6 b gh O s bs ab cb WB).G L l w → i ≠ 4 → i ≠ 5 → i ≠ 6 → i ≠ 11 → (k6 b gh O s bs ab cb WB).G (L.setIfInBounds i true) (l.set i v) w'))
    (c0 c2 c5 c6 c7 c8 c9 c10 c11 c12 c13 c14 c15 c16 c17 c18 c19 c20 c21 c22 c23 c24 c25 c26 c27 c28 c29 c30 c31 c32 c33 c34 c35 c36 c37 c38 c39 c40 c41 c42 c43 c44 c45 c46 c47 c48 c49 c50 c51 c52 c53 c54 c55 c56 c57 c58 c59 c60 c61 c62 c63 c64 c65 c66 c67 c68 c69 c70 c71 c72 c73 c74 c75 : Value) (Q : Exit → Act → World → Prop)
    (hexit : ∀ (u0 u1 u2 u3 u4 u5 u6 u7 u8 u9 u10 u12 : Value) (L : Array Bool) (w' : World), (∀ i, i < 13 → did L i = true) → RW (k6 b gh O s bs ab cb WB) L [u0, u1, u2, u3, u4, u5, u6, u7, u8, u9, u10, undef, u12] w' → Q .normal ⟨#[c0, .pointer (some ⟨b, 0, none⟩), c2, .pointer (some ⟨gp, 0, none⟩), .slice (some ab) 8 cb, u10, u12, c7, c8, c9, c10, c11, c12, c13, c14, c15, c16, c17, c18, c19, c20, c21, c22, u7, u0, u1, u2, u3, u4, u5, u6, u8, u9, c33, c34, c35, c36, c37, c38, c39, c40, c41, c42, c43, c44, c45, c46, c47, c48, c49, c50, c51, c52, c53, c54, c55, c56, c57, c58, c59, c60, c61, c62, c63, c64, c65, c66, c67, c68, c69, c70, c71, c72, c73, c74, c75], []⟩ w') :
    Code.wp Try.prog ((Try.f60.body.bind (findRegion 6)).getD .skip) Q ⟨#[c0, .pointer (some ⟨b, 0, none⟩), c2, .pointer (some ⟨gp, 0, none⟩), .slice (some ab) 8 cb, c5, c6, c7, c8, c9, c10, c11, c12, c13, c14, c15, c16, c17, c18, c19, c20, c21, c22, c23, c24, c25, c26, c27, c28, c29, c30, c31, c32, c33, c34, c35, c36, c37, c38, c39, c40, c41, c42, c43, c44, c45, c46, c47, c48, c49, c50, c51, c52, c53, c54, c55, c56, c57, c58, c59, c60, c61, c62, c63, c64, c65, c66, c67, c68, c69, c70, c71, c72, c73, c74, c75], []⟩ WB := by
  dsimp only at hexit ⊢
  conv => arg 2; whnf
  have HEX := Lib.hid hexit
  clear hexit
  have hF := HF.out
  refine wp_region_inv2 (by kernel_rfl) (fun L a' w' => ∃ u0 u1 u2 u3 u4 u5 u6 u7 u8 u9 u10 u12 : Value, a' = ⟨#[c0, .pointer (some ⟨b, 0, none⟩), c2, .pointer (some ⟨gp, 0, none⟩), .slice (some ab) 8 cb, u10, u12, c7, c8, c9, c10, c11, c12, c13, c14, c15, c16, c17, c18, c19, c20, c21, c22, u7, u0, u1, u2, u3, u4, u5, u6, u8, u9, c33, c34, c35, c36, c37, c38, c39, c40, c41, c42, c43, c44, c45, c46, c47, c48, c49, c50, c51, c52, c53, c54, c55, c56, c57, c58, c59, c60, c61, c62, c63, c64, c65, c66, c67, c68, c69, c70, c71, c72, c73, c74, c75], []⟩ ∧ L.size = 13 ∧ RW (k6 b gh O s bs ab cb WB) L [u0, u1, u2, u3, u4, u5, u6, u7, u8, u9, u10, undef, u12] w') ?_ ?_ ?_ ?_
  · exact ⟨_, _, _, _, _, _, _, _, _, _, _, _, rfl, by simp, RW.init (fun i => did_none _ _) Hn0 (HG0.out _)⟩
  · rintro L a' w' i hL hi hnd hdep ⟨u0, u1, u2, u3, u4, u5, u6, u7, u8, u9, u10, u12, rfl, hLn, hI⟩
    dsimp only
    have hsz : ∀ i, (L.setIfInBounds i true).size = 13 := fun i => by simpa using hLn
    have hL13 : L.size = 13 := hL
    have HI := Lib.hid hI
    clear hI
    match i, hi with
    | 0, _ =>
      have HN := Lib.hid hnd
      have HJ : Hid (∀ j ∈ ([] : List Nat), did L j = true) := fun j hj => by cases hj
      have HGC := HC.out _ (Keeps.block HI.out.glob.2.2.2)
      have z0 := HGC.1
      have z1 := HGC.2.1
      have z2 := HGC.2.2.1
      have z3 := HGC.2.2.2.1
      have z4 := HGC.2.2.2.2.1
      have z5 := HGC.2.2.2.2.2.1
      have z6 := HGC.2.2.2.2.2.2.1
      have z7 := HGC.2.2.2.2.2.2.2.1
      have z8 := HGC.2.2.2.2.2.2.2.2.1
      have z9 := HGC.2.2.2.2.2.2.2.2.2.1
      have z10 := HGC.2.2.2.2.2.2.2.2.2.2.1
      have z11 := HGC.2.2.2.2.2.2.2.2.2.2.2
      clear hdep hnd
      refine wpOp_step rfl (fun K' hK => ?_)
      go_simp
      exact hK _ _ ⟨_, _, _, _, _, _, _, _, _, _, _, _, rfl, hsz _, HI.out.val 0 _ hF HN.out (by omega) (by show 0 < 13; omega) rfl (Below.refl _ _) (fun hg => HGQ.out 0 _ _ _ _ _ HN.out (by omega) (by show 0 < 13; omega) (Below.refl _ _) hg (by decide) (by decide) (by decide) (by decide))⟩
    | 1, _ =>
      have HN := Lib.hid hnd
      have HJ : Hid (∀ j ∈ ([] : List Nat), did L j = true) := fun j hj => by cases hj
      clear hdep hnd
      refine wpOp_step rfl (fun K' hK => ?_)
      go_simp
      exact hK _ _ ⟨_, _, _, _, _, _, _, _, _, _, _, _, rfl, hsz _, HI.out.val 1 _ hF HN.out (by omega) (by show 1 < 13; omega) rfl (Below.refl _ _) (fun hg => HGQ.out 1 _ _ _ _ _ HN.out (by omega) (by show 1 < 13; omega) (Below.refl _ _) hg (by decide) (by decide) (by decide) (by decide))⟩
    | 2, _ =>
      have HN := Lib.hid hnd
      have HJ : Hid (∀ j ∈ ([] : List Nat), did L j = true) := fun j hj => by cases hj
      have HGC := HC.out _ (Keeps.block HI.out.glob.2.2.2)
      have z0 := HGC.1
      have z1 := HGC.2.1
      have z2 := HGC.2.2.1
      have z3 := HGC.2.2.2.1
      have z4 := HGC.2.2.2.2.1
      have z5 := HGC.2.2.2.2.2.1
      have z6 := HGC.2.2.2.2.2.2.1
      have z7 := HGC.2.2.2.2.2.2.2.1
      have z8 := HGC.2.2.2.2.2.2.2.2.1
      have z9 := HGC.2.2.2.2.2.2.2.2.2.1
      have z10 := HGC.2.2.2.2.2.2.2.2.2.2.1
      have z11 := HGC.2.2.2.2.2.2.2.2.2.2.2
      clear hdep hnd
      refine wpOp_step rfl (fun K' hK => ?_)
      go_simp
      exact hK _ _ ⟨_, _, _, _, _, _, _, _, _, _, _, _, rfl, hsz _, HI.out.val 2 _ hF HN.out (by omega) (by show 2 < 13; omega) rfl (Below.refl _ _) (fun hg => HGQ.out 2 _ _ _ _ _ HN.out (by omega) (by show 2 < 13; omega) (Below.refl _ _) hg (by decide) (by decide) (by decide) (by decide))⟩
    | 3, _ =>
      have HN := Lib.hid hnd
      have HJ : Hid (∀ j ∈ ([] : List Nat), did L j = true) := fun j hj => by cases hj
      clear hdep hnd
      refine wpOp_step rfl (fun K' hK => ?_)
      go_simp
      exact hK _ _ ⟨_, _, _, _, _, _, _, _, _, _, _, _, rfl, hsz _, HI.out.val 3 _ hF HN.out (by omega) (by show 3 < 13; omega) rfl (Below.refl _ _) (fun hg => HGQ.out 3 _ _ _ _ _ HN.out (by omega) (by show 3 < 13; omega) (Below.refl _ _) hg (by decide) (by decide) (by decide) (by decide))⟩
    | 4, _ =>
      have HN := Lib.hid hnd
      have q3 := (HI.out.got 3 (hdep _ rfl ⟨3, .data⟩ (by simp) (by kernel_rfl)) rfl).symm
      subst q3
      have HJ : Hid (∀ j ∈ ([] : List Nat), did L j = true) := fun j hj => by cases hj
      clear hdep hnd
      refine wpOp_step rfl (fun K' hK => ?_)
      go_simp
      have hbK : Below w'.heap.size w' (w'.alloc (.cells #[.slice (some ab) 8 cb] 34)) := (Below.refl _ _).alloc (Nat.le_refl _) _
      exact hK _ _ ⟨_, _, _, _, _, _, _, _, _, _, _, _, rfl, hsz _, HI.out.quiet 4 _ hF HN.out (by omega) (by show 4 < 13; omega) rfl HJ.out hbK (fun hg => k6_g4 HN.out (by omega) (by show 4 < 13; omega) hbK (cell_three0 _ _ _) hg) trivial⟩
    | 5, _ =>
      have HN := Lib.hid hnd
      have q2 := (HI.out.got 2 (hdep _ rfl ⟨2, .data⟩ (by simp) (by kernel_rfl)) rfl).symm
      subst q2
      have HJ : Hid (∀ j ∈ ([] : List Nat), did L j = true) := fun j hj => by cases hj
      have d4 := hdep _ rfl ⟨4, .data⟩ (by simp) (by kernel_rfl)
      obtain ⟨hS, hB, -, h4⟩ := HI.out.glob.2.1 (k6_before (.inl HN.out) HI.out.glob)
      obtain ⟨r4, e4, hc4⟩ := h4 d4
      have e4 : u4 = .slice (some ⟨r4, 0, none⟩) 1 1 := e4
      subst e4
      have HNW := Lib.hid (new_known bs HBS.out gh gw r4 cb ab w' (HH.out.below hB) hc4 (HIV.out.below hB))
      clear d4 hS hB h4 hc4
      clear hdep hnd
      refine wpOp_step rfl (fun K' hK => ?_)
      go_simp
      refine HNW.out.mono ?_
      rintro e w1 ⟨X, rfl, hX, hbK⟩
      exact hK _ _ ⟨_, _, _, _, _, _, _, _, _, _, _, _, rfl, hsz _, HI.out.quiet 5 _ hF HN.out (by omega) (by show 5 < 13; omega) rfl HJ.out hbK (fun hg => k6_g5 HN.out (by omega) (by show 5 < 13; omega) hbK hX hg) trivial⟩
    | 6, _ =>
      have HN := Lib.hid hnd
      have q0 := (HI.out.got 0 (hdep _ rfl ⟨0, .data⟩ (by simp) (by kernel_rfl)) rfl).symm
      subst q0
      have q1 := (HI.out.got 1 (hdep _ rfl ⟨1, .data⟩ (by simp) (by kernel_rfl)) rfl).symm
      subst q1
      have HJ : Hid (∀ j ∈ ([] : List Nat), did L j = true) := fun j hj => by cases hj
      have d5 := hdep _ rfl ⟨5, .data⟩ (by simp) (by kernel_rfl)
      obtain ⟨hS, hB, h5, -⟩ := HI.out.glob.2.1 HN.out
      have HTK := Lib.hid (take_known b O s HFU.out bs HBS.out gh gw u5 w' hS (HH.out.below hB) (h5 d5))
      have HD5 := Lib.hid d5
      clear d5 hS hB h5
      clear hdep hnd
      refine wpOp_step rfl (fun K' hK => ?_)
      go_simp
      refine HTK.out.mono ?_
      rintro e w1 ⟨O', r, vb, vc, lo, q, fc, ne, ce, mb, fa, pe, rfl, t1, t2, t3, t4, t5, t6, t7, t8, t9, t10, f1, f2, f3, f4⟩
      exact hK _ _ ⟨_, _, _, _, _, _, _, _, _, _, _, _, rfl, hsz _, k6_take HO.out rfl HI.out HN.out hLn HD5.out t2 ⟨O', r, vb, vc, lo, q, fc, ne, ce, mb, fa, pe, rfl, t1, fun k hk => (t2.2 k hk).imp id (fun h => ⟨h, t1.lt k hk⟩), t4, t5, t6, t7, t8, t9, t10, ⟨f1, (cell_there t4).1⟩, ⟨f2, (cell_there t5).1⟩, ⟨f3, (cell_there t6).1⟩, ⟨f4, by obtain ⟨b1, o1, e1, hl1, -⟩ := IVec.block8 t7.1 HBS.out; exact e1 ▸ hl1⟩⟩⟩
    | 7, _ =>
      have HN := Lib.hid hnd
      have d6 := hdep _ rfl ⟨6, .data⟩ (by simp) (by kernel_rfl)
      have HJ : Hid (∀ j ∈ ([6] : List Nat), did L j = true) := by
        intro j hj
        simp only [List.mem_cons, List.not_mem_nil, or_false] at hj
        subst hj; assumption
      obtain ⟨B6, -, O', r, vb, vc, lo, q, fc, ne, ce, mb, fa, pe, e6, -⟩ := HI.out.made 6 d6 rfl
      have e6 : u6 = .tuple #[.agg (TakenX r vb vc lo mb pe ne ce).toArray, .int .i64 0] := e6
      subst e6
      clear hdep hnd d6
      refine wpOp_step rfl (fun K' hK => ?_)
      go_simp
      have hbK := Below.refl w'.heap.size w'
      exact hK _ _ ⟨_, _, _, _, _, _, _, _, _, _, _, _, rfl, hsz _, HI.out.quiet 7 _ hF HN.out (by omega) (by show 7 < 13; omega) rfl HJ.out hbK (fun hg => HGQ.out 7 _ _ _ _ _ HN.out (by omega) (by show 7 < 13; omega) hbK hg (by decide) (by decide) (by decide) (by decide)) rfl⟩
    | 8, _ =>
      have HN := Lib.hid hnd
      have d7 := hdep _ rfl ⟨7, .data⟩ (by simp) (by kernel_rfl)
      have HJ : Hid (∀ j ∈ ([7] : List Nat), did L j = true) := by
        intro j hj
        simp only [List.mem_cons, List.not_mem_nil, or_false] at hj
        subst hj; assumption
      have d6 := k6_six HI.out d7
      obtain ⟨B6, -, O', r, vb, vc, lo, q, fc, ne, ce, mb, fa, pe, e6, -⟩ := HI.out.made 6 d6 rfl
      obtain ⟨B7, -, e7⟩ := HI.out.made 7 d7 rfl
      have e7 : [u6] = [u7] := e7
      simp only [List.cons.injEq, and_true] at e7
      have e6 : u6 = .tuple #[.agg (TakenX r vb vc lo mb pe ne ce).toArray, .int .i64 0] := e6
      subst e7
      subst e6
      clear d6
      clear hdep hnd d7
      refine wpOp_step rfl (fun K' hK => ?_)
      go_simp
      have hbK := Below.refl w'.heap.size w'
      exact hK _ _ ⟨_, _, _, _, _, _, _, _, _, _, _, _, rfl, hsz _, HI.out.quiet 8 _ hF HN.out (by omega) (by show 8 < 13; omega) rfl HJ.out hbK (fun hg => HGQ.out 8 _ _ _ _ _ HN.out (by omega) (by show 8 < 13; omega) hbK hg (by decide) (by decide) (by decide) (by decide)) ⟨_, _, rfl, rfl⟩⟩
    | 9, _ =>
      have HN := Lib.hid hnd
      have d7 := hdep _ rfl ⟨7, .data⟩ (by simp) (by kernel_rfl)
      have HJ : Hid (∀ j ∈ ([7] : List Nat), did L j = true) := by
        intro j hj
        simp only [List.mem_cons, List.not_mem_nil, or_false] at hj
        subst hj; assumption
      have d6 := k6_six HI.out d7
      obtain ⟨B6, -, O', r, vb, vc, lo, q, fc, ne, ce, mb, fa, pe, e6, -⟩ := HI.out.made 6 d6 rfl
      obtain ⟨B7, -, e7⟩ := HI.out.made 7 d7 rfl
      have e7 : [u6] = [u7] := e7
      simp only [List.cons.injEq, and_true] at e7
      have e6 : u6 = .tuple #[.agg (TakenX r vb vc lo mb pe ne ce).toArray, .int .i64 0] := e6
      subst e7
      subst e6
      clear d6
      clear hdep hnd d7
      refine wpOp_step rfl (fun K' hK => ?_)
      go_simp
      have hbK := Below.refl w'.heap.size w'
      exact hK _ _ ⟨_, _, _, _, _, _, _, _, _, _, _, _, rfl, hsz _, HI.out.quiet 9 _ hF HN.out (by omega) (by show 9 < 13; omega) rfl HJ.out hbK (fun hg => HGQ.out 9 _ _ _ _ _ HN.out (by omega) (by show 9 < 13; omega) hbK hg (by decide) (by decide) (by decide) (by decide)) ⟨_, _, rfl, rfl⟩⟩
    | 10, _ =>
      have HN := Lib.hid hnd
      have HJ : Hid (∀ j ∈ ([] : List Nat), did L j = true) := fun j hj => by cases hj
      clear hdep hnd
      refine wpOp_step rfl (fun K' hK => ?_)
      go_simp
      have hbK : Below w'.heap.size w' (w'.alloc (.cells #[.int .i64 0, .int .i64 0, .slice none 0 0, .slice none 0 0, .slice none 0 0, .slice none 0 0, .int .i64 0, .int .i64 0, .slice none 0 0, .int .i64 0] 97)) := (Below.refl _ _).alloc (Nat.le_refl _) _
      exact hK _ _ ⟨_, _, _, _, _, _, _, _, _, _, _, _, rfl, hsz _, HI.out.quiet 10 _ hF HN.out (by omega) (by show 10 < 13; omega) rfl HJ.out hbK (fun hg => HGQ.out 10 _ _ _ _ _ HN.out (by omega) (by show 10 < 13; omega) hbK hg (by decide) (by decide) (by decide) (by decide)) (TBox.new rfl)⟩
    | 11, _ =>
      have HN := Lib.hid hnd
      have d8 := hdep _ rfl ⟨8, .data⟩ (by simp) (by kernel_rfl)
      have d10 := hdep _ rfl ⟨10, .data⟩ (by simp) (by kernel_rfl)
      have HJ : Hid (∀ j ∈ ([10, 8] : List Nat), did L j = true) := by
        intro j hj
        simp only [List.mem_cons, List.not_mem_nil, or_false] at hj
        rcases hj with rfl | rfl <;> assumption
      have d7 := hdep _ rfl ⟨7, .phase⟩ (by simp) (by kernel_rfl)
      have d6 := k6_six HI.out d7
      obtain ⟨B6, -, O', r, vb, vc, lo, q, fc, ne, ce, mb, fa, pe, e6, -⟩ := HI.out.made 6 d6 rfl
      obtain ⟨B7, -, e7⟩ := HI.out.made 7 d7 rfl
      obtain ⟨B8, -, X8, y8, e78, e8⟩ := HI.out.made 8 d8 rfl
      have e7 : [u6] = [u7] := e7
      simp only [List.cons.injEq, and_true] at e7
      have e6 : u6 = .tuple #[.agg (TakenX r vb vc lo mb pe ne ce).toArray, .int .i64 0] := e6
      subst e7
      subst e6
      have e78 : [Value.tuple #[.agg (TakenX r vb vc lo mb pe ne ce).toArray, .int .i64 0]] = [.tuple #[X8, y8]] := e78
      simp only [List.cons.injEq, and_true, Value.tuple.injEq, Array.mk.injEq] at e78
      obtain ⟨rfl, rfl⟩ := e78
      have e8 : u8 = .agg #[.int .i64 1, .int .i64 3, .slice (some ⟨r, 0, none⟩) 0 0, .slice (some ⟨vb, 0, none⟩) 1 vc, .slice (some ⟨lo, 0, none⟩) 1 1, .slice (some mb) 0 0, .int .i64 0, .int .i64 0, .slice pe ne ce, .int .i64 0] := e8
      subst e8
      obtain ⟨B10, hb10, g, e10, hg10, hcells, hfz⟩ := HI.out.made 10 d10 rfl
      have e10 : u10 = .pointer (some ⟨g, 0, none⟩) := e10
      subst e10
      have HGE : Hid (WB.heap.size ≤ g) := (hb10 g hg10).1
      have HD6 := Lib.hid d6
      have HD8 := Lib.hid d8
      have HD10 := Lib.hid d10
      have HCE := Lib.hid hcells
      obtain ⟨y0, z0⟩ := hcells 0 (by omega)
      obtain ⟨y1, z1⟩ := hcells 1 (by omega)
      obtain ⟨y2, z2⟩ := hcells 2 (by omega)
      obtain ⟨y3, z3⟩ := hcells 3 (by omega)
      obtain ⟨y4, z4⟩ := hcells 4 (by omega)
      obtain ⟨y5, z5⟩ := hcells 5 (by omega)
      obtain ⟨y6, z6⟩ := hcells 6 (by omega)
      obtain ⟨y7, z7⟩ := hcells 7 (by omega)
      obtain ⟨y8, z8⟩ := hcells 8 (by omega)
      obtain ⟨y9, z9⟩ := hcells 9 (by omega)
      clear hcells hb10 hg10 d6 d7
      clear hdep hnd d8 d10
      refine wpOp_step rfl (fun K' hK => ?_)
      go_simp
      exact hK _ _ ⟨_, _, _, _, _, _, _, _, _, _, _, _, rfl, hsz _, (HI.out.put 11 10 g undef (js := [10, 8]) (P := TAny) (w' := setsL w' g 0 [.int .i64 1, .int .i64 3, .slice (some ⟨r, 0, none⟩) 0 0, .slice (some ⟨vb, 0, none⟩) 1 vc, .slice (some ⟨lo, 0, none⟩) 1 1, .slice (some mb) 0 0, .int .i64 0, .int .i64 0, .slice pe ne ce, .int .i64 0]) hF HN.out (by omega) (by show 11 < 13; omega) rfl HJ.out (fun k hk => setsL_heap hk [.int .i64 1, .int .i64 3, .slice (some ⟨r, 0, none⟩) 0 0, .slice (some ⟨vb, 0, none⟩) 1 vc, .slice (some ⟨lo, 0, none⟩) 1 1, .slice (some mb) 0 0, .int .i64 0, .int .i64 0, .slice pe ne ce, .int .i64 0] w' 0) (setsL_size [.int .i64 1, .int .i64 3, .slice (some ⟨r, 0, none⟩) 0 0, .slice (some ⟨vb, 0, none⟩) 1 vc, .slice (some ⟨lo, 0, none⟩) 1 1, .slice (some mb) 0 0, .int .i64 0, .int .i64 0, .slice pe ne ce, .int .i64 0] w' 0) (fun B hB => ⟨hB.boxB HD10.out rfl rfl, fun h => Nat.lt_irrefl _ (Nat.lt_of_lt_of_le h HGE.out)⟩) (fun js' P' hk B ls x hp => by cases hk; exact TBox.sets rfl hp) (fun hg => k6_g11 HN.out HD8.out HGE.out hg (Laid.put HD10.out HD8.out HN.out rfl rfl (fun j hj => HCE.out j hj)) HD6.out) trivial)⟩
    | 12, _ =>
      have HN := Lib.hid hnd
      have d9 := hdep _ rfl ⟨9, .data⟩ (by simp) (by kernel_rfl)
      have HJ : Hid (∀ j ∈ ([9] : List Nat), did L j = true) := by
        intro j hj
        simp only [List.mem_cons, List.not_mem_nil, or_false] at hj
        subst hj; assumption
      obtain ⟨B9, -, x9, y9, e79, e9⟩ := HI.out.made 9 d9 rfl
      clear hdep hnd d9
      refine wpOp_step rfl (fun K' hK => ?_)
      go_simp
      have hbK := Below.refl w'.heap.size w'
      exact hK _ _ ⟨_, _, _, _, _, _, _, _, _, _, _, _, rfl, hsz _, HI.out.quiet 12 _ hF HN.out (by omega) (by show 12 < 13; omega) rfl HJ.out hbK (fun hg => HGQ.out 12 _ _ _ _ _ HN.out (by omega) (by show 12 < 13; omega) hbK hg (by decide) (by decide) (by decide) (by decide)) rfl⟩
    | i + 13, hi => exact absurd hi (by show ¬ (i + 13 < 13); omega)
  · intro i o ho e he hb
    match i, ho with
    | 0, ho => cases ho; simp at he
    | 1, ho => cases ho; simp at he
    | 2, ho => cases ho; simp at he
    | 3, ho => cases ho; simp at he
    | 4, ho => cases ho; simp at he; subst he; first | (simp; done) | (exact absurd hb (by decide))
    | 5, ho => cases ho; simp at he; rcases he with rfl | rfl <;> first | (simp; done) | (exact absurd hb (by decide))
    | 6, ho => cases ho; simp at he; rcases he with rfl | rfl | rfl | rfl <;> first | (simp; done) | (exact absurd hb (by decide))
    | 7, ho => cases ho; simp at he; subst he; first | (simp; done) | (exact absurd hb (by decide))
    | 8, ho => cases ho; simp at he; subst he; first | (simp; done) | (exact absurd hb (by decide))
    | 9, ho => cases ho; simp at he; rcases he with rfl | rfl <;> first | (simp; done) | (exact absurd hb (by decide))
    | 10, ho => cases ho; simp at he
    | 11, ho => cases ho; simp at he; rcases he with rfl | rfl | rfl | rfl | rfl | rfl | rfl | rfl | rfl | rfl | rfl | rfl | rfl | rfl <;> first | (simp; done) | (exact absurd hb (by decide))
    | 12, ho => cases ho; simp at he; rcases he with rfl | rfl | rfl | rfl | rfl | rfl | rfl | rfl | rfl | rfl | rfl | rfl | rfl | rfl <;> first | (simp; done) | (exact absurd hb (by decide))
    | i + 13, ho => simp at ho
  · rintro L a' w' hall ⟨u0, u1, u2, u3, u4, u5, u6, u7, u8, u9, u10, u12, rfl, hLn, hI⟩
    exact HEX.out u0 u1 u2 u3 u4 u5 u6 u7 u8 u9 u10 u12 L w' (fun i hi => hall i hi) hI

end Go.Proofs.Ytlnkflmnjkmhkaa

/-
  The page's examples of layer 24: what its region leaves.
-/
namespace Go.Proofs.Ytlnkflmnjkmhkaa
open Go.RowKit Go.Maps

/-- Behind the region: the packet's box, and what Take left. -/
structure K6Out (b : Nat) (O : Nat → Prop) (s : BS) (bs : List Int) (ab : Addr) (cb : Nat) (w0 w : World) (g : Nat) : Prop where
  got : ∃ O' vb vc lo q fc fa, GotM w b O' s bs g vb vc lo q fc fa ∧ ∀ k, O' k → O k ∨ w0.heap.size ≤ k
  c0 : w.cell? ⟨g, 0, none⟩ = some (.int .i64 1)
  c2 : ∃ r, w.cell? ⟨g, 2, none⟩ = some (.slice (some ⟨r, 0, none⟩) 0 0)
  kp : Keeps O w0 w
  ng : w0.heap.size ≤ g

theorem k6_out {b gh : Nat} {O : Nat → Prop} {s : BS} {bs : List Int} {ab : Addr} {cb : Nat} {w0 w : World} {L : Array Bool} {u0 u1 u2 u3 u4 u5 u6 u7 u8 u9 u10 u12 : Value} (hO : ∀ k, O k → k < w0.heap.size) (hbs : bs.length = 8) (hall : ∀ i, i < 13 → did L i = true)
    (h : RW (k6 b gh O s bs ab cb w0) L [u0, u1, u2, u3, u4, u5, u6, u7, u8, u9, u10, undef, u12] w) : ∃ g, u10 = .pointer (some ⟨g, 0, none⟩) ∧ u12 = .int .i64 0 ∧ K6Out b O s bs ab cb w0 w g := by
  obtain ⟨B, h⟩ := h
  obtain ⟨-, -, hl, hk⟩ := h.glob
  obtain ⟨-, -, g, Xs, e1, e2, hc⟩ := hl (hall 11 (by omega))
  have d10 := hall 10 (by omega)
  have d6 := hall 6 (by omega)
  have hbox := h.boxB d10 rfl e1
  obtain ⟨-, g', e1', hg', -, hfz⟩ := h.ok 10 _ _ d10 rfl
  have eg : g' = g := by rw [e1] at e1'; simpa using e1'.symm
  subst eg
  obtain ⟨-, O', r, vb, vc, lo, q, fc, ne, ce, mb, fa, pe, e6, t1, t2, t3, t4, t5, t6, t7, t8, t9, f1, f2, f3, f4⟩ := h.ok 6 _ _ d6 rfl
  obtain ⟨-, e7⟩ := h.ok 7 _ _ (hall 7 (by omega)) rfl
  obtain ⟨-, x8, y8, e8, ex8⟩ := h.ok 8 _ _ (hall 8 (by omega)) rfl
  obtain ⟨-, x9, y9, e9, ey9⟩ := h.ok 9 _ _ (hall 9 (by omega)) rfl
  obtain ⟨-, e12⟩ := h.ok 12 _ _ (hall 12 (by omega)) rfl
  have q1 : u10 = .pointer (some ⟨g', 0, none⟩) := e1
  have q7 : [u6] = [u7] := e7
  have q8 : [u7] = [.tuple #[x8, y8]] := e8
  have q9 : [u7] = [.tuple #[x9, y9]] := e9
  have q12 : [u9] = [u12] := e12
  have qx : u8 = x8 := ex8
  have qy : u9 = y9 := ey9
  have q6 : u6 = .tuple #[.agg (TakenX r vb vc lo mb pe ne ce).toArray, .int .i64 0] := e6
  have q2 : u8 = .agg Xs := e2
  simp only [List.cons.injEq, and_true] at q7 q8 q9 q12
  rw [← q7, q6] at q8 q9
  simp only [Value.tuple.injEq, Array.mk.injEq, List.cons.injEq, and_true] at q8 q9
  obtain ⟨hx8, hy8⟩ := q8
  obtain ⟨hx9, hy9⟩ := q9
  have hB : ∀ {k}, B 6 k → k ≠ g' := fun {k} hk e => hbox 6 d6 (by omega) (e ▸ hk)
  have hn0 : w0.heap.size ≤ g' := (h.blk 10 _ d10 hg').1
  have cc : ∀ j v, (TakenX r vb vc lo mb pe ne ce)[j]? = some v → w.cell? ⟨g', j, none⟩ = some v := fun j v hj => hc j v (by
    rw [qx, ← hx8] at q2
    have q3 : Xs = (TakenX r vb vc lo mb pe ne ce).toArray := by simpa using q2.symm
    rw [q3]
    simpa using hj)
  refine ⟨g', q1, by rw [← q12, qy, ← hy9], ⟨O', vb, vc, lo, q, fc, fa, ⟨t1, fun ho => ?_, t7, t8, t9, cc 3 _ rfl, cc 4 _ rfl, cc 9 _ rfl, t3, t4, t5, hfz, t6, hB f4, hB f2, hB f3⟩, fun k ho => ?_⟩, cc 0 _ rfl, ⟨r, cc 2 _ rfl⟩, hk, hn0⟩
  · rcases t2 _ ho with a | a
    · have := hO _ a; omega
    · exact hB a rfl
  · rcases t2 _ ho with a | a
    · exact .inl a
    · exact .inr (h.blk 6 _ d6 a).1

end Go.Proofs.Ytlnkflmnjkmhkaa

/-
  The page's examples of layer 24: the walk.
-/
namespace Go.Proofs.Ytlnkflmnjkmhkaa
open Go.RowKit Go.Maps

def bs24 : List Int := [9, 8, 7, 6, 5, 4, 3, 2]
theorem vars8 : (varsS 0 8 ⟨100, [], false⟩).2.reverse = bs24 := by decide +kernel
theorem vars8f : (varsS 0 8 ⟨100, [], false⟩).1.full = false := by decide +kernel

set_option maxRecDepth 100000 in
set_option maxHeartbeats 4000000 in
theorem known24_true (w : World) : Calls Try.prog 60 #[] w fun e w' => e = .returned (.bool true) ∧ Below w.heap.size w w' := by
  have HN := Lib.hid (new_ok 100 w (by omega) (by omega))
  have HBN : Hid (Below w.heap.size w (newWorld w 100)) := by unfold newWorld; exact (by repeat (first | exact Below.refl _ _ | assumption | refine Below.drew ?_ | refine Below.alloc ?_ (by first | omega | (simp <;> omega)) _ | refine Below.setCell ?_ (by first | omega | (simp <;> omega)) _ | refine Below.trans ?_ (Below.mono (by assumption) (by first | omega | (simp <;> omega)))))
  obtain ⟨O0, hs0, hO0⟩ := new_sto24 w 100 (by omega) (by omega)
  have HS0 := Lib.hid hs0
  have HO0 := Lib.hid hO0
  clear hs0 hO0
  go_enter Try.func60, Try.ntmps60
  go_wp2_with fail
  refine HN.out.mono ?_
  rintro e w0 ⟨rfl, rfl⟩
  generalize newWorld w 100 = w0 at *
  generalize w.heap.size + 2 = b at *
  clear HN
  go_wp2_with fail
  obtain ⟨A, hA⟩ : ∃ A, A = (((w0.alloc (.cells #[.int .i64 8] 3)).alloc (.cells #[.slice (some ⟨w0.heap.size, 0, none⟩) 1 1] 33)).alloc (.cells #[.slice (some ⟨w0.heap.size + 1, 0, none⟩) 1 1, .slice none 0 0, .slice none 0 0, .slice none 0 0, .slice none 0 0, .slice none 0 0, .slice none 0 0, .slice none 0 0, .slice none 0 0, .slice none 0 0, .slice none 0 0, .slice none 0 0] 94)) := ⟨_, rfl⟩
  have hbA : Below w0.heap.size w0 A := by rw [hA]; exact (by repeat (first | exact Below.refl _ _ | assumption | refine Below.drew ?_ | refine Below.alloc ?_ (by first | omega | (simp <;> omega)) _ | refine Below.setCell ?_ (by first | omega | (simp <;> omega)) _ | refine Below.trans ?_ (Below.mono (by assumption) (by first | omega | (simp <;> omega)))))
  have hh : HeadAt A (w0.heap.size + 1) w0.heap.size := by rw [hA]; exact ⟨by simp [go_sem], by simp [go_sem]⟩
  have hp : A.heap[w0.heap.size + 1 + 1]? = some (.cells #[.slice (some ⟨w0.heap.size + 1, 0, none⟩) 1 1, .slice none 0 0, .slice none 0 0, .slice none 0 0, .slice none 0 0, .slice none 0 0, .slice none 0 0, .slice none 0 0, .slice none 0 0, .slice none 0 0, .slice none 0 0, .slice none 0 0] 94 (0, 0)) := by
    rw [hA]
    have := heap_new ((w0.alloc (.cells #[.int .i64 8] 3)).alloc (.cells #[.slice (some ⟨w0.heap.size, 0, none⟩) 1 1] 33)) (.cells #[.slice (some ⟨w0.heap.size + 1, 0, none⟩) 1 1, .slice none 0 0, .slice none 0 0, .slice none 0 0, .slice none 0 0, .slice none 0 0, .slice none 0 0, .slice none 0 0, .slice none 0 0, .slice none 0 0, .slice none 0 0, .slice none 0 0] 94)
    simp only [World.size_alloc] at this
    exact this
  have hsz : A.heap.size = w0.heap.size + 1 + 1 + 1 := by rw [hA]; simp
  have HA := Lib.hid (symbvVars_sto b O0 _ 0 8 A (HS0.out.below hbA) (by omega) (by omega))
  have hlt0 := HS0.out.lt
  rw [← hA]
  clear hA
  refine HA.out.mono ?_
  rintro e w1 ⟨v, O1, rfl, hv, hs1, he1⟩
  have e8 : (max 0 (min (8 : Int) 64)).toNat = 8 := by decide
  rw [e8] at hv hs1
  dsimp only at hv hs1
  rw [vars8] at hv
  obtain ⟨ab, cb, rfl⟩ : ∃ ab cb, v = .slice (some ab) 8 cb := by
    obtain ⟨pa, c, e, -, -, hc⟩ := hv.1
    obtain ⟨b1, o1, rfl, -⟩ := hc (by decide)
    exact ⟨_, _, e⟩
  have hO1 : ∀ k, O1 k → O0 k ∨ A.heap.size ≤ k := he1.2
  have old : ∀ k, w0.heap.size ≤ k → k < A.heap.size → ¬ O1 k ∧ w1.heap[k]? = A.heap[k]? := fun k h1 h2 => by
    have n0 : ¬ O0 k := fun h => by have := hlt0 k h; omega
    refine ⟨fun h => ?_, he1.1.block k h2 n0⟩
    rcases hO1 k h with q | q
    · exact n0 q
    · omega
  have HH1 : Hid (HeadAt w1 (w0.heap.size + 1) w0.heap.size) := ⟨(World.cell?_of_block (a := ⟨w0.heap.size + 1, 0, none⟩) (old (w0.heap.size + 1) (by omega) (by omega)).2).trans hh.1, (World.cell?_of_block (a := ⟨w0.heap.size, 0, none⟩) (old w0.heap.size (by omega) (by omega)).2).trans hh.2⟩
  have HP1 : Hid (w1.heap[w0.heap.size + 1 + 1]? = some (.cells #[.slice (some ⟨w0.heap.size + 1, 0, none⟩) 1 1, .slice none 0 0, .slice none 0 0, .slice none 0 0, .slice none 0 0, .slice none 0 0, .slice none 0 0, .slice none 0 0, .slice none 0 0, .slice none 0 0, .slice none 0 0, .slice none 0 0] 94 (0, 0)) ∧ ¬ O1 (w0.heap.size + 1 + 1)) := ⟨(old _ (by omega) (by omega)).2.trans hp, (old _ (by omega) (by omega)).1⟩
  have HW1 : Hid (Keeps O0 w w1 ∧ ∀ k, O1 k → w.heap.size ≤ k) := by
    have h1 := HBN.out.trans (hbA.mono HBN.out.size)
    refine ⟨⟨he1.1.os.trans h1.os, he1.1.tape.trans h1.tape, he1.1.output.trans h1.output, Nat.le_trans h1.size he1.1.size, fun k hk hO => (he1.1.block k (Nat.lt_of_lt_of_le hk h1.size) hO).trans (h1.block k hk)⟩, fun k hk => ?_⟩
    rcases hO1 k hk with q | q
    · exact HO0.out k q
    · have := h1.size; omega
  have HS1 := Lib.hid hs1
  have HV1 := Lib.hid hv
  have HF1 := Lib.hid vars8f
  generalize (varsS 0 8 ⟨100, [], false⟩).1 = s1 at *
  clear hs1 hv hh hp hsz hbA hlt0 hO1 old he1 HA HS0 HBN
  have HLT := Lib.hid HS1.out.lt
  go_wp2_with fail
  refine k6R b (w0.heap.size + 1) w0.heap.size (w0.heap.size + 1 + 1) O1 s1 bs24 ab cb w1 (Lib.hid (k6_fine HLT.out)) (Lib.hid fun l => ⟨(fun h => by rw [did_none] at h; cases h), fun _ => ⟨HS1.out.below (below_drewN (Below.refl _ _) 1), below_drewN (Below.refl _ _) 1, (fun h => by rw [did_none] at h; cases h), (fun h => by rw [did_none] at h; cases h)⟩, Laid.start, (Keeps.refl O1 w1).below (below_drewN (Below.refl _ _) 1)⟩) (Nat.le_refl _)
    HF1 (Lib.hid rfl) HLT HH1 (Lib.hid HV1.out.1) (Lib.hid fun W hW => ?_) (Lib.hid fun i v L l w1 w2 hn hL _ hb hg h4 h5 h6 h11 => k6_gq hn hL hb hg h4 h5 h6 h11) _ _ _ _ _ _ _ _ _ _ _ _ _ _ _ _ _ _ _ _ _ _ _ _ _ _ _ _ _ _ _ _ _ _ _ _ _ _ _ _ _ _ _ _ _ _ _ _ _ _ _ _ _ _ _ _ _ _ _ _ _ _ _ _ _ _ _ _ _ _ _ _ _ _  ?_
  · have hq := (hW _ (lt_of_block HP1.out.1) HP1.out.2).trans HP1.out.1
    exact ⟨by simp [World.cell?, hq], by simp [World.cell?, hq], by simp [World.cell?, hq], by simp [World.cell?, hq], by simp [World.cell?, hq], by simp [World.cell?, hq], by simp [World.cell?, hq], by simp [World.cell?, hq], by simp [World.cell?, hq], by simp [World.cell?, hq], by simp [World.cell?, hq], by simp [World.cell?, hq]⟩
  intro u0 u1 u2 u3 u4 u5 u6 u7 u8 u9 u10 u12 L w2 hall hrw
  dsimp only
  obtain ⟨g, rfl, rfl, hk⟩ := k6_out HLT.out rfl hall hrw
  have HK := Lib.hid hk
  obtain ⟨⟨O2, vb, vc, lo, q, fc, fa, hgot, hO2⟩, -⟩ := hk
  have HGT := Lib.hid (get_known HF1.out rfl hgot)
  have HO2 := Lib.hid hO2
  have HGO := Lib.hid hgot
  clear hgot hO2 hrw hall
  go_wp2_with fail
  refine HGT.out.mono ?_
  rintro e w3 ⟨a, cv, rfl, hk3, hold, h9, hiv⟩
  have x0 := hold 0 (by omega) _ HK.out.c0
  obtain ⟨r, hc2⟩ := HK.out.c2
  have x2 := hold 2 (by omega) _ hc2
  have hng := HK.out.ng
  have keep : ∀ k, k < w1.heap.size → ¬ O1 k → w3.heap[k]? = w1.heap[k]? := fun k h1 h2 => (hk3.block k (Nat.lt_of_lt_of_le h1 HK.out.kp.size) (fun h => by
    rcases h with h | h
    · rcases HO2.out k h with q | q
      · exact h2 q
      · omega
    · omega)).trans (HK.out.kp.block k h1 h2)
  have HBF : Hid (Below w.heap.size w w3) := by
    have h1 := HW1.out.1
    refine ⟨hk3.os.trans (HK.out.kp.os.trans h1.os), hk3.tape.trans (HK.out.kp.tape.trans h1.tape), hk3.output.trans (HK.out.kp.output.trans h1.output), Nat.le_trans h1.size (Nat.le_trans HK.out.kp.size hk3.size), fun k hk => ?_⟩
    have n1 : ¬ O1 k := fun h => by have := HW1.out.2 k h; omega
    have n0 : ¬ O0 k := fun h => by have := HO0.out k h; omega
    exact (keep k (Nat.lt_of_lt_of_le hk h1.size) n1).trans (h1.block k hk n0)
  obtain ⟨pa, ca, ea, -, -, hca⟩ := hiv
  obtain ⟨b1, o1, rfl, -, hca⟩ := hca (by decide)
  have ea : a = ⟨b1, o1, none⟩ := by simp only [Value.slice.injEq] at ea; simpa using ea.1
  subst ea
  have a0 : w3.cell? ⟨b1, o1, none⟩ = some (.int .i64 9) := hca 0 (by decide)
  have a7 : w3.cell? ⟨b1, o1 + 7, none⟩ = some (.int .i64 2) := hca 7 (by decide)
  have hno := HV1.out.2.1
  obtain ⟨pb, cb', eb, -, -, hcb⟩ := HV1.out.1
  obtain ⟨b2, o2, rfl, hl2, hcb⟩ := hcb (by decide)
  have eb : ab = ⟨b2, o2, none⟩ := by simp only [Value.slice.injEq] at eb; simpa using eb.1
  subst eb
  have n2 : ¬ O1 b2 := hno b2 rfl (by decide)
  have d0 : w3.cell? ⟨b2, o2, none⟩ = some (.int .i64 9) := (World.cell?_of_block (a := ⟨b2, o2, none⟩) (keep b2 hl2 n2)).trans (hcb 0 (by decide))
  have d7 : w3.cell? ⟨b2, o2 + 7, none⟩ = some (.int .i64 2) := (World.cell?_of_block (a := ⟨b2, o2 + 7, none⟩) (keep b2 hl2 n2)).trans (hcb 7 (by decide))
  clear hk3 hold hc2 hng keep hca hno hcb n2 HK HGT HO2 HGO HW1 HV1 HS1 HP1 HH1 HLT HF1 HO0
  go_wp2_with fail
  go_quiet (fail)
  go_wp2_with fail
  go_ret
  exact ⟨rfl, below_drewN HBF.out _⟩

end Go.Proofs.Ytlnkflmnjkmhkaa
