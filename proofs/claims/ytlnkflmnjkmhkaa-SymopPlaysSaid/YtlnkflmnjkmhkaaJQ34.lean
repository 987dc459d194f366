/-
  Lemmas, joined: Law18R24, Plays18d, Law18P.
-/
import Derived.Test.YtlnkflmnjkmhkaaJQ33
import Derived.Test.YtlnkflmnjkmhkaaJQ26
import Derived.Test.YtlnkflmnjkmhkaaJQ32
import Derived.Test.YtlnkflmnjkmhkaaJQ19
import Derived.Test.YtlnkflmnjkmhkaaJQ08
/-
  The law SymopPlays of layer 18: the region of the two calls.
-/
namespace Go.Proofs.Ytlnkflmnjkmhkaa
open Go.RowKit Go.Maps

noncomputable def regP (n : Nat) : Code := (Try.f3.body.bind (findRegion n)).getD .skip
def OpCells (W : World) (g : Nat) (kind oa ob v0 v1 m0 m1 : Int) : Prop := W.cell? ⟨g, 0, none⟩ = some (.int .i64 kind) ∧ W.cell? ⟨g, 1, none⟩ = some (.int .i64 oa) ∧ W.cell? ⟨g, 2, none⟩ = some (.int .i64 ob) ∧
  W.cell? ⟨g, 3, none⟩ = some (.int .u64 v0) ∧ W.cell? ⟨g, 4, none⟩ = some (.int .u64 v1) ∧ W.cell? ⟨g, 5, none⟩ = some (.int .u64 m0) ∧ W.cell? ⟨g, 6, none⟩ = some (.int .u64 m1)
def reg24S (b bw : Nat) (kind oa ob v0 v1 m0 m1 : Int) (va vb : Value) (ph : Nat → Value → Value → World → Prop) : StP := ⟨[.eq (.pointer (some ⟨b, 0, none⟩)), .eq va, .eq vb, .eq (.agg #[.int .i64 kind, .int .i64 oa, .int .i64 ob, .int .u64 v0, .int .u64 v1, .int .u64 m0, .int .u64 m1]), .free, .eq (.pointer (some ⟨bw, 0, none⟩)), .eq va, .eq vb, .eq (.agg #[.int .i64 kind, .int .i64 oa, .int .i64 ob, .int .u64 v0, .int .u64 v1, .int .u64 m0, .int .u64 m1]), .free, .same 4, .same 9], 4, 9, ph⟩

set_option maxRecDepth 100000 in
set_option maxHeartbeats 6000000 in
theorem reg24 (b bw gX : Nat) (kind oa ob v0 v1 m0 m1 : Int) (va vb : Value) (ph : Nat → Value → Value → World → Prop) (WB : World)
    (H0 : Hid (∀ x y, ph 0 x y WB)) (HLT : Hid (StP.Later (reg24S b bw kind oa ob v0 v1 m0 m1 va vb ph))) (HCE : Hid (∀ k x y W, ph k x y W → OpCells W gX kind oa ob v0 v1 m0 m1))
    (HC0 : Hid (∀ x y W, ph 0 x y W → Calls Try.prog 14 #[.pointer (some ⟨b, 0, none⟩), va, vb, .agg #[.int .i64 kind, .int .i64 oa, .int .i64 ob, .int .u64 v0, .int .u64 v1, .int .u64 m0, .int .u64 m1]] W fun e w' => ∃ v, e = .returned v ∧ ph 1 v y w'))
    (HC1 : Hid (∀ x y W, ph 1 x y W → Calls Try.prog 15 #[.pointer (some ⟨bw, 0, none⟩), va, vb, .agg #[.int .i64 kind, .int .i64 oa, .int .i64 ob, .int .u64 v0, .int .u64 v1, .int .u64 m0, .int .u64 m1]] W fun e w' => ∃ v, e = .returned v ∧ ph 2 x v w'))
    (c0 c1 c2 c3 c4 c6 c8 c9 c10 c11 c12 c13 c17 c18 c19 c20 c21 c22 c23 c24 c25 c26 c27 c28 c29 c30 c31 c32 c33 c34 c35 c36 c37 c38 c39 c40 c41 c42 c43 c44 c45 c46 c47 c48 c49 c50 c51 c52 c53 c54 c55 c56 c57 c58 c59 c60 c61 c62 c63 c64 c65 c66 c67 c68 c69 c70 c71 c72 c73 c74 c75 c76 c77 c78 c79 c80 c81 c82 c83 c84 c85 c86 c87 c88 c89 c90 c91 c92 c93 c94 c95 c96 c97 c98 c99 c100 c101 c102 c103 c104 c105 c106 c107 c108 c109 c110 c111 c112 c113 c114 c115 c116 c117 c118 c119 c120 c121 c122 c123 c124 c125 c126 c127 c128 : Value) (Q : Exit → Act → World → Prop)
    (hexit : ∀ (u0 u1 u2 u3 u4 u5 u6 u7 u8 u9 : Value) (w' : World), (∃ k, 1 < k ∧ ph k u4 u9 w') → Q .normal ⟨#[c0, c1, c2, c3, c4, .pointer (some ⟨b, 0, none⟩), c6, .pointer (some ⟨bw, 0, none⟩), c8, c9, c10, c11, c12, c13, .pointer (some ⟨gX, 0, none⟩), va, vb, u4, u9, c19, c20, c21, c22, c23, c24, c25, c26, c27, c28, c29, c30, c31, c32, c33, c34, c35, c36, c37, c38, c39, c40, c41, c42, c43, c44, c45, c46, c47, c48, c49, c50, c51, c52, c53, c54, c55, c56, c57, c58, c59, c60, c61, c62, c63, c64, c65, c66, c67, c68, c69, c70, c71, c72, c73, c74, c75, c76, c77, c78, c79, c80, c81, c82, c83, c84, c85, c86, c87, c88, c89, u0, u1, u2, u3, u4, u5, u6, u7, u8, u9, c100, c101, c102, c103, c104, c105, c106, c107, c108, c109, c110, c111, c112, c113, c114, c115, c116, c117, c118, c119, c120, c121, c122, c123, c124, c125, c126, c127, c128], []⟩ w') :
    Code.wp Try.prog (regP 24) Q ⟨#[c0, c1, c2, c3, c4, .pointer (some ⟨b, 0, none⟩), c6, .pointer (some ⟨bw, 0, none⟩), c8, c9, c10, c11, c12, c13, .pointer (some ⟨gX, 0, none⟩), va, vb, c17, c18, c19, c20, c21, c22, c23, c24, c25, c26, c27, c28, c29, c30, c31, c32, c33, c34, c35, c36, c37, c38, c39, c40, c41, c42, c43, c44, c45, c46, c47, c48, c49, c50, c51, c52, c53, c54, c55, c56, c57, c58, c59, c60, c61, c62, c63, c64, c65, c66, c67, c68, c69, c70, c71, c72, c73, c74, c75, c76, c77, c78, c79, c80, c81, c82, c83, c84, c85, c86, c87, c88, c89, c90, c91, c92, c93, c94, c95, c96, c97, c98, c99, c100, c101, c102, c103, c104, c105, c106, c107, c108, c109, c110, c111, c112, c113, c114, c115, c116, c117, c118, c119, c120, c121, c122, c123, c124, c125, c126, c127, c128], []⟩ WB := by
  dsimp only at hexit ⊢
  conv => arg 2; whnf
  have HEX := Lib.hid hexit
  clear hexit
  have HL := HLT.out
  refine wp_region_inv (by kernel_rfl) (fun L a' w' => ∃ u0 u1 u2 u3 u4 u5 u6 u7 u8 u9 u10 u11 : Value, a' = ⟨#[c0, c1, c2, c3, c4, .pointer (some ⟨b, 0, none⟩), c6, .pointer (some ⟨bw, 0, none⟩), c8, c9, c10, c11, c12, c13, .pointer (some ⟨gX, 0, none⟩), va, vb, u10, u11, c19, c20, c21, c22, c23, c24, c25, c26, c27, c28, c29, c30, c31, c32, c33, c34, c35, c36, c37, c38, c39, c40, c41, c42, c43, c44, c45, c46, c47, c48, c49, c50, c51, c52, c53, c54, c55, c56, c57, c58, c59, c60, c61, c62, c63, c64, c65, c66, c67, c68, c69, c70, c71, c72, c73, c74, c75, c76, c77, c78, c79, c80, c81, c82, c83, c84, c85, c86, c87, c88, c89, u0, u1, u2, u3, u4, u5, u6, u7, u8, u9, c100, c101, c102, c103, c104, c105, c106, c107, c108, c109, c110, c111, c112, c113, c114, c115, c116, c117, c118, c119, c120, c121, c122, c123, c124, c125, c126, c127, c128], []⟩ ∧ L.size = 12 ∧ RP (reg24S b bw kind oa ob v0 v1 m0 m1 va vb ph) L [u0, u1, u2, u3, u4, u5, u6, u7, u8, u9, u10, u11] w') ?_ ?_ ?_ ?_
  · exact ⟨_, _, _, _, _, _, _, _, _, _, _, _, rfl, by simp, RP.init (fun i => did_none _ _) (fun x y => HL 0 x y _ _ (H0.out x y) (below_drewN (Below.refl _ _) 1))⟩
  · rintro L a' w' i hL hi hnd hdep ⟨u0, u1, u2, u3, u4, u5, u6, u7, u8, u9, u10, u11, rfl, hLn, hI⟩
    dsimp only
    have hsz : ∀ i, (L.setIfInBounds i true).size = 12 := fun i => by simpa using hLn
    have hL12 : L.size = 12 := hL
    have HI := Lib.hid hI
    obtain ⟨kk, xx, yy, hph⟩ := hI.any
    obtain ⟨z0, z1, z2, z3, z4, z5, z6⟩ := HCE.out _ _ _ _ hph
    clear hI hph
    match i, hi with
    | 0, _ =>
      have HN := Lib.hid hnd
      clear hdep hnd
      refine wpOp_step rfl (fun K' hK => ?_)
      go_simp
      exact hK _ _ ⟨_, _, _, _, _, _, _, _, _, _, _, _, rfl, hsz _, HI.out.val 0 _ HN.out (show (4 : Nat) ≠ 0 by decide) (show (9 : Nat) ≠ 0 by decide) HL (Below.refl _ _) (by show 0 < 12; omega) rfl⟩
    | 1, _ =>
      have HN := Lib.hid hnd
      clear hdep hnd
      refine wpOp_step rfl (fun K' hK => ?_)
      go_simp
      exact hK _ _ ⟨_, _, _, _, _, _, _, _, _, _, _, _, rfl, hsz _, HI.out.val 1 _ HN.out (show (4 : Nat) ≠ 1 by decide) (show (9 : Nat) ≠ 1 by decide) HL (Below.refl _ _) (by show 1 < 12; omega) rfl⟩
    | 2, _ =>
      have HN := Lib.hid hnd
      clear hdep hnd
      refine wpOp_step rfl (fun K' hK => ?_)
      go_simp
      exact hK _ _ ⟨_, _, _, _, _, _, _, _, _, _, _, _, rfl, hsz _, HI.out.val 2 _ HN.out (show (4 : Nat) ≠ 2 by decide) (show (9 : Nat) ≠ 2 by decide) HL (Below.refl _ _) (by show 2 < 12; omega) rfl⟩
    | 3, _ =>
      have HN := Lib.hid hnd
      clear hdep hnd
      refine wpOp_step rfl (fun K' hK => ?_)
      go_simp
      exact hK _ _ ⟨_, _, _, _, _, _, _, _, _, _, _, _, rfl, hsz _, HI.out.val 3 _ HN.out (show (4 : Nat) ≠ 3 by decide) (show (9 : Nat) ≠ 3 by decide) HL (Below.refl _ _) (by show 3 < 12; omega) rfl⟩
    | 4, _ =>
      have HN := Lib.hid hnd
      have q0 := (HI.out.got 0 (hdep _ rfl ⟨0, .data⟩ (by simp) (by kernel_rfl)) rfl).symm
      subst q0
      have q1 := (HI.out.got 1 (hdep _ rfl ⟨1, .data⟩ (by simp) (by kernel_rfl)) rfl).symm
      subst q1
      have q2 := (HI.out.got 2 (hdep _ rfl ⟨2, .data⟩ (by simp) (by kernel_rfl)) rfl).symm
      subst q2
      have q3 := (HI.out.got 3 (hdep _ rfl ⟨3, .data⟩ (by simp) (by kernel_rfl)) rfl).symm
      subst q3
      obtain ⟨x, y, hp, hput⟩ := HI.out.call0 4 rfl HN.out
      have HP := Lib.hid hput
      clear hput hdep hnd
      refine wpOp_step rfl (fun K' hK => ?_)
      go_simp
      refine (HC0.out x y _ hp).mono ?_
      rintro e w1 ⟨v, rfl, hp1⟩
      exact hK _ _ ⟨_, _, _, _, _, _, _, _, _, _, _, _, rfl, hsz _, HP.out v w1 (by omega) (by show 4 < 12; omega) (show (4 : Nat) ≠ 9 by decide) rfl hp1⟩
    | 5, _ =>
      have HN := Lib.hid hnd
      clear hdep hnd
      refine wpOp_step rfl (fun K' hK => ?_)
      go_simp
      exact hK _ _ ⟨_, _, _, _, _, _, _, _, _, _, _, _, rfl, hsz _, HI.out.val 5 _ HN.out (show (4 : Nat) ≠ 5 by decide) (show (9 : Nat) ≠ 5 by decide) HL (Below.refl _ _) (by show 5 < 12; omega) rfl⟩
    | 6, _ =>
      have HN := Lib.hid hnd
      clear hdep hnd
      refine wpOp_step rfl (fun K' hK => ?_)
      go_simp
      exact hK _ _ ⟨_, _, _, _, _, _, _, _, _, _, _, _, rfl, hsz _, HI.out.val 6 _ HN.out (show (4 : Nat) ≠ 6 by decide) (show (9 : Nat) ≠ 6 by decide) HL (Below.refl _ _) (by show 6 < 12; omega) rfl⟩
    | 7, _ =>
      have HN := Lib.hid hnd
      clear hdep hnd
      refine wpOp_step rfl (fun K' hK => ?_)
      go_simp
      exact hK _ _ ⟨_, _, _, _, _, _, _, _, _, _, _, _, rfl, hsz _, HI.out.val 7 _ HN.out (show (4 : Nat) ≠ 7 by decide) (show (9 : Nat) ≠ 7 by decide) HL (Below.refl _ _) (by show 7 < 12; omega) rfl⟩
    | 8, _ =>
      have HN := Lib.hid hnd
      clear hdep hnd
      refine wpOp_step rfl (fun K' hK => ?_)
      go_simp
      exact hK _ _ ⟨_, _, _, _, _, _, _, _, _, _, _, _, rfl, hsz _, HI.out.val 8 _ HN.out (show (4 : Nat) ≠ 8 by decide) (show (9 : Nat) ≠ 8 by decide) HL (Below.refl _ _) (by show 8 < 12; omega) rfl⟩
    | 9, _ =>
      have HN := Lib.hid hnd
      have q5 := (HI.out.got 5 (hdep _ rfl ⟨5, .data⟩ (by simp) (by kernel_rfl)) rfl).symm
      subst q5
      have q6 := (HI.out.got 6 (hdep _ rfl ⟨6, .data⟩ (by simp) (by kernel_rfl)) rfl).symm
      subst q6
      have q7 := (HI.out.got 7 (hdep _ rfl ⟨7, .data⟩ (by simp) (by kernel_rfl)) rfl).symm
      subst q7
      have q8 := (HI.out.got 8 (hdep _ rfl ⟨8, .data⟩ (by simp) (by kernel_rfl)) rfl).symm
      subst q8
      obtain ⟨x, y, hp, hput⟩ := HI.out.call1 9 rfl HN.out (hdep _ rfl ⟨4, .chain⟩ (by simp) (by kernel_rfl))
      have HP := Lib.hid hput
      clear hput hdep hnd
      refine wpOp_step rfl (fun K' hK => ?_)
      go_simp
      refine (HC1.out x y _ hp).mono ?_
      rintro e w1 ⟨v, rfl, hp1⟩
      exact hK _ _ ⟨_, _, _, _, _, _, _, _, _, _, _, _, rfl, hsz _, HP.out v w1 (by omega) (by show 9 < 12; omega) (show (4 : Nat) ≠ 9 by decide) rfl hp1⟩
    | 10, _ =>
      have HN := Lib.hid hnd
      have h4 := hdep _ rfl ⟨4, .data⟩ (by simp) (by kernel_rfl)
      have HD := Lib.hid h4
      clear hdep hnd h4
      refine wpOp_step rfl (fun K' hK => ?_)
      go_simp
      exact hK _ _ ⟨_, _, _, _, _, _, _, _, _, _, _, _, rfl, hsz _, HI.out.copy 10 4 HN.out HD.out (show (4 : Nat) ≠ 10 by decide) (show (9 : Nat) ≠ 10 by decide) HL (by show 10 < 12; omega) rfl⟩
    | 11, _ =>
      have HN := Lib.hid hnd
      have h9 := hdep _ rfl ⟨9, .data⟩ (by simp) (by kernel_rfl)
      have HD := Lib.hid h9
      clear hdep hnd h9
      refine wpOp_step rfl (fun K' hK => ?_)
      go_simp
      exact hK _ _ ⟨_, _, _, _, _, _, _, _, _, _, _, _, rfl, hsz _, HI.out.copy 11 9 HN.out HD.out (show (4 : Nat) ≠ 11 by decide) (show (9 : Nat) ≠ 11 by decide) HL (by show 11 < 12; omega) rfl⟩
    | i + 12, hi => exact absurd hi (by show ¬ (i + 12 < 12); omega)
  · intro i o ho e he
    match i, ho with
    | 0, ho => cases ho; simp at he
    | 1, ho => cases ho; simp at he
    | 2, ho => cases ho; simp at he
    | 3, ho => cases ho; simp at he
    | 4, ho => cases ho; simp at he; rcases he with rfl | rfl | rfl | rfl <;> simp
    | 5, ho => cases ho; simp at he
    | 6, ho => cases ho; simp at he
    | 7, ho => cases ho; simp at he
    | 8, ho => cases ho; simp at he
    | 9, ho => cases ho; simp at he; rcases he with rfl | rfl | rfl | rfl | rfl <;> simp
    | 10, ho => cases ho; simp at he; rcases he with rfl | rfl | rfl | rfl | rfl | rfl | rfl | rfl | rfl | rfl | rfl | rfl <;> simp
    | 11, ho => cases ho; simp at he; rcases he with rfl | rfl | rfl | rfl | rfl | rfl | rfl | rfl | rfl | rfl | rfl | rfl | rfl <;> simp
    | i + 12, ho => simp at ho
  · rintro L a' w' hall ⟨u0, u1, u2, u3, u4, u5, u6, u7, u8, u9, u10, u11, rfl, hLn, hI⟩
    have q10 : u10 = u4 := hI.same 10 4 (hall 10 (by show 10 < 12; omega)) rfl
    have q11 : u11 = u9 := hI.same 11 9 (hall 11 (by show 11 < 12; omega)) rfl
    subst q10 q11
    exact HEX.out u0 u1 u2 u3 u10 u5 u6 u7 u8 u11 w' (hI.ends (hall 9 (by show 9 < 12; omega)))

end Go.Proofs.Ytlnkflmnjkmhkaa

/-
  The law SymopPlays of layer 18: the two calls of a round.
-/
namespace Go.Proofs.Ytlnkflmnjkmhkaa
open Go.RowKit Go.Maps

def phP (w0 : World) (b bw g n gX : Nat) (kind oa ob v0 v1 m0 m1 : Int) (s : BS) (r : BS × List Int) (v : Value) (vals : Nat → Value) (xs : Nat → List Int) : Nat → Value → Value → World → Prop
  | 0, _, _, W => ∃ O Ow, PlaysI w0 W b O s bw Ow s g n v vals xs ∧ OpCells W gX kind oa ob v0 v1 m0 m1 ∧ ¬ Mut O Ow g v gX
  | 1, x, _, W => ∃ O Ow, PlaysI w0 W b O r.1 bw Ow s g n v vals xs ∧ OpCells W gX kind oa ob v0 v1 m0 m1 ∧ ¬ Mut O Ow g v gX ∧ IVecX W (Mut O Ow g v) x r.2
  | _, x, y, W => ∃ O Ow, PlaysI w0 W b O r.1 bw Ow r.1 g n v vals xs ∧ OpCells W gX kind oa ob v0 v1 m0 m1 ∧ ¬ Mut O Ow g v gX ∧ IVecX W (Mut O Ow g v) x r.2 ∧ IVecX W (Mut O Ow g v) y r.2

theorem OpCells.ext {O O' : Nat → Prop} {W W' : World} {g : Nat} {kind oa ob v0 v1 m0 m1 : Int} (h : OpCells W g kind oa ob v0 v1 m0 m1) (he : Ext O O' W W') (hn : ¬ O g) : OpCells W' g kind oa ob v0 v1 m0 m1 ∧ ¬ O' g := by
  obtain ⟨h0, h1, h2, h3, h4, h5, h6⟩ := h
  have hg := (cell_there h0).1
  have e : ∀ j x, W.cell? ⟨g, j, none⟩ = some x → W'.cell? ⟨g, j, none⟩ = some x := fun j x q => (he.cell (p := ⟨g, j, none⟩) hg hn).1.trans q
  exact ⟨⟨e _ _ h0, e _ _ h1, e _ _ h2, e _ _ h3, e _ _ h4, e _ _ h5, e _ _ h6⟩, (he.cell (p := ⟨g, 0, none⟩) hg hn).2.2⟩

variable {w0 W W' : World} {b : Nat} {O O' : Nat → Prop} {s s' : BS} {bw : Nat} {Ow : Nat → Prop} {t : BS} {g n gX : Nat} {v : Value} {vals : Nat → Value} {xs : Nat → List Int}
variable {kind oa ob v0 v1 m0 m1 : Int} {r : BS × List Int}

theorem PlaysI.newS {x : Value} {ys : List Int} (h : PlaysI w0 W b O s bw Ow t g n v vals xs) (hv : IVecF W W' O' x ys) : IVecX W' (Mut O' Ow g v) x ys :=
  ⟨hv.1.1, fun k hk h0 hM => by
    rcases hM with q | q
    · exact hv.1.2.1 k hk h0 q
    · have := h.lt k (.inr q); have := hv.2 k hk h0; omega, hv.1.2.2⟩
theorem PlaysI.newR {x : Value} {ys : List Int} (h : PlaysI w0 W b O s bw Ow t g n v vals xs) (hv : IVecF W W' O' x ys) : IVecX W' (Mut O O' g v) x ys :=
  ⟨hv.1.1, fun k hk h0 hM => by
    rcases hM with q | q | q
    · have := h.lt k (.inl q); have := hv.2 k hk h0; omega
    · exact hv.1.2.1 k hk h0 q
    · have := h.lt k (.inr (.inr q)); have := hv.2 k hk h0; omega, hv.1.2.2⟩

theorem phP_cells : ∀ k x y W, phP w0 b bw g n gX kind oa ob v0 v1 m0 m1 s r v vals xs k x y W → OpCells W gX kind oa ob v0 v1 m0 m1
  | 0, _, _, _, ⟨_, _, _, h, _⟩ => h
  | 1, _, _, _, ⟨_, _, _, h, _⟩ => h
  | _ + 2, _, _, _, ⟨_, _, _, h, _⟩ => h
theorem phP_later : ∀ k x y W W', phP w0 b bw g n gX kind oa ob v0 v1 m0 m1 s r v vals xs k x y W → Below W.heap.size W W' → phP w0 b bw g n gX kind oa ob v0 v1 m0 m1 s r v vals xs k x y W'
  | 0, _, _, _, _, ⟨O, Ow, h1, h2, h3⟩, hb => ⟨O, Ow, h1.later hb, (h2.ext (Ext.of_below hb) h3).1, h3⟩
  | 1, _, _, _, _, ⟨O, Ow, h1, h2, h3, h4⟩, hb => ⟨O, Ow, h1.later hb, (h2.ext (Ext.of_below hb) h3).1, h3, h4.below hb⟩
  | _ + 2, _, _, _, _, ⟨O, Ow, h1, h2, h3, h4, h5⟩, hb => ⟨O, Ow, h1.later hb, (h2.ext (Ext.of_below hb) h3).1, h3, h4.below hb, h5.below hb⟩

theorem phP_call0 (i j : Nat) (hi : i < n) (hj : j < n) (fv fm : Int → Bool) (HV : Hid (BitsAre v0 v1 fv)) (HM : Hid (BitsAre m0 m1 fm)) (hr : r = callF kind fm fv (xs i) (xs j) s) (x y : Value) (W : World) (h : phP w0 b bw g n gX kind oa ob v0 v1 m0 m1 s r v vals xs 0 x y W) :
    Calls Try.prog 14 #[.pointer (some ⟨b, 0, none⟩), vals i, vals j, .agg #[.int .i64 kind, .int .i64 oa, .int .i64 ob, .int .u64 v0, .int .u64 v1, .int .u64 m0, .int .u64 m1]] W fun e w' => ∃ x, e = .returned x ∧ phP w0 b bw g n gX kind oa ob v0 v1 m0 m1 s r v vals xs 1 x y w' := by
  obtain ⟨O, Ow, h, hc, hn⟩ := h
  have hvi := h.vec i hi
  have hvj := h.vec j hj
  refine (call_new b O s kind oa ob (vals i) (vals j) (xs i) (xs j) v0 v1 m0 m1 fv fm HV HM W h.sto (hvi.1.sub fun k q => .inl q) (hvj.1.sub fun k q => .inl q) (by omega) (by omega)).mono ?_
  rw [← hr]
  rintro e w' ⟨x, O', he, hv, hs, hx⟩
  exact ⟨x, he, O', Ow, h.stoCall hs hx, (hc.ext (mut_sto hx) hn).1, (hc.ext (mut_sto hx) hn).2, h.newS hv⟩
theorem phP_call1 (i j : Nat) (hi : i < n) (hj : j < n) (fv fm : Int → Bool) (HV : Hid (BitsAreR v0 v1 fv)) (HM : Hid (BitsAreR m0 m1 fm)) (hr : r = callF kind fm fv (xs i) (xs j) s) (x y : Value) (W : World) (h : phP w0 b bw g n gX kind oa ob v0 v1 m0 m1 s r v vals xs 1 x y W) :
    Calls Try.prog 15 #[.pointer (some ⟨bw, 0, none⟩), vals i, vals j, .agg #[.int .i64 kind, .int .i64 oa, .int .i64 ob, .int .u64 v0, .int .u64 v1, .int .u64 m0, .int .u64 m1]] W fun e w' => ∃ y, e = .returned y ∧ phP w0 b bw g n gX kind oa ob v0 v1 m0 m1 s r v vals xs 2 x y w' := by
  obtain ⟨O, Ow, h, hc, hn, hx⟩ := h
  have hvi := h.vec i hi
  have hvj := h.vec j hj
  refine (want_rs bw Ow s kind oa ob (vals i) (vals j) (xs i) (xs j) v0 v1 m0 m1 fv fm HV HM W h.rst (hvi.1.sub fun k q => .inr (.inl q)) (hvj.1.sub fun k q => .inr (.inl q)) (by omega) (by omega)).mono ?_
  rw [← hr]
  rintro e w' ⟨y, O', he, hv, hs, hx'⟩
  exact ⟨y, he, O, O', h.rstCall hs hx', (hc.ext (mut_rst hx') hn).1, (hc.ext (mut_rst hx') hn).2, hx.ext (mut_rst hx'), h.newR hv⟩
theorem phP_end (k : Nat) (hk : 1 < k) (x y : Value) (W : World) (h : phP w0 b bw g n gX kind oa ob v0 v1 m0 m1 s r v vals xs k x y W) :
    ∃ O Ow, PlaysI w0 W b O r.1 bw Ow r.1 g n v vals xs ∧ IVecX W (Mut O Ow g v) x r.2 ∧ IVecX W (Mut O Ow g v) y r.2 := by
  match k, hk, h with
  | _ + 2, _, ⟨O, Ow, h1, _, _, h4, h5⟩ => exact ⟨O, Ow, h1, h4, h5⟩

theorem two_ltB {n m : Nat} (hn : n < B) (hm : m < B) : n * B + m < B * B := by
  have : n * B ≤ (B - 1) * B := Nat.mul_le_mul_right _ (by omega)
  have e2 : (B - 1) * B = B * B - B := by rw [Nat.sub_mul, Nat.one_mul]
  have e3 : B ≤ B * B := Nat.le_mul_of_pos_left _ B_pos
  omega
theorem bits_twoB (h l : Nat) (hh : h < B) (hl : l < B) : BitsAre (h : Int) (l : Int) (bitB (h * B + l)) := fun i W => by
  have := numBit_any (h * B + l) i W (two_ltB hh hl)
  rw [← numV_mk h l hl] at this
  exact this
theorem bits_twoR (h l : Nat) (hh : h < B) (hl : l < B) : BitsAreR (h : Int) (l : Int) (bitB (h * B + l)) := fun i W => by
  have := refBit_any (h * B + l) i (two_ltB hh hl) W
  rw [← numV_mk h l hl] at this
  exact this

/-- What the reference's store shows of itself. -/
theorem RSto.shown {W : World} {bw : Nat} {Ow : Nat → Prop} {s : BS} (h : RSto W bw Ow s) : ∃ p c, W.cell? ⟨bw, 1, none⟩ = some (.slice p s.nodes.length c) ∧ W.cell? ⟨bw, 2, none⟩ = some (.bool s.full) ∧ s.nodes.length ≤ 1048576 := by
  have hl := h.1.len
  obtain ⟨⟨v, c0, c1, c2, f, own, -⟩, -⟩ := h
  obtain ⟨p, c, rfl, -⟩ := own_shape own
  exact ⟨p, c, c1, c2, hl.1⟩

end Go.Proofs.Ytlnkflmnjkmhkaa

/-
  The law SymopPlays of layer 18: the walk.
-/
namespace Go.Proofs.Ytlnkflmnjkmhkaa
open Go.RowKit Go.Maps

theorem heldP {X W w1 : World} {gX : Nat} {a c : Value} (hb : Below W.heap.size W w1) (h : Below X.heap.size X W ∧ W.cell? ⟨gX, 1, none⟩ = some a ∧ W.cell? ⟨gX, 2, none⟩ = some c) :
    Below X.heap.size X w1 ∧ w1.cell? ⟨gX, 1, none⟩ = some a ∧ w1.cell? ⟨gX, 2, none⟩ = some c :=
  ⟨h.1.trans (hb.mono h.1.size), (hb.cell (p := ⟨gX, 1, none⟩) (cell_there h.2.1).1).trans h.2.1, (hb.cell (p := ⟨gX, 2, none⟩) (cell_there h.2.2).1).trans h.2.2⟩

set_option maxRecDepth 100000 in
set_option maxHeartbeats 4000000 in
theorem law18p_go (c : Nat) (pa : Option Addr) (n cp : Nat) (w : World) (h0 : 2 ≤ c) (h1 : c ≤ 400) (hn : n ≤ 8) (HL : Hid (OpsAt w (.slice pa n cp) n)) :
    Calls Try.prog 3 #[.int .i64 c, .slice pa n cp] w fun e w' => e = .returned (.bool true) ∧ Below w.heap.size w w' := by
  have HN := Lib.hid (new_ok c w h0 (by omega))
  have HK : Hid (∀ W, Calls Try.prog 9 #[] W fun e w' => e = .returned (.bool true) ∧ Below W.heap.size W w') := fun W => known18_true W
  have HP0 : Hid (PlaysAt w (w.heap.size + 2) (w.heap.size + 3) (w.heap.size + 3 + 1) 0 (((newWorld w c).alloc (refCells c)).alloc boxCells)) := PlaysAt.start w c h0 h1
  have hsz : (newWorld w c).heap.size = w.heap.size + 3 := by unfold newWorld; simp
  obtain ⟨i0, hi, hz0, hz1, hz2⟩ := info_parts Try.infoInt
  clear h0
  go_enter Try.func3, Try.ntmps3
  go_wp2_with fail
  refine HN.out.mono ?_
  rintro e w0 ⟨rfl, rfl⟩
  generalize newWorld w c = w0 at *
  go_wp2_with fail
  rw [show w0.alloc (.cells #[.int .i64 (c : Int), .slice none 0 0, .bool false] 31) = w0.alloc (refCells c) from rfl, show ∀ W : World, W.alloc (.cells #[.slice none 0 0] 32) = W.alloc boxCells from fun _ => rfl]
  generalize (w0.alloc (refCells c)).alloc boxCells = W1 at *
  generalize w.heap.size + 3 + 1 = g at *
  generalize w.heap.size + 3 = bw at *
  generalize w.heap.size + 2 = b at *
  clear HN hsz
  go_wp2_with fail
  go_loopw [43] (fun i wr => ∃ k : Nat, k ≤ 2 ∧ i = .int .i64 k ∧ Hid (PlaysAt w b bw g k wr)) (fun i _ => 2 - (intOf i).toNat)
  case atStart => exact ⟨0, Nat.zero_le _, rfl, HP0⟩
  case round =>
    obtain ⟨k, hk, rfl, HP⟩ := hrel
    by_cases hlt : k < 2
    · obtain ⟨O, s, Ow, v, vals, xs, hp⟩ := HP.out
      have HPI := Lib.hid hp
      clear hp HP
      generalize wr = wa at *
      clear wr
      go_wp2_with (first
        | (at_make; refine wpList_make_full _ rfl _ _ 34 rfl wa.heap.size 3 i0 (.int .i64 0) 1 Try.underlying34 hi hz0 hz1 .i64 .i64 _ _ 4 rfl rfl rfl rfl (by rw [hz2]; omega) (by unfold maxLen; omega) (Nat.le_refl _) ?_; intro w2 hown0 hgrow0))
      rw [toList_madeCells_zero] at hown0
      have H0 : Hid (VarsAt b O wa (varsS (4 * (k : Int)) 0 s) 4 w2) := ⟨O, HPI.out.sto.below ((Below.refl _ _).grown hgrow0 (Nat.le_refl _) (fun k h => by cases h)), Ext.of_below ((Below.refl _ _).grown hgrow0 (Nat.le_refl _) (fun k h => by cases h)), fun h => by have := HPI.out.sto.lt _ h; omega, by show w2.ownsRow _ _ _ _ _ (varTo [] _); rw [varTo_nil]; exact hown0⟩
      clear hown0 hgrow0
      go_wp2_with fail
      go_loopw [49] (fun i w3 => ∃ j : Nat, j ≤ 4 ∧ i = .int .i64 j ∧ Hid (VarsAt b O wa (varsS (4 * (k : Int)) j s) 4 w3)) (fun i _ => 4 - (intOf i).toNat)
      case atStart => exact ⟨0, Nat.zero_le _, rfl, H0⟩
      case round =>
        obtain ⟨j, hj, rfl, HZ⟩ := hrel
        by_cases hjt : j < 4
        · obtain ⟨O1, hs1, he1, hn1, hown1⟩ := HZ.out
          have HN : Hid (Calls Try.prog 10 #[.pointer (some ⟨b, 0, none⟩), .int .i64 (4 * (k : Int) + (j : Int))] wr (RetS b O1 wr (varF (varsS (4 * (k : Int)) j s).1 (wrap64 (4 * (k : Int) + j))))) := by rw [wrap64_in (by omega) (by omega)]; exact var_sto b O1 _ _ wr hs1
          have HE1 := Lib.hid he1
          have HN1 := Lib.hid hn1
          have HO1 := Lib.hid hown1
          clear hs1 he1 hn1 hown1
          go_wp2_with fail
          refine HN.out.mono ?_
          rintro e w1 ⟨rfl, O2, hs2, hx2⟩
          obtain ⟨he2, hn2, hown2⟩ := own_call HE1.out HN1.out HO1.out hs2 hx2
          have hml : (varsS (4 * (k : Int)) j s).2.length = j := varsS_len _ _ _
          obtain ⟨⟨x, z1⟩, z2, z3⟩ := VarsAt.push (z := (varF (varsS (4 * (k : Int)) j s).1 (wrap64 (4 * (k : Int) + j))).2) hml hjt hs2 he2 hn2 hown2
          have HK : Hid (VarsAt b O wa (varsS (4 * (k : Int)) (j + 1) s) 4 (w1.setCell ⟨wa.heap.size, 4 - 1 - j, none⟩ (.int .i64 (varF (varsS (4 * (k : Int)) j s).1 (wrap64 (4 * (k : Int) + j))).2))) := z3
          clear hs2 hx2 he2 hn2 hown2 z3 hml HN
          rw [show 4 - 1 - j = 3 - j from by omega] at z1 z2 HK
          go_wp2_with fail
          go_roundw
          case rel => exact ⟨j + 1, by omega, by go_num, HK⟩
          case measure => simp [intOf]; omega
        · obtain rfl : j = 4 := by omega
          obtain ⟨O1, hs1, he1, hn1, hown1⟩ := HZ.out
          have hlen : (varsS (4 * (k : Int)) 4 s).2.length = 4 := varsS_len _ _ _
          rw [varTo_full _ _ hlen] at hown1
          have hx1 : IVecX wr (Mut O1 Ow g v) (.slice (some ⟨wa.heap.size, 0, none⟩) 4 4) (varsS (4 * (k : Int)) 4 s).2.reverse := HPI.out.vecNew (IVec.of_owns (by rw [List.length_reverse]; exact hlen) hown1) he1 rfl (Nat.le_refl _) hn1
          have HX1 := Lib.hid hx1
          have HP1 : Hid (PlaysI w wr b O1 (varsS (4 * (k : Int)) 4 s).1 bw Ow s g k v vals xs) := HPI.out.stoCall hs1 he1
          have hvs : Calls Try.prog 12 #[.pointer (some ⟨bw, 0, none⟩), .int .i64 (4 * (k : Int)), .int .i64 4] wr (RetVR bw Ow wr ((varsS (4 * (k : Int)) 4 s).1, (varsS (4 * (k : Int)) 4 s).2.reverse)) := vars_rs bw Ow s (4 * (k : Int)) 4 wr HP1.out.rst (by omega) (by omega)
          have HVS := Lib.hid hvs
          clear hs1 he1 hn1 hown1 hx1 hvs HPI HZ H0
          generalize (varsS (4 * (k : Int)) 4 s).1 = s1 at *
          have HLN : Hid ((varsS (4 * (k : Int)) 4 s).2.reverse.length = 4) := by show _ = _; rw [List.length_reverse]; exact hlen
          clear hlen
          generalize (varsS (4 * (k : Int)) 4 s).2.reverse = ys at *
          go_wp2_with fail
          refine HVS.out.mono ?_
          rintro e w4 ⟨x4, O4, rfl, hx4, hs4, he4⟩
          have HX4 : Hid (IVecX w4 (Mut O1 O4 g v) (.slice (some ⟨wa.heap.size, 0, none⟩) 4 4) ys) := HX1.out.ext (mut_rst he4)
          have HP4 : Hid (PlaysI w w4 b O1 s1 bw O4 s1 g k v vals xs) := HP1.out.rstCall hs4 he4
          have HS4 : Hid (Calls Try.prog 11 #[.slice (some ⟨wa.heap.size, 0, none⟩) 4 4, x4] w4 fun e w' => e = .returned (.bool true) ∧ Below w4.heap.size w4 w') := same_any _ _ _ _ w4 HX4.out.1 hx4.1.1 rfl (by rw [HLN.out]; omega) rfl
          clear hx4 hs4 he4 HP1 HX1 HVS
          go_wp2_with fail
          refine HS4.out.mono ?_
          rintro e w5 ⟨rfl, hb5⟩
          have HP5 : Hid (PlaysI w w5 b O1 s1 bw O4 s1 g k v vals xs) := HP4.out.later hb5
          have HX5 : Hid (IVecX w5 (Mut O1 O4 g v) (.slice (some ⟨wa.heap.size, 0, none⟩) 4 4) ys) := HX4.out.below hb5
          clear hb5 HP4 HX4 HS4
          have hbox := HP5.out.box
          have hfro := HP5.out.fro
          obtain ⟨pv, cv, hv, hvl⟩ := own_shape HP5.out.row
          subst hv
          have hgl : g < w5.heap.size := (cell_there hbox).1
          have HRA : ∀ o, Hid ((w5.alloc o).ownsRow 0 34 1 (.slice pv k cv) k ((List.range k).map vals)) := fun o => (HP5.out.later ((Below.refl _ _).alloc (Nat.le_refl _) o)).row
          have HBA : ∀ o, Hid ((w5.alloc o).cell? ⟨g, 0, none⟩ = some (.slice pv k cv)) := fun o => (World.cell?_alloc_lt _ _ ⟨g, 0, none⟩ hgl).trans hbox
          go_wp2_with (first
            | (at_builtin; refine append_vec1 rfl (.tmp 70) (.tmp 72) rfl (.slice pv k cv) k _ rfl (HRA _).out w5.heap.size (.slice (some ⟨wa.heap.size, 0, none⟩) 4 4) ⟨_, _, _, rfl⟩ rfl (by simp [go_sem]) (by omega) ?_; intro v6 w6 hown6 hgrow6 hwh6; obtain ⟨pv6, cv6, hv6, hvl6⟩ := own_shape hown6; subst hv6; obtain ⟨hbx6, hfr6⟩ := HP5.out.boxAt hgrow6; have HK6 : Hid (PlaysAt w b bw g (k + 1) (w6.setCell ⟨g, 0, none⟩ (.slice pv6 (k + 1) cv6))) := ⟨_, _, _, _, _, _, HP5.out.push HX5.out (by rw [HLN.out]; exact Nat.le_refl _) hown6 hgrow6 hwh6⟩; clear hown6 hgrow6 hwh6))
          go_roundw
          case rel => exact ⟨k + 1, by omega, by go_num, HK6⟩
          case measure => simp [intOf]; omega
    · obtain rfl : k = 2 := by omega
      have hmf := run_makeFunc
      rw [show ((2 : Nat) : Int) = 2 from rfl]
      go_wp2_with fail
      go_loopw [78] (fun i wr => ∃ k : Nat, k ≤ n ∧ i = .int .i64 k ∧ Hid (PlaysAt w b bw g (k + 2) wr)) (fun i _ => n - (intOf i).toNat)
      case atStart => exact ⟨0, Nat.zero_le _, rfl, HP⟩
      case round =>
        obtain ⟨k, hk, rfl, HP⟩ := hrel
        by_cases hlt : k < n
        · obtain ⟨pa', cp', e, -, hops⟩ := HL.out
          obtain ⟨d, off, hpa, hd, hops⟩ := hops (by omega)
          obtain ⟨kind, oa, ob, v0, v1, m0, m1, b0, b1, b2, b3, q0, q1, q2, q3, q4, q5, q6⟩ := hops k hlt
          simp only [Value.slice.injEq] at e
          obtain ⟨e1, -, e2⟩ := e
          rw [hpa] at e1
          clear hops hpa e2
          subst e1
          have hbl := HP.out.below
          have r0 := (hbl.cell (p := ⟨d, off + k * 7, none⟩) hd).trans q0
          have r1 := (hbl.cell (p := ⟨d, off + k * 7 + 1, none⟩) hd).trans q1
          have r2 := (hbl.cell (p := ⟨d, off + k * 7 + 2, none⟩) hd).trans q2
          have r3 := (hbl.cell (p := ⟨d, off + k * 7 + 3, none⟩) hd).trans q3
          have r4 := (hbl.cell (p := ⟨d, off + k * 7 + 4, none⟩) hd).trans q4
          have r5 := (hbl.cell (p := ⟨d, off + k * 7 + 5, none⟩) hd).trans q5
          have r6 := (hbl.cell (p := ⟨d, off + k * 7 + 6, none⟩) hd).trans q6
          clear q0 q1 q2 q3 q4 q5 q6 hbl
          generalize wr = wa at *
          clear wr
          go_wp2_with fail
          obtain ⟨O, s, Ow, v, vals, xs, hp⟩ := HP.out
          generalize hX : wa.alloc (.cells #[.int .i64 kind, .int .i64 oa, .int .i64 ob, .int .u64 (v0 : Int), .int .u64 (v1 : Int), .int .u64 (m0 : Int), .int .u64 (m1 : Int)] 45) = X
          have hBX : Below wa.heap.size wa X := by rw [← hX]; exact (by repeat (first | exact Below.refl _ _ | assumption | refine Below.drew ?_ | refine Below.alloc ?_ (by first | omega | (simp <;> omega)) _ | refine Below.setCell ?_ (by first | omega | (simp <;> omega)) _ | refine Below.trans ?_ (Below.mono (by assumption) (by first | omega | (simp <;> omega)))))
          have hXs : wa.heap.size < X.heap.size := by rw [← hX]; simp
          have x0 : X.cell? ⟨wa.heap.size, 0, none⟩ = some (.int .i64 kind) := by rw [← hX]; simp [go_sem]
          have x1 : X.cell? ⟨wa.heap.size, 1, none⟩ = some (.int .i64 oa) := by rw [← hX]; simp [go_sem]
          have x2 : X.cell? ⟨wa.heap.size, 2, none⟩ = some (.int .i64 ob) := by rw [← hX]; simp [go_sem]
          have x3 : X.cell? ⟨wa.heap.size, 3, none⟩ = some (.int .u64 (v0 : Int)) := by rw [← hX]; simp [go_sem]
          have x4 : X.cell? ⟨wa.heap.size, 4, none⟩ = some (.int .u64 (v1 : Int)) := by rw [← hX]; simp [go_sem]
          have x5 : X.cell? ⟨wa.heap.size, 5, none⟩ = some (.int .u64 (m0 : Int)) := by rw [← hX]; simp [go_sem]
          have x6 : X.cell? ⟨wa.heap.size, 6, none⟩ = some (.int .u64 (m1 : Int)) := by rw [← hX]; simp [go_sem]
          have HPX : Hid (PlaysI w X b O s bw Ow s g (k + 2) v vals xs) := hp.later hBX
          have HAT : Hid (∀ i W', Below X.heap.size X W' → Calls Try.prog 13 #[.int .i64 i, .pointer (some ⟨g, 0, none⟩)] W' fun e w' => e = .returned (vals (atJ (k + 2) i)) ∧ Below W'.heap.size W' w') := fun i W' hb => HPX.out.at (by omega) (by omega) i hb
          have HNG : Hid (¬ Mut O Ow g v wa.heap.size) := fun q => Nat.lt_irrefl _ (hp.lt _ q)
          have hca := call_at
          clear hX hBX r0 r1 r2 r3 r4 r5 r6 HP hp
          generalize wa.heap.size = gX at *
          have hj1 : atJ (k + 2) oa < k + 2 := atJ_lt (by omega)
          have hj2 : atJ (k + 2) ob < k + 2 := atJ_lt (by omega)
          go_region_held3 (fun w' => Below X.heap.size X w' ∧ w'.cell? ⟨gX, 1, none⟩ = some (.int .i64 oa) ∧ w'.cell? ⟨gX, 2, none⟩ = some (.int .i64 ob))
            (first | exact ⟨below_drewN (Below.refl _ _) 1, x1, x2⟩ | exact heldP hb1 (by assumption) | go_keep)
            (first
              | (go_at_call 13; (with_reducible refine (HAT.out _ _ (And.left (by assumption))).mono ?_); rintro e w1 ⟨rfl, hb1⟩))
          rename_i hh
          have hbW := hh.1
          have HP1 : Hid (PlaysI w w1 b O s bw Ow s g (k + 2) v vals xs) := HPX.out.later hbW
          have HO1 : Hid (OpCells w1 gX kind oa ob v0 v1 m0 m1) := ((show OpCells X gX kind oa ob v0 v1 m0 m1 from ⟨x0, x1, x2, x3, x4, x5, x6⟩).ext (Ext.of_below hbW) HNG.out).1
          clear hh hbW HPX HAT x0 x1 x2 x3 x4 x5 x6 hca hXs
          obtain ⟨r, hr⟩ : ∃ r, r = callF kind (bitB (m0 * B + m1)) (bitB (v0 * B + v1)) (xs (atJ (k + 2) oa)) (xs (atJ (k + 2) ob)) s := ⟨_, rfl⟩
          have hrl : r.2.length ≤ 4 := by rw [hr]; exact callF_len (HP1.out.vec _ hj1).2 (HP1.out.vec _ hj2).2
          have HC0 : Hid (∀ x y W, phP w b bw g (k + 2) gX kind oa ob v0 v1 m0 m1 s r v vals xs 0 x y W → Calls Try.prog 14 #[.pointer (some ⟨b, 0, none⟩), vals (atJ (k + 2) oa), vals (atJ (k + 2) ob), .agg #[.int .i64 kind, .int .i64 oa, .int .i64 ob, .int .u64 v0, .int .u64 v1, .int .u64 m0, .int .u64 m1]] W fun e w' => ∃ x, e = .returned x ∧ phP w b bw g (k + 2) gX kind oa ob v0 v1 m0 m1 s r v vals xs 1 x y w') :=
            fun x y W h => phP_call0 _ _ hj1 hj2 _ _ (Lib.hid (bits_twoB _ _ b0 b1)) (Lib.hid (bits_twoB _ _ b2 b3)) hr x y W h
          have HC1 : Hid (∀ x y W, phP w b bw g (k + 2) gX kind oa ob v0 v1 m0 m1 s r v vals xs 1 x y W → Calls Try.prog 15 #[.pointer (some ⟨bw, 0, none⟩), vals (atJ (k + 2) oa), vals (atJ (k + 2) ob), .agg #[.int .i64 kind, .int .i64 oa, .int .i64 ob, .int .u64 v0, .int .u64 v1, .int .u64 m0, .int .u64 m1]] W fun e w' => ∃ y, e = .returned y ∧ phP w b bw g (k + 2) gX kind oa ob v0 v1 m0 m1 s r v vals xs 2 x y w') :=
            fun x y W h => phP_call1 _ _ hj1 hj2 _ _ (Lib.hid (bits_twoR _ _ b0 b1)) (Lib.hid (bits_twoR _ _ b2 b3)) hr x y W h
          have HH0 : Hid (∀ x y, phP w b bw g (k + 2) gX kind oa ob v0 v1 m0 m1 s r v vals xs 0 x y w1) := fun x y => ⟨O, Ow, HP1.out, HO1.out, HNG.out⟩
          have HRL := Lib.hid hrl
          clear hr hrl HP1 HO1 HNG hj1 hj2
          generalize vals (atJ (k + 2) oa) = va at *
          generalize vals (atJ (k + 2) ob) = vb at *
          go_wp2_with fail
          refine reg24 b bw gX kind oa ob v0 v1 m0 m1 va vb (phP w b bw g (k + 2) gX kind oa ob v0 v1 m0 m1 s r v vals xs) w1 HH0 ?kl ?kc HC0 HC1 _ _ _ _ _ _ _ _ _ _ _ _ _ _ _ _ _ _ _ _ _ _ _ _ _ _ _ _ _ _ _ _ _ _ _ _ _ _ _ _ _ _ _ _ _ _ _ _ _ _ _ _ _ _ _ _ _ _ _ _ _ _ _ _ _ _ _ _ _ _ _ _ _ _ _ _ _ _ _ _ _ _ _ _ _ _ _ _ _ _ _ _ _ _ _ _ _ _ _ _ _ _ _ _ _ _ _ _ _ _ _ _ _ _ _ _ _ _ _ _ _ _ _ _ _  ?_
          case kl => exact fun k x y W W' h hb => phP_later k x y W W' h hb
          case kc => exact fun k x y W h => phP_cells k x y W h
          intro y0 y1 y2 y3 y4 y5 y6 y7 y8 y9 w2 hR
          dsimp only
          clear HC0 HC1 HH0
          obtain ⟨kk, hkk, hph⟩ := hR
          obtain ⟨O2, Ow2, hp2, hx2, hy2⟩ := phP_end kk hkk _ _ _ hph
          have HP2 := Lib.hid hp2
          have HX2 := Lib.hid hx2
          have HY2 := Lib.hid hy2
          have HSM : Hid (∀ W', Below w2.heap.size w2 W' → Calls Try.prog 11 #[y4, y9] W' fun e w' => e = .returned (.bool true) ∧ Below W'.heap.size W' w') := fun W' hb => same_any _ _ _ _ W' (HX2.out.below hb).1 (HY2.out.below hb).1 rfl (by have := HRL.out; omega) rfl
          have HFL : Hid (∀ W', Below w2.heap.size w2 W' → Calls Try.prog 16 #[.pointer (some ⟨b, 0, none⟩)] W' fun e w' => e = .returned (.bool r.1.full) ∧ W' = w') := fun W' hb => full_sto b O2 r.1 W' (HP2.out.sto.below hb)
          have HLN : Hid (∀ W', Below w2.heap.size w2 W' → Calls Try.prog 17 #[.pointer (some ⟨b, 0, none⟩)] W' fun e w' => e = .returned (.int .i64 (r.1.nodes.length : Int)) ∧ W' = w') := fun W' hb => len_sto b O2 r.1 W' (HP2.out.sto.below hb)
          obtain ⟨pr, cr, z1, z2, z3⟩ := hp2.rst.shown
          obtain ⟨⟨pu, cu, hu, -⟩, -⟩ := hy2
          subst hu
          clear hkk hph hp2 hx2
          generalize r.1.full = fu at *
          generalize r.1.nodes.length = ln at *
          go_wp2_with fail
          go_region_held3 (fun w' => Below w2.heap.size w2 w' ∧ w'.cell? ⟨bw, 1, none⟩ = some (.slice pr ln cr) ∧ w'.cell? ⟨bw, 2, none⟩ = some (.bool fu))
            (first | exact ⟨below_drewN (Below.refl _ _) 1, z1, z2⟩ | exact heldP hb1 (by assumption) | go_keep)
            (first
              | (go_at_call 11; (with_reducible refine (HSM.out _ (And.left (by assumption))).mono ?_); rintro e w1 ⟨rfl, hb1⟩)
              | (go_at_call 16; (with_reducible refine (HFL.out _ (And.left (by assumption))).mono ?_); rintro e w1 ⟨rfl, rfl⟩)
              | (go_at_call 17; (with_reducible refine (HLN.out _ (And.left (by assumption))).mono ?_); rintro e w1 ⟨rfl, rfl⟩))
          rename_i hh
          have HP5 : Hid (PlaysI w w1 b O2 r.1 bw Ow2 r.1 g (k + 2) v vals xs) := HP2.out.later hh.1
          have HX5 : Hid (IVecX w1 (Mut O2 Ow2 g v) (.slice pu r.2.length cu) r.2) := HY2.out.below hh.1
          clear hh HP2 HX2 HY2 HSM HFL HLN z1 z2
          have hbox := HP5.out.box
          have hfro := HP5.out.fro
          obtain ⟨pv, cv, hv, hvl⟩ := own_shape HP5.out.row
          subst hv
          have hgl : g < w1.heap.size := (cell_there hbox).1
          have HRA : ∀ o, Hid ((w1.alloc o).ownsRow 0 34 1 (.slice pv (k + 2) cv) (k + 2) ((List.range (k + 2)).map vals)) := fun o => (HP5.out.later ((Below.refl _ _).alloc (Nat.le_refl _) o)).row
          have HBA : ∀ o, Hid ((w1.alloc o).cell? ⟨g, 0, none⟩ = some (.slice pv (k + 2) cv)) := fun o => (World.cell?_alloc_lt _ _ ⟨g, 0, none⟩ hgl).trans hbox
          go_wp2_with (first
            | (at_builtin; refine append_vec1 rfl (.tmp 123) (.tmp 125) rfl (.slice pv (k + 2) cv) (k + 2) _ rfl (HRA _).out w1.heap.size (.slice pu r.2.length cu) ⟨_, _, _, rfl⟩ rfl (by simp [go_sem]) (by omega) ?_; intro v6 w6 hown6 hgrow6 hwh6; obtain ⟨pv6, cv6, hv6, hvl6⟩ := own_shape hown6; subst hv6; obtain ⟨hbx6, hfr6⟩ := HP5.out.boxAt hgrow6; have HK6 : Hid (PlaysAt w b bw g (k + 1 + 2) (w6.setCell ⟨g, 0, none⟩ (.slice pv6 (k + 2 + 1) cv6))) := ⟨_, _, _, _, _, _, HP5.out.push HX5.out HRL.out hown6 hgrow6 hwh6⟩; clear hown6 hgrow6 hwh6))
          go_roundw
          case rel => exact ⟨k + 1, by omega, by go_num, HK6⟩
          case measure => simp [intOf]; omega
        · obtain rfl : k = n := by omega
          go_wp2_with fail
          refine (HK.out _).mono ?_
          rintro e w9 ⟨rfl, hb9⟩
          have hbl := HP.out.below
          go_wp2_with fail
          go_ret
          exact ⟨rfl, hbl.trans (hb9.mono hbl.size)⟩

theorem law18p (c : Int) (va : Value) (n : Nat) (w : World) (HL : OpsAt w va n) :
    Calls Try.prog 3 #[.int .i64 c, va] w fun e w' => e = .returned (.bool true) ∧ Below w.heap.size w w' := by
  obtain ⟨pa, cp, rfl, hm, hops⟩ := HL
  by_cases hb : c < 2 ∨ 1048576 < c
  · exact law18p_bad c pa n cp w hb
  · obtain ⟨c, rfl⟩ : ∃ m : Nat, c = (m : Int) := ⟨c.toNat, by omega⟩
    by_cases h8 : 400 < c ∨ 8 < n
    · exact law18p_big c pa n cp w (by omega) (by omega) hm h8
    · exact law18p_go c pa n cp w (by omega) (by omega) (by omega) ⟨pa, cp, rfl, hm, hops⟩

end Go.Proofs.Ytlnkflmnjkmhkaa
