/-
  Lemmas, joined: HeadN, Head11.
-/
import Derived.Test.YtlnkflmnjkmhkaaJS14
import Derived.Test.YtlnkflmnjkmhkaaJS06
/-
  The regions of symhead.New that draw their order.
-/
namespace Go.Proofs.Ytlnkflmnjkmhkaa
open Go.RowKit Go.Maps

theorem RWg.boxB {S : Rw} {L : Array Bool} {l : List Value} {w : World} {B : Nat → Nat → Prop} {t g n : Nat} {js : List Nat} (h : RWg S L l w B) (hd : did L t = true) (hk : S.kd[t]? = some (js, TBox n)) (e : nth l t = .pointer (some ⟨g, 0, none⟩)) : ∀ j, did L j = true → j ≠ t → ¬ B j g := fun j hj hne hb => by
  obtain ⟨-, g', e', h1, -⟩ := h.ok t _ _ hd hk
  rw [e] at e'
  have eg : g = g' := by simpa using e'
  subst eg
  exact hne (h.apart j t g hj hd hb h1)
theorem TBox.new {n : Nat} {w : World} {cs : Array Value} {t : TypeId} {ls : List Value} (hn : cs.size = n) : TBox n (NewB w (w.alloc (.cells cs t))) (w.alloc (.cells cs t)) ls (.pointer (some ⟨w.heap.size, 0, none⟩)) := by
  have hw := heap_new w (.cells cs t)
  exact ⟨w.heap.size, rfl, ⟨Nat.le_refl _, by simp⟩, fun j hj => ⟨cs[j]'(by omega), by unfold World.cell?; dsimp only; rw [hw]; simp [hn, hj]⟩, fun j => by unfold World.frozen?; dsimp only; rw [hw]; simp⟩
theorem TVec.made {n : Nat} {xs : List Int} {w w' : World} {ls : List Value} (hn : xs.length = n) (h : w'.ownsRow w.heap.size 3 1 (.slice (some ⟨w.heap.size, 0, none⟩) n n) n (xs.map (Value.int .i64))) : TVec n xs (NewB w w') w' ls (.slice (some ⟨w.heap.size, 0, none⟩) n n) :=
  ⟨w.heap.size, rfl, ⟨Nat.le_refl _, (h.lt _ rfl).2⟩, IVec.of_owns hn h⟩

set_option maxRecDepth 100000 in
set_option maxHeartbeats 6000000 in
theorem new1R (gp gh r0 : Nat) (bs : List Int) (WB : World)
    (HF : Hid (Rw.Fine (new1 gp gh r0 bs WB))) (HG0 : Hid (∀ l : List Value, (new1 gp gh r0 bs WB).G (Array.replicate 15 false) l WB.drew)) (Hn0 : (new1 gp gh r0 bs WB).n0 ≤ WB.heap.size)
    (HC : Hid (∀ W, Below WB.heap.size WB W → W.cell? ⟨gp, 0, none⟩ = some (.slice (some ⟨gh, 0, none⟩) 1 1) ∧ W.cell? ⟨gp, 1, none⟩ = some (.slice none 0 0)))
    (HV : Hid (∀ W, Below WB.heap.size WB W → Calls Try.prog 146 #[.slice (some ⟨r0, 0, none⟩) 1 1] W fun e w' => ∃ v, e = .returned v ∧ TRow bs (NewB W w') w' [] v ∧ Below W.heap.size W w'))
    (HGQ : Hid (∀ (i : Nat) (v : Value) (L : Array Bool) (l : List Value) (w w' : World), did L i = false → i < L.size → i < l.length → Below w.heap.size w w' → (new1 gp gh r0 bs WB).G L l w → i ≠ 14 → (new1 gp gh r0 bs WB).G (L.setIfInBounds i true) (l.set i v) w'))
    (c0 c5 c6 c7 c8 c9 c10 c11 c12 c13 c14 c15 c16 c17 c18 c19 c20 c21 c22 c23 c24 c25 c26 c27 c28 c29 c30 c31 c32 c33 c34 c35 c36 c37 c38 c39 c40 : Value) (Q : Exit → Act → World → Prop)
    (hexit : ∀ (u0 u1 u2 u3 u4 u5 u6 u7 u8 u9 u10 u11 u12 u13 : Value) (L : Array Bool) (w' : World), (∀ i, i < 15 → did L i = true) → RW (new1 gp gh r0 bs WB) L [u0, u1, u2, u3, u4, u5, u6, u7, u8, u9, u10, u11, u12, u13, undef] w' → Q .normal ⟨#[c0, .int .i64 1, .int .i64 3, .slice (some ⟨r0, 0, none⟩) 1 1, .pointer (some ⟨gp, 0, none⟩), c5, c6, c7, c8, u13, c10, c11, u0, u1, u2, u3, u4, u5, u6, u7, u8, u9, u10, u11, u12, c25, c26, c27, c28, c29, c30, c31, c32, c33, c34, c35, c36, c37, c38, c39, c40], []⟩ w') :
    Code.wp Try.prog ((Try.f116.body.bind (findRegion 1)).getD .skip) Q ⟨#[c0, .int .i64 1, .int .i64 3, .slice (some ⟨r0, 0, none⟩) 1 1, .pointer (some ⟨gp, 0, none⟩), c5, c6, c7, c8, c9, c10, c11, c12, c13, c14, c15, c16, c17, c18, c19, c20, c21, c22, c23, c24, c25, c26, c27, c28, c29, c30, c31, c32, c33, c34, c35, c36, c37, c38, c39, c40], []⟩ WB := by
  obtain ⟨i0, hi0, hz0, hz1, hz2⟩ := info_parts Try.infoInt
  dsimp only at hexit ⊢
  conv => arg 2; whnf
  have HEX := Lib.hid hexit
  clear hexit
  have hF := HF.out
  refine wp_region_inv2 (by kernel_rfl) (fun L a' w' => ∃ u0 u1 u2 u3 u4 u5 u6 u7 u8 u9 u10 u11 u12 u13 : Value, a' = ⟨#[c0, .int .i64 1, .int .i64 3, .slice (some ⟨r0, 0, none⟩) 1 1, .pointer (some ⟨gp, 0, none⟩), c5, c6, c7, c8, u13, c10, c11, u0, u1, u2, u3, u4, u5, u6, u7, u8, u9, u10, u11, u12, c25, c26, c27, c28, c29, c30, c31, c32, c33, c34, c35, c36, c37, c38, c39, c40], []⟩ ∧ L.size = 15 ∧ RW (new1 gp gh r0 bs WB) L [u0, u1, u2, u3, u4, u5, u6, u7, u8, u9, u10, u11, u12, u13, undef] w') ?_ ?_ ?_ ?_
  · exact ⟨_, _, _, _, _, _, _, _, _, _, _, _, _, _, rfl, by simp, RW.init (fun i => did_none _ _) Hn0 (HG0.out _)⟩
  · rintro L a' w' i hL hi hnd hdep ⟨u0, u1, u2, u3, u4, u5, u6, u7, u8, u9, u10, u11, u12, u13, rfl, hLn, hI⟩
    dsimp only
    have hsz : ∀ i, (L.setIfInBounds i true).size = 15 := fun i => by simpa using hLn
    have hL15 : L.size = 15 := hL
    have HI := Lib.hid hI
    clear hI
    match i, hi with
    | 0, _ =>
      have HN := Lib.hid hnd
      have HJ : Hid (∀ j ∈ ([] : List Nat), did L j = true) := fun j hj => by cases hj
      clear hdep hnd
      refine wpOp_step rfl (fun K' hK => ?_)
      go_simp
      exact hK _ _ ⟨_, _, _, _, _, _, _, _, _, _, _, _, _, _, rfl, hsz _, HI.out.val 0 _ hF HN.out (by omega) (by show 0 < 15; omega) rfl (Below.refl _ _) (fun hg => HGQ.out 0 _ _ _ _ _ HN.out (by omega) (by show 0 < 15; omega) (Below.refl _ _) hg (by decide))⟩
    | 1, _ =>
      have HN := Lib.hid hnd
      have HJ : Hid (∀ j ∈ ([] : List Nat), did L j = true) := fun j hj => by cases hj
      clear hdep hnd
      refine wpOp_step rfl (fun K' hK => ?_)
      go_simp
      exact hK _ _ ⟨_, _, _, _, _, _, _, _, _, _, _, _, _, _, rfl, hsz _, HI.out.val 1 _ hF HN.out (by omega) (by show 1 < 15; omega) rfl (Below.refl _ _) (fun hg => HGQ.out 1 _ _ _ _ _ HN.out (by omega) (by show 1 < 15; omega) (Below.refl _ _) hg (by decide))⟩
    | 2, _ =>
      have HN := Lib.hid hnd
      have HJ : Hid (∀ j ∈ ([] : List Nat), did L j = true) := fun j hj => by cases hj
      clear hdep hnd
      refine wpOp_step rfl (fun K' hK => ?_)
      go_simp
      exact hK _ _ ⟨_, _, _, _, _, _, _, _, _, _, _, _, _, _, rfl, hsz _, HI.out.val 2 _ hF HN.out (by omega) (by show 2 < 15; omega) rfl (Below.refl _ _) (fun hg => HGQ.out 2 _ _ _ _ _ HN.out (by omega) (by show 2 < 15; omega) (Below.refl _ _) hg (by decide))⟩
    | 3, _ =>
      have HN := Lib.hid hnd
      have q2 := (HI.out.got 2 (hdep _ rfl ⟨2, .data⟩ (by simp) (by kernel_rfl)) rfl).symm
      subst q2
      have HJ : Hid (∀ j ∈ ([] : List Nat), did L j = true) := fun j hj => by cases hj
      clear hdep hnd
      refine wpOp_step rfl (fun K' hK => ?_)
      go_simp
      refine (HV.out _ HI.out.glob.1).mono ?_
      rintro e w1 ⟨v, rfl, hnK, hbK⟩
      exact hK _ _ ⟨_, _, _, _, _, _, _, _, _, _, _, _, _, _, rfl, hsz _, HI.out.quiet 3 _ hF HN.out (by omega) (by show 3 < 15; omega) rfl HJ.out hbK (fun hg => HGQ.out 3 _ _ _ _ _ HN.out (by omega) (by show 3 < 15; omega) hbK hg (by decide)) hnK⟩
    | 4, _ =>
      have HN := Lib.hid hnd
      have HJ : Hid (∀ j ∈ ([] : List Nat), did L j = true) := fun j hj => by cases hj
      clear hdep hnd
      refine wpOp_step rfl (fun K' hK => ?_)
      go_simp
      exact hK _ _ ⟨_, _, _, _, _, _, _, _, _, _, _, _, _, _, rfl, hsz _, HI.out.val 4 _ hF HN.out (by omega) (by show 4 < 15; omega) rfl (Below.refl _ _) (fun hg => HGQ.out 4 _ _ _ _ _ HN.out (by omega) (by show 4 < 15; omega) (Below.refl _ _) hg (by decide))⟩
    | 5, _ =>
      have HN := Lib.hid hnd
      have q4 := (HI.out.got 4 (hdep _ rfl ⟨4, .data⟩ (by simp) (by kernel_rfl)) rfl).symm
      subst q4
      have HJ : Hid (∀ j ∈ ([] : List Nat), did L j = true) := fun j hj => by cases hj
      have HGC := HC.out _ HI.out.glob.1
      have g0 := HGC.1
      have g1 := HGC.2
      clear hdep hnd
      refine wpOp_step rfl (fun K' hK => ?_)
      go_simp
      exact hK _ _ ⟨_, _, _, _, _, _, _, _, _, _, _, _, _, _, rfl, hsz _, HI.out.val 5 _ hF HN.out (by omega) (by show 5 < 15; omega) rfl (Below.refl _ _) (fun hg => HGQ.out 5 _ _ _ _ _ HN.out (by omega) (by show 5 < 15; omega) (Below.refl _ _) hg (by decide))⟩
    | 6, _ =>
      have HN := Lib.hid hnd
      have q5 := (HI.out.got 5 (hdep _ rfl ⟨5, .data⟩ (by simp) (by kernel_rfl)) rfl).symm
      subst q5
      have HJ : Hid (∀ j ∈ ([] : List Nat), did L j = true) := fun j hj => by cases hj
      clear hdep hnd
      refine wpOp_step rfl (fun K' hK => ?_)
      go_simp
      exact hK _ _ ⟨_, _, _, _, _, _, _, _, _, _, _, _, _, _, rfl, hsz _, HI.out.val 6 _ hF HN.out (by omega) (by show 6 < 15; omega) rfl (Below.refl _ _) (fun hg => HGQ.out 6 _ _ _ _ _ HN.out (by omega) (by show 6 < 15; omega) (Below.refl _ _) hg (by decide))⟩
    | 7, _ =>
      have HN := Lib.hid hnd
      have q6 := (HI.out.got 6 (hdep _ rfl ⟨6, .data⟩ (by simp) (by kernel_rfl)) rfl).symm
      subst q6
      have HJ : Hid (∀ j ∈ ([] : List Nat), did L j = true) := fun j hj => by cases hj
      clear hdep hnd
      refine wpOp_step rfl (fun K' hK => ?_)
      refine step_make rfl _ _ _ rfl 3 i0 (.int .i64 0) 1 Try.underlying33 hi0 hz0 hz1 .i64 .i64 _ _ 1 rfl rfl rfl rfl (by rw [hz2]; omega) (by unfold maxLen; omega) ?_
      intro w1 hown hgrow
      rw [toList_madeCells_zero] at hown
      have hbK : Below w'.heap.size w' w1 := (Below.refl _ _).grown hgrow (Nat.le_refl _) (fun k h => by cases h)
      exact hK _ _ ⟨_, _, _, _, _, _, _, _, _, _, _, _, _, _, rfl, hsz _, HI.out.quiet 7 _ hF HN.out (by omega) (by show 7 < 15; omega) rfl HJ.out hbK (fun hg => HGQ.out 7 _ _ _ _ _ HN.out (by omega) (by show 7 < 15; omega) hbK hg (by decide)) (TVec.made (xs := [0]) rfl hown)⟩
    | 8, _ =>
      have HN := Lib.hid hnd
      have HJ : Hid (∀ j ∈ ([] : List Nat), did L j = true) := fun j hj => by cases hj
      clear hdep hnd
      refine wpOp_step rfl (fun K' hK => ?_)
      go_simp
      exact hK _ _ ⟨_, _, _, _, _, _, _, _, _, _, _, _, _, _, rfl, hsz _, HI.out.val 8 _ hF HN.out (by omega) (by show 8 < 15; omega) rfl (Below.refl _ _) (fun hg => HGQ.out 8 _ _ _ _ _ HN.out (by omega) (by show 8 < 15; omega) (Below.refl _ _) hg (by decide))⟩
    | 9, _ =>
      have HN := Lib.hid hnd
      have q8 := (HI.out.got 8 (hdep _ rfl ⟨8, .data⟩ (by simp) (by kernel_rfl)) rfl).symm
      subst q8
      have HJ : Hid (∀ j ∈ ([] : List Nat), did L j = true) := fun j hj => by cases hj
      have HGC := HC.out _ HI.out.glob.1
      have g0 := HGC.1
      have g1 := HGC.2
      clear hdep hnd
      refine wpOp_step rfl (fun K' hK => ?_)
      go_simp
      exact hK _ _ ⟨_, _, _, _, _, _, _, _, _, _, _, _, _, _, rfl, hsz _, HI.out.val 9 _ hF HN.out (by omega) (by show 9 < 15; omega) rfl (Below.refl _ _) (fun hg => HGQ.out 9 _ _ _ _ _ HN.out (by omega) (by show 9 < 15; omega) (Below.refl _ _) hg (by decide))⟩
    | 10, _ =>
      have HN := Lib.hid hnd
      have q9 := (HI.out.got 9 (hdep _ rfl ⟨9, .data⟩ (by simp) (by kernel_rfl)) rfl).symm
      subst q9
      have HJ : Hid (∀ j ∈ ([] : List Nat), did L j = true) := fun j hj => by cases hj
      clear hdep hnd
      refine wpOp_step rfl (fun K' hK => ?_)
      go_simp
      refine (zeros_nil _).mono ?_
      rintro e w1 ⟨rfl, rfl⟩
      exact hK _ _ ⟨_, _, _, _, _, _, _, _, _, _, _, _, _, _, rfl, hsz _, HI.out.val 10 _ hF HN.out (by omega) (by show 10 < 15; omega) rfl (Below.refl _ _) (fun hg => HGQ.out 10 _ _ _ _ _ HN.out (by omega) (by show 10 < 15; omega) (Below.refl _ _) hg (by decide))⟩
    | 11, _ =>
      have HN := Lib.hid hnd
      have HJ : Hid (∀ j ∈ ([] : List Nat), did L j = true) := fun j hj => by cases hj
      clear hdep hnd
      refine wpOp_step rfl (fun K' hK => ?_)
      refine step_make rfl _ _ _ rfl 3 i0 (.int .i64 0) 1 Try.underlying34 hi0 hz0 hz1 .i64 .i64 _ _ 9 rfl rfl rfl rfl (by rw [hz2]; omega) (by unfold maxLen; omega) ?_
      intro w1 hown hgrow
      rw [toList_madeCells_zero] at hown
      have hbK : Below w'.heap.size w' w1 := (Below.refl _ _).grown hgrow (Nat.le_refl _) (fun k h => by cases h)
      exact hK _ _ ⟨_, _, _, _, _, _, _, _, _, _, _, _, _, _, rfl, hsz _, HI.out.quiet 11 _ hF HN.out (by omega) (by show 11 < 15; omega) rfl HJ.out hbK (fun hg => HGQ.out 11 _ _ _ _ _ HN.out (by omega) (by show 11 < 15; omega) hbK hg (by decide)) (TVec.made (xs := zero9) rfl hown)⟩
    | 12, _ =>
      have HN := Lib.hid hnd
      have d3 := hdep _ rfl ⟨3, .data⟩ (by simp) (by kernel_rfl)
      have d7 := hdep _ rfl ⟨7, .data⟩ (by simp) (by kernel_rfl)
      have d11 := hdep _ rfl ⟨11, .data⟩ (by simp) (by kernel_rfl)
      have q0 := (HI.out.got 0 (hdep _ rfl ⟨0, .data⟩ (by simp) (by kernel_rfl)) rfl).symm
      subst q0
      have q1 := (HI.out.got 1 (hdep _ rfl ⟨1, .data⟩ (by simp) (by kernel_rfl)) rfl).symm
      subst q1
      have q10 := (HI.out.got 10 (hdep _ rfl ⟨10, .data⟩ (by simp) (by kernel_rfl)) rfl).symm
      subst q10
      have HJ : Hid (∀ j ∈ ([3, 7, 11] : List Nat), did L j = true) := by
        intro j hj
        simp only [List.mem_cons, List.not_mem_nil, or_false] at hj
        rcases hj with rfl | rfl | rfl <;> assumption
      obtain ⟨B3, -, r3, a3, ca3, e3, -⟩ := HI.out.made 3 d3 rfl
      have e3 : u3 = .slice (some ⟨r3, 0, none⟩) 1 1 := e3
      subst e3
      obtain ⟨B7, -, g7, e7, -⟩ := HI.out.made 7 d7 rfl
      have e7 : u7 = .slice (some ⟨g7, 0, none⟩) 1 1 := e7
      subst e7
      obtain ⟨B11, -, g11, e11, -⟩ := HI.out.made 11 d11 rfl
      have e11 : u11 = .slice (some ⟨g11, 0, none⟩) 9 9 := e11
      subst e11
      clear hdep hnd d3 d7 d11
      refine wpOp_step rfl (fun K' hK => ?_)
      go_simp
      have hbK := Below.refl w'.heap.size w'
      exact hK _ _ ⟨_, _, _, _, _, _, _, _, _, _, _, _, _, _, rfl, hsz _, HI.out.quiet 12 _ hF HN.out (by omega) (by show 12 < 15; omega) rfl HJ.out hbK (fun hg => HGQ.out 12 _ _ _ _ _ HN.out (by omega) (by show 12 < 15; omega) hbK hg (by decide)) ⟨_, _, _, rfl, rfl⟩⟩
    | 13, _ =>
      have HN := Lib.hid hnd
      have HJ : Hid (∀ j ∈ ([] : List Nat), did L j = true) := fun j hj => by cases hj
      clear hdep hnd
      refine wpOp_step rfl (fun K' hK => ?_)
      go_simp
      have hbK : Below w'.heap.size w' (w'.alloc (.cells #[.int .i64 0, .int .i64 0, .slice none 0 0, .slice none 0 0, .slice none 0 0, .slice none 0 0, .int .i64 0, .int .i64 0, .slice none 0 0, .int .i64 0] 97)) := (Below.refl _ _).alloc (Nat.le_refl _) _
      exact hK _ _ ⟨_, _, _, _, _, _, _, _, _, _, _, _, _, _, rfl, hsz _, HI.out.quiet 13 _ hF HN.out (by omega) (by show 13 < 15; omega) rfl HJ.out hbK (fun hg => HGQ.out 13 _ _ _ _ _ HN.out (by omega) (by show 13 < 15; omega) hbK hg (by decide)) (TBox.new rfl)⟩
    | 14, _ =>
      have HN := Lib.hid hnd
      have d12 := hdep _ rfl ⟨12, .data⟩ (by simp) (by kernel_rfl)
      have d13 := hdep _ rfl ⟨13, .data⟩ (by simp) (by kernel_rfl)
      have HJ : Hid (∀ j ∈ ([12, 13] : List Nat), did L j = true) := by
        intro j hj
        simp only [List.mem_cons, List.not_mem_nil, or_false] at hj
        rcases hj with rfl | rfl <;> assumption
      have d3 := hdep _ rfl ⟨3, .phase⟩ (by simp) (by kernel_rfl)
      have d7 := hdep _ rfl ⟨7, .phase⟩ (by simp) (by kernel_rfl)
      have d11 := hdep _ rfl ⟨11, .phase⟩ (by simp) (by kernel_rfl)
      obtain ⟨B12, -, x, y, z, hl, e12⟩ := HI.out.made 12 d12 rfl
      have hl : [u3, u7, u11] = [x, y, z] := hl
      simp only [List.cons.injEq, and_true] at hl
      obtain ⟨rfl, rfl, rfl⟩ := hl
      have e12 : u12 = .agg #[.int .i64 1, .int .i64 3, u3, u7, .slice none 0 0, .slice none 0 0, .int .i64 0, .int .i64 0, u11, .int .i64 0] := e12
      subst e12
      obtain ⟨B3, -, r3, a3, ca3, e3, -⟩ := HI.out.made 3 d3 rfl
      have e3 : u3 = .slice (some ⟨r3, 0, none⟩) 1 1 := e3
      subst e3
      obtain ⟨B7, -, g7, e7, -⟩ := HI.out.made 7 d7 rfl
      have e7 : u7 = .slice (some ⟨g7, 0, none⟩) 1 1 := e7
      subst e7
      obtain ⟨B11, -, g11, e11, -⟩ := HI.out.made 11 d11 rfl
      have e11 : u11 = .slice (some ⟨g11, 0, none⟩) 9 9 := e11
      subst e11
      obtain ⟨B13, hb13, g, e13, hg13, hcells, hfz⟩ := HI.out.made 13 d13 rfl
      have e13 : u13 = .pointer (some ⟨g, 0, none⟩) := e13
      subst e13
      have HGE : Hid (WB.heap.size ≤ g) := (hb13 g hg13).1
      have HD12 := Lib.hid d12
      have HD13 := Lib.hid d13
      have HCE := Lib.hid hcells
      obtain ⟨y0, z0⟩ := hcells 0 (by omega)
      obtain ⟨y1, z1⟩ := hcells 1 (by omega)
      obtain ⟨y2, z2⟩ := hcells 2 (by omega)
      obtain ⟨y3, z3⟩ := hcells 3 (by omega)
      obtain ⟨y4, z4⟩ := hcells 4 (by omega)
      obtain ⟨y5, z5⟩ := hcells 5 (by omega)
      obtain ⟨y6, z6⟩ := hcells 6 (by omega)
      obtain ⟨y7, z7⟩ := hcells 7 (by omega)
      obtain ⟨y8, z8⟩ := hcells 8 (by omega)
      obtain ⟨y9, z9⟩ := hcells 9 (by omega)
      clear hcells hb13 hg13 d3 d7 d11
      clear hdep hnd d12 d13
      refine wpOp_step rfl (fun K' hK => ?_)
      go_simp
      exact hK _ _ ⟨_, _, _, _, _, _, _, _, _, _, _, _, _, _, rfl, hsz _, (HI.out.put 14 13 g undef (js := [12, 13]) (P := TAny) (w' := setsL w' g 0 [.int .i64 1, .int .i64 3, .slice (some ⟨r3, 0, none⟩) 1 1, .slice (some ⟨g7, 0, none⟩) 1 1, .slice none 0 0, .slice none 0 0, .int .i64 0, .int .i64 0, .slice (some ⟨g11, 0, none⟩) 9 9, .int .i64 0]) hF HN.out (by omega) (by show 14 < 15; omega) rfl HJ.out (fun k hk => setsL_heap hk [.int .i64 1, .int .i64 3, .slice (some ⟨r3, 0, none⟩) 1 1, .slice (some ⟨g7, 0, none⟩) 1 1, .slice none 0 0, .slice none 0 0, .int .i64 0, .int .i64 0, .slice (some ⟨g11, 0, none⟩) 9 9, .int .i64 0] w' 0) (setsL_size [.int .i64 1, .int .i64 3, .slice (some ⟨r3, 0, none⟩) 1 1, .slice (some ⟨g7, 0, none⟩) 1 1, .slice none 0 0, .slice none 0 0, .int .i64 0, .int .i64 0, .slice (some ⟨g11, 0, none⟩) 9 9, .int .i64 0] w' 0) (fun B hB => ⟨hB.boxB HD13.out rfl rfl, fun h => h⟩) (fun js' P' hk B ls x hp => by cases hk; exact TBox.sets rfl hp) (fun hg => ⟨setsL_below HGE.out _ _ _ hg.1, Laid.put HD13.out HD12.out HN.out rfl rfl (fun j hj => HCE.out j hj)⟩) trivial)⟩
    | i + 15, hi => exact absurd hi (by show ¬ (i + 15 < 15); omega)
  · intro i o ho e he hb
    match i, ho with
    | 0, ho => cases ho; simp at he
    | 1, ho => cases ho; simp at he
    | 2, ho => cases ho; simp at he
    | 3, ho => cases ho; simp at he; subst he; first | (simp; done) | (exact absurd hb (by decide))
    | 4, ho => cases ho; simp at he
    | 5, ho => cases ho; simp at he; subst he; first | (simp; done) | (exact absurd hb (by decide))
    | 6, ho => cases ho; simp at he; subst he; first | (simp; done) | (exact absurd hb (by decide))
    | 7, ho => cases ho; simp at he; rcases he with rfl | rfl <;> first | (simp; done) | (exact absurd hb (by decide))
    | 8, ho => cases ho; simp at he
    | 9, ho => cases ho; simp at he; subst he; first | (simp; done) | (exact absurd hb (by decide))
    | 10, ho => cases ho; simp at he; rcases he with rfl | rfl <;> first | (simp; done) | (exact absurd hb (by decide))
    | 11, ho => cases ho; simp at he
    | 12, ho => cases ho; simp at he; rcases he with rfl | rfl | rfl | rfl | rfl | rfl <;> first | (simp; done) | (exact absurd hb (by decide))
    | 13, ho => cases ho; simp at he
    | 14, ho => cases ho; simp at he; rcases he with rfl | rfl | rfl | rfl | rfl | rfl | rfl | rfl | rfl | rfl | rfl | rfl | rfl | rfl | rfl | rfl | rfl <;> first | (simp; done) | (exact absurd hb (by decide))
    | i + 15, ho => simp at ho
  · rintro L a' w' hall ⟨u0, u1, u2, u3, u4, u5, u6, u7, u8, u9, u10, u11, u12, u13, rfl, hLn, hI⟩
    exact HEX.out u0 u1 u2 u3 u4 u5 u6 u7 u8 u9 u10 u11 u12 u13 L w' (fun i hi => hall i hi) hI

theorem cell_three0 (w : World) (x : Value) (t : TypeId) : (w.alloc (.cells #[x] t)).cell? ⟨w.heap.size, 0, none⟩ = some x := by simp [go_sem]
theorem cell_one {w : World} {g : Nat} {z : Value} (hc : w.cell? ⟨g, 0, none⟩ = some z) : ∀ j u, [z][j]? = some u → w.cell? ((⟨g, 0, none⟩ : Addr).add j) = some u := by
  intro j u hu
  match j, hu with
  | 0, hu => simp at hu; subst hu; simpa [Addr.add] using hc
theorem app_new {w w' : World} {t : TypeId} {v z : Value} (h : w'.ownsRow 0 t 1 v (0 + 1) ([] ++ [z])) (hw : v.ownBlock = (Value.slice none 0 0).ownBlock ∨ ∀ k, v.ownBlock = some k → w.heap.size ≤ k) : ∃ g c, v = .slice (some ⟨g, 0, none⟩) 1 c ∧ 1 ≤ c ∧ w.heap.size ≤ g ∧ w'.cell? ⟨g, 0, none⟩ = some z := by
  have h' := h
  obtain ⟨-, ⟨-, e⟩ | ⟨g, cap, cur, e, -, -, hle, -⟩⟩ := h'
  · omega
  · subst e
    refine ⟨g, cap, rfl, by omega, ?_, by rw [h.cellAt 0 (by omega)]; rfl⟩
    rcases hw with q | q
    · cases q
    · exact q g rfl

set_option maxRecDepth 100000 in
set_option maxHeartbeats 6000000 in
theorem new5R (gx gw : Nat) (WB : World)
    (HF : Hid (Rw.Fine (new5 gx gw WB))) (HG0 : Hid (∀ l : List Value, (new5 gx gw WB).G (Array.replicate 8 false) l WB.drew)) (Hn0 : (new5 gx gw WB).n0 ≤ WB.heap.size)
    (HGX : Hid (gx < WB.heap.size)) (HC : Hid (∀ W, Below WB.heap.size WB W → W.cell? ⟨gx, 4, none⟩ = some (.slice none 0 0))) (HFZ : Hid (∀ W, Below WB.heap.size WB W → W.frozen? ⟨gx, 4, none⟩ = false))
    (HW : Hid (∀ W, Below WB.heap.size WB W → W.cell? ⟨gw, 0, none⟩ = some (.int .i64 8)))
    (HGQ : Hid (∀ (i : Nat) (v : Value) (L : Array Bool) (l : List Value) (w w' : World), did L i = false → i < L.size → i < l.length → Below w.heap.size w w' → (new5 gx gw WB).G L l w → i ≠ 7 → (new5 gx gw WB).G (L.setIfInBounds i true) (l.set i v) w'))
    (c0 c1 c2 c3 c4 c5 c6 c7 c8 c10 c12 c13 c14 c15 c16 c17 c18 c19 c20 c21 c22 c23 c24 c25 c26 c27 c28 c29 c30 c31 c32 c33 c34 c35 c36 c37 c38 c39 c40 : Value) (Q : Exit → Act → World → Prop)
    (hexit : ∀ (u0 u1 u2 u3 u4 u5 u6 : Value) (L : Array Bool) (w' : World), (∀ i, i < 8 → did L i = true) → RW (new5 gx gw WB) L [u0, u1, u2, u3, u4, u5, u6, undef] w' → Q .normal ⟨#[c0, c1, c2, c3, c4, c5, c6, c7, c8, .pointer (some ⟨gx, 0, none⟩), c10, .slice (some ⟨gw, 0, none⟩) 1 1, c12, c13, c14, c15, c16, c17, c18, c19, c20, c21, c22, c23, c24, c25, c26, c27, c28, c29, c30, c31, u0, u1, u2, u3, u4, u5, u6, c39, c40], []⟩ w') :
    Code.wp Try.prog ((Try.f116.body.bind (findRegion 5)).getD .skip) Q ⟨#[c0, c1, c2, c3, c4, c5, c6, c7, c8, .pointer (some ⟨gx, 0, none⟩), c10, .slice (some ⟨gw, 0, none⟩) 1 1, c12, c13, c14, c15, c16, c17, c18, c19, c20, c21, c22, c23, c24, c25, c26, c27, c28, c29, c30, c31, c32, c33, c34, c35, c36, c37, c38, c39, c40], []⟩ WB := by
  obtain ⟨i0, hi0, hz0, hz1, hz2⟩ := info_parts Try.infoVV
  dsimp only at hexit ⊢
  conv => arg 2; whnf
  have HEX := Lib.hid hexit
  clear hexit
  have hF := HF.out
  refine wp_region_inv2 (by kernel_rfl) (fun L a' w' => ∃ u0 u1 u2 u3 u4 u5 u6 : Value, a' = ⟨#[c0, c1, c2, c3, c4, c5, c6, c7, c8, .pointer (some ⟨gx, 0, none⟩), c10, .slice (some ⟨gw, 0, none⟩) 1 1, c12, c13, c14, c15, c16, c17, c18, c19, c20, c21, c22, c23, c24, c25, c26, c27, c28, c29, c30, c31, u0, u1, u2, u3, u4, u5, u6, c39, c40], []⟩ ∧ L.size = 8 ∧ RW (new5 gx gw WB) L [u0, u1, u2, u3, u4, u5, u6, undef] w') ?_ ?_ ?_ ?_
  · exact ⟨_, _, _, _, _, _, _, rfl, by simp, RW.init (fun i => did_none _ _) Hn0 (HG0.out _)⟩
  · rintro L a' w' i hL hi hnd hdep ⟨u0, u1, u2, u3, u4, u5, u6, rfl, hLn, hI⟩
    dsimp only
    have hsz : ∀ i, (L.setIfInBounds i true).size = 8 := fun i => by simpa using hLn
    have hL8 : L.size = 8 := hL
    have HI := Lib.hid hI
    clear hI
    match i, hi with
    | 0, _ =>
      have HN := Lib.hid hnd
      have HJ : Hid (∀ j ∈ ([] : List Nat), did L j = true) := fun j hj => by cases hj
      clear hdep hnd
      refine wpOp_step rfl (fun K' hK => ?_)
      go_simp
      exact hK _ _ ⟨_, _, _, _, _, _, _, rfl, hsz _, HI.out.val 0 _ hF HN.out (by omega) (by show 0 < 8; omega) rfl (Below.refl _ _) (fun hg => HGQ.out 0 _ _ _ _ _ HN.out (by omega) (by show 0 < 8; omega) (Below.refl _ _) hg (by decide))⟩
    | 1, _ =>
      have HN := Lib.hid hnd
      have q0 := (HI.out.got 0 (hdep _ rfl ⟨0, .data⟩ (by simp) (by kernel_rfl)) rfl).symm
      subst q0
      have HJ : Hid (∀ j ∈ ([] : List Nat), did L j = true) := fun j hj => by cases hj
      have hcx := HC.out _ (new5_early HI.out.glob (by decide) HN.out)
      clear hdep hnd
      refine wpOp_step rfl (fun K' hK => ?_)
      go_simp
      exact hK _ _ ⟨_, _, _, _, _, _, _, rfl, hsz _, HI.out.val 1 _ hF HN.out (by omega) (by show 1 < 8; omega) rfl (Below.refl _ _) (fun hg => HGQ.out 1 _ _ _ _ _ HN.out (by omega) (by show 1 < 8; omega) (Below.refl _ _) hg (by decide))⟩
    | 2, _ =>
      have HN := Lib.hid hnd
      have HJ : Hid (∀ j ∈ ([] : List Nat), did L j = true) := fun j hj => by cases hj
      clear hdep hnd
      refine wpOp_step rfl (fun K' hK => ?_)
      go_simp
      exact hK _ _ ⟨_, _, _, _, _, _, _, rfl, hsz _, HI.out.val 2 _ hF HN.out (by omega) (by show 2 < 8; omega) rfl (Below.refl _ _) (fun hg => HGQ.out 2 _ _ _ _ _ HN.out (by omega) (by show 2 < 8; omega) (Below.refl _ _) hg (by decide))⟩
    | 3, _ =>
      have HN := Lib.hid hnd
      have q2 := (HI.out.got 2 (hdep _ rfl ⟨2, .data⟩ (by simp) (by kernel_rfl)) rfl).symm
      subst q2
      have HJ : Hid (∀ j ∈ ([] : List Nat), did L j = true) := fun j hj => by cases hj
      clear hdep hnd
      refine wpOp_step rfl (fun K' hK => ?_)
      go_simp
      refine (zeros_one gw _ (HW.out _ (new5_early HI.out.glob (by decide) HN.out))).mono ?_
      rintro e w1 ⟨v, rfl, p, c, zv, rfl, hc1, hp, hpl, hpc, rfl, hiv, hbK⟩
      exact hK _ _ ⟨_, _, _, _, _, _, _, rfl, hsz _, HI.out.quiet 3 _ hF HN.out (by omega) (by show 3 < 8; omega) rfl HJ.out hbK (fun hg => HGQ.out 3 _ _ _ _ _ HN.out (by omega) (by show 3 < 8; omega) hbK hg (by decide)) ⟨p, c, _, _, rfl, hc1, ⟨Nat.le_of_lt hp, hpl⟩, hpc, hiv, ⟨Nat.le_refl _, Nat.lt_trans hp hpl⟩⟩⟩
    | 4, _ =>
      have HN := Lib.hid hnd
      have d3 := hdep _ rfl ⟨3, .data⟩ (by simp) (by kernel_rfl)
      have HJ : Hid (∀ j ∈ ([3] : List Nat), did L j = true) := by
        intro j hj
        simp only [List.mem_cons, List.not_mem_nil, or_false] at hj
        subst hj; assumption
      obtain ⟨B3, hb3, p3, c3, zz3, zc3, e3, h31, h3b, h3c, -, -⟩ := HI.out.made 3 d3 rfl
      have e3 : u3 = .slice (some ⟨p3, 0, none⟩) 1 c3 := e3
      subst e3
      clear hdep hnd d3
      refine wpOp_step rfl (fun K' hK => ?_)
      go_simp
      have hbK : Below w'.heap.size w' (w'.alloc (.cells #[.slice (some ⟨p3, 0, none⟩) 1 c3] 32)) := (Below.refl _ _).alloc (Nat.le_refl _) _
      exact hK _ _ ⟨_, _, _, _, _, _, _, rfl, hsz _, HI.out.quiet 4 _ hF HN.out (by omega) (by show 4 < 8; omega) rfl HJ.out hbK (fun hg => HGQ.out 4 _ _ _ _ _ HN.out (by omega) (by show 4 < 8; omega) hbK hg (by decide)) ⟨w'.heap.size, _, rfl, ⟨Nat.le_refl _, by simp⟩, rfl, cell_three0 _ _ _⟩⟩
    | 5, _ =>
      have HN := Lib.hid hnd
      have d3 := hdep _ rfl ⟨3, .chain⟩ (by simp) (by kernel_rfl)
      have d4 := hdep _ rfl ⟨4, .data⟩ (by simp) (by kernel_rfl)
      have q1 := (HI.out.got 1 (hdep _ rfl ⟨1, .data⟩ (by simp) (by kernel_rfl)) rfl).symm
      subst q1
      have HJ : Hid (∀ j ∈ ([3, 4] : List Nat), did L j = true) := by
        intro j hj
        simp only [List.mem_cons, List.not_mem_nil, or_false] at hj
        rcases hj with rfl | rfl <;> assumption
      obtain ⟨B3, hb3, p3, c3, zz3, zc3, e3, h31, h3b, h3c, -, -⟩ := HI.out.made 3 d3 rfl
      have e3 : u3 = .slice (some ⟨p3, 0, none⟩) 1 c3 := e3
      subst e3
      obtain ⟨B4, hb4, g4, x4, e4, hB4, hx4, hc4⟩ := HI.out.made 4 d4 rfl
      have e4 : u4 = .slice (some ⟨g4, 0, none⟩) 1 1 := e4
      subst e4
      have hx4 : [Value.slice (some ⟨p3, 0, none⟩) 1 c3] = [x4] := hx4
      simp only [List.cons.injEq, and_true] at hx4
      subst hx4
      clear hdep hnd d3 d4
      refine wpOp_step rfl (fun K' hK => ?_)
      refine step_append_two rfl (.tmp 33) (.tmp 36) 95 rfl 32 i0 (.slice none 0 0) 1 24 Try.underlying95 hi0 hz0 hz1 hz2 rfl (by decide) (.slice none 0 0) 0 [] rfl ⟨rfl, .inl ⟨rfl, rfl⟩⟩ ⟨g4, 0, none⟩ 1 1 [.slice (some ⟨p3, 0, none⟩) 1 c3] rfl rfl (cell_one hc4) (by intro u hu; simp at hu; subst hu; rfl) (by unfold maxLen; omega) (by omega) ?_
      intro v1 w1 hown hgrow hwh
      obtain ⟨g5, c5, ev5, hc5, hg5, hcell5⟩ := app_new hown hwh
      subst ev5
      have hbK : Below w'.heap.size w' w1 := (Below.refl _ _).grown hgrow (Nat.le_refl _) (fun k h => by cases h)
      exact hK _ _ ⟨_, _, _, _, _, _, _, rfl, hsz _, HI.out.quiet 5 _ hF HN.out (by omega) (by show 5 < 8; omega) rfl HJ.out hbK (fun hg => HGQ.out 5 _ _ _ _ _ HN.out (by omega) (by show 5 < 8; omega) hbK hg (by decide)) ⟨g5, c5, _, _, rfl, hc5, ⟨hg5, (hown.lt g5 rfl).2⟩, rfl, hcell5⟩⟩
    | 6, _ =>
      have HN := Lib.hid hnd
      have HJ : Hid (∀ j ∈ ([] : List Nat), did L j = true) := fun j hj => by cases hj
      clear hdep hnd
      refine wpOp_step rfl (fun K' hK => ?_)
      go_simp
      exact hK _ _ ⟨_, _, _, _, _, _, _, rfl, hsz _, HI.out.val 6 _ hF HN.out (by omega) (by show 6 < 8; omega) rfl (Below.refl _ _) (fun hg => HGQ.out 6 _ _ _ _ _ HN.out (by omega) (by show 6 < 8; omega) (Below.refl _ _) hg (by decide))⟩
    | 7, _ =>
      have HN := Lib.hid hnd
      have d5 := hdep _ rfl ⟨5, .data⟩ (by simp) (by kernel_rfl)
      have q6 := (HI.out.got 6 (hdep _ rfl ⟨6, .data⟩ (by simp) (by kernel_rfl)) rfl).symm
      subst q6
      have HJ : Hid (∀ j ∈ ([5] : List Nat), did L j = true) := by
        intro j hj
        simp only [List.mem_cons, List.not_mem_nil, or_false] at hj
        subst hj; assumption
      have dA : ∀ j, j < 7 → did L j = true := fun j hj => by
        match j, hj with
        | 0, _ => exact hdep _ rfl ⟨0, .phase⟩ (by simp) (by kernel_rfl)
        | 1, _ => exact hdep _ rfl ⟨1, .phase⟩ (by simp) (by kernel_rfl)
        | 2, _ => exact hdep _ rfl ⟨2, .phase⟩ (by simp) (by kernel_rfl)
        | 3, _ => exact hdep _ rfl ⟨3, .phase⟩ (by simp) (by kernel_rfl)
        | 4, _ => exact hdep _ rfl ⟨4, .phase⟩ (by simp) (by kernel_rfl)
        | 5, _ => exact hdep _ rfl ⟨5, .phase⟩ (by simp) (by kernel_rfl)
        | 6, _ => exact hdep _ rfl ⟨6, .data⟩ (by simp) (by kernel_rfl)
      obtain ⟨B5, hb5, g5, k5, x5, y5, e5, -⟩ := HI.out.made 5 d5 rfl
      have e5 : u5 = .slice (some ⟨g5, 0, none⟩) 1 k5 := e5
      subst e5
      have HDA := Lib.hid dA
      obtain ⟨hG0, hG⟩ := HI.out.glob
      have hG1 : Below WB.heap.size WB w' := by
        rcases hG with ⟨-, h⟩ | ⟨h, -⟩
        · exact h
        · have hn := HN.out; rw [h] at hn; cases hn
      have hcx := HC.out _ hG1
      have hfx := HFZ.out _ hG1
      have HG1 := Lib.hid hG1
      have HG0' := Lib.hid hG0
      clear dA hG hG1 hG0
      clear hdep hnd d5
      refine wpOp_step rfl (fun K' hK => ?_)
      go_simp
      exact hK _ _ ⟨_, _, _, _, _, _, _, rfl, hsz _, (HI.out.put 7 100 gx undef (js := [5]) (P := TAny) hF HN.out (by omega) (by show 7 < 8; omega) rfl HJ.out (fun k hk => setCell_heap hk) (by simp [World.setCell]) (fun B hB => ⟨fun j hj _ hbj => by have := (hB.blk j gx hj hbj).1; have h2 : WB.heap.size ≤ gx := this; have := HGX.out; omega, fun h => h⟩) (fun js' P' hk => by simp [new5] at hk) (fun hg => ⟨by simpa using HG0'.out, .inr ⟨did_same (by omega), fun j hj => by rw [did_other (by omega)]; exact HDA.out j hj, w', HG1.out, rfl⟩⟩) trivial)⟩
    | i + 8, hi => exact absurd hi (by show ¬ (i + 8 < 8); omega)
  · intro i o ho e he hb
    match i, ho with
    | 0, ho => cases ho; simp at he
    | 1, ho => cases ho; simp at he; subst he; first | (simp; done) | (exact absurd hb (by decide))
    | 2, ho => cases ho; simp at he
    | 3, ho => cases ho; simp at he; subst he; first | (simp; done) | (exact absurd hb (by decide))
    | 4, ho => cases ho; simp at he; subst he; first | (simp; done) | (exact absurd hb (by decide))
    | 5, ho => cases ho; simp at he; rcases he with rfl | rfl | rfl <;> first | (simp; done) | (exact absurd hb (by decide))
    | 6, ho => cases ho; simp at he; rcases he with rfl | rfl | rfl | rfl | rfl | rfl <;> first | (simp; done) | (exact absurd hb (by decide))
    | 7, ho => cases ho; simp at he; rcases he with rfl | rfl | rfl | rfl | rfl | rfl | rfl | rfl | rfl <;> first | (simp; done) | (exact absurd hb (by decide))
    | i + 8, ho => simp at ho
  · rintro L a' w' hall ⟨u0, u1, u2, u3, u4, u5, u6, rfl, hLn, hI⟩
    exact HEX.out u0 u1 u2 u3 u4 u5 u6 L w' (fun i hi => hall i hi) hI

end Go.Proofs.Ytlnkflmnjkmhkaa

/-
  symhead.New of the program of the page's examples.
-/
namespace Go.Proofs.Ytlnkflmnjkmhkaa
open Go.RowKit Go.Maps

/-- The packet as New makes it, its rows in blocks from n on. -/
def KInB (n : Nat) (w : World) (bs : List Int) (X : Value) : Prop := ∃ (r0 ca v0 f0 fc0 q0 qc0 zc e0 : Nat) (a zz : Addr), X = .agg #[.int .i64 1, .int .i64 3, .slice (some ⟨r0, 0, none⟩) 1 1, .slice (some ⟨v0, 0, none⟩) 1 1, .slice (some ⟨f0, 0, none⟩) 1 fc0, .slice none 0 0, .int .i64 0, .int .i64 0, .slice (some ⟨e0, 0, none⟩) 9 9, .int .i64 0] ∧
  (n ≤ r0 ∧ n ≤ a.block ∧ n ≤ v0 ∧ n ≤ f0 ∧ n ≤ q0 ∧ n ≤ zz.block ∧ n ≤ e0) ∧
  w.cell? ⟨r0, 0, none⟩ = some (.slice (some a) 8 ca) ∧ IVec w (.slice (some a) 8 ca) bs ∧ IVec w (.slice (some ⟨v0, 0, none⟩) 1 1) [0] ∧ 1 ≤ fc0 ∧ w.cell? ⟨f0, 0, none⟩ = some (.slice (some ⟨q0, 0, none⟩) 1 qc0) ∧ 1 ≤ qc0 ∧ w.cell? ⟨q0, 0, none⟩ = some (.slice (some zz) 8 zc) ∧ IVec w (.slice (some zz) 8 zc) zero8 ∧ IVec w (.slice (some ⟨e0, 0, none⟩) 9 9) zero9
theorem KInB.keep {n : Nat} {w w' : World} {bs : List Int} {X : Value} (h : KInB n w bs X) (hk : ∀ k, n ≤ k → w'.heap[k]? = w.heap[k]?) (hs : w.heap.size ≤ w'.heap.size) : KIn w' bs X := by
  obtain ⟨r0, ca, v0, f0, fc0, q0, qc0, zc, e0, a, zz, e, ⟨l1, l2, l3, l4, l5, l6, l7⟩, h1, h2, h3, h4, h5, h6, h7, h8, h9⟩ := h
  exact ⟨r0, 1, ca, v0, f0, fc0, q0, qc0, zc, e0, a, zz, e, Nat.le_refl _, (World.cell?_of_block (a := ⟨r0, 0, none⟩) (hk _ l1)).trans h1, h2.keepBlock (hk _ l2) hs, h3.keepBlock (hk _ l3) hs, h4, (World.cell?_of_block (a := ⟨f0, 0, none⟩) (hk _ l4)).trans h5, h6, (World.cell?_of_block (a := ⟨q0, 0, none⟩) (hk _ l5)).trans h7, h8.keepBlock (hk _ l6) hs, h9.keepBlock (hk _ l7) hs⟩

/-- New's memory behind its first region. -/
structure NewM (n : Nat) (W : World) (bs : List Int) (g r3 g7 g11 : Nat) (a3 : Addr) (ca3 : Nat) : Prop where
  lo : n ≤ g ∧ n ≤ r3 ∧ n ≤ a3.block ∧ n ≤ g7 ∧ n ≤ g11
  ne : r3 ≠ g ∧ a3.block ≠ g ∧ g7 ≠ g ∧ g11 ≠ g
  rc : W.cell? ⟨r3, 0, none⟩ = some (.slice (some a3) 8 ca3)
  rv : IVec W (.slice (some a3) 8 ca3) bs
  vv : IVec W (.slice (some ⟨g7, 0, none⟩) 1 1) [0]
  ev : IVec W (.slice (some ⟨g11, 0, none⟩) 9 9) zero9
  fz : ∀ j, W.frozen? ⟨g, j, none⟩ = false
theorem NewM.below {n : Nat} {W W' : World} {bs : List Int} {g r3 g7 g11 : Nat} {a3 : Addr} {ca3 : Nat} (h : NewM n W bs g r3 g7 g11 a3 ca3) (hg : g < W.heap.size) (hb : Below W.heap.size W W') : NewM n W' bs g r3 g7 g11 a3 ca3 :=
  ⟨h.lo, h.ne, (hb.cell (p := ⟨r3, 0, none⟩) (cell_there h.rc).1).trans h.rc, h.rv.below hb, h.vv.below hb, h.ev.below hb, fun j => (hb.frozen (p := ⟨g, j, none⟩) hg).trans (h.fz j)⟩
theorem NewM.set {n : Nat} {W : World} {bs : List Int} {g r3 g7 g11 j : Nat} {x : Value} {a3 : Addr} {ca3 : Nat} (h : NewM n W bs g r3 g7 g11 a3 ca3) : NewM n (W.setCell ⟨g, j, none⟩ x) bs g r3 g7 g11 a3 ca3 := by
  obtain ⟨n1, n2, n3, n4⟩ := h.ne
  exact ⟨h.lo, h.ne, cell_set_other n1 h.rc, h.rv.setOther n2.symm, h.vv.setOther n3.symm, h.ev.setOther n4.symm, fun j => by rw [World.frozen?_setCell]; exact h.fz j⟩

theorem new1_out {gp gh r0 : Nat} {bs : List Int} {w0 w : World} {L : Array Bool} {u0 u1 u2 u3 u4 u5 u6 u7 u8 u9 u10 u11 u12 u13 : Value} (hall : ∀ i, i < 15 → did L i = true) (h : RW (new1 gp gh r0 bs w0) L [u0, u1, u2, u3, u4, u5, u6, u7, u8, u9, u10, u11, u12, u13, undef] w) :
    ∃ g r3 g7 g11 a3 ca3, u13 = .pointer (some ⟨g, 0, none⟩) ∧ NewM w0.heap.size w bs g r3 g7 g11 a3 ca3 ∧ Below w0.heap.size w0 w ∧
      ∀ j v, ([.int .i64 1, .int .i64 3, .slice (some ⟨r3, 0, none⟩) 1 1, .slice (some ⟨g7, 0, none⟩) 1 1, .slice none 0 0, .slice none 0 0, .int .i64 0, .int .i64 0, .slice (some ⟨g11, 0, none⟩) 9 9, .int .i64 0] : List Value)[j]? = some v → w.cell? ⟨g, j, none⟩ = some v := by
  obtain ⟨B, h⟩ := h
  obtain ⟨hb, hl⟩ := h.glob
  obtain ⟨-, -, g, Xs, e1, e2, hc⟩ := hl (hall 14 (by omega))
  have d13 := hall 13 (by omega)
  have hbox := h.boxB d13 rfl e1
  obtain ⟨-, g', e1', hg', -, hfz⟩ := h.ok 13 _ _ d13 rfl
  have eg : g' = g := by rw [e1] at e1'; simpa using e1'.symm
  subst eg
  obtain ⟨-, r3, a3, ca3, e3, hb3, hr3, hv3, hba⟩ := h.ok 3 _ _ (hall 3 (by omega)) rfl
  obtain ⟨-, g7, e7, hb7, hv7⟩ := h.ok 7 _ _ (hall 7 (by omega)) rfl
  obtain ⟨-, g11, e11, hb11, hv11⟩ := h.ok 11 _ _ (hall 11 (by omega)) rfl
  obtain ⟨-, x, y, z, hl, e12⟩ := h.ok 12 _ _ (hall 12 (by omega)) rfl
  have e1 : u13 = .pointer (some ⟨g', 0, none⟩) := e1
  have e3 : u3 = .slice (some ⟨r3, 0, none⟩) 1 1 := e3
  have e7 : u7 = .slice (some ⟨g7, 0, none⟩) 1 1 := e7
  have e11 : u11 = .slice (some ⟨g11, 0, none⟩) 9 9 := e11
  have hl : [u3, u7, u11] = [x, y, z] := hl
  simp only [List.cons.injEq, and_true] at hl
  obtain ⟨rfl, rfl, rfl⟩ := hl
  rw [e12] at e2
  have e2 : Xs = #[.int .i64 1, .int .i64 3, u3, u7, .slice none 0 0, .slice none 0 0, .int .i64 0, .int .i64 0, u11, .int .i64 0] := by simpa using e2.symm
  subst e2 e3 e7 e11
  have d3 := hall 3 (by omega)
  have d7 := hall 7 (by omega)
  have d11 := hall 11 (by omega)
  refine ⟨g', r3, g7, g11, a3, ca3, e1, ⟨⟨(h.blk 13 _ d13 hg').1, (h.blk 3 _ d3 hb3).1, (h.blk 3 _ d3 hba).1, (h.blk 7 _ d7 hb7).1, (h.blk 11 _ d11 hb11).1⟩, ⟨fun e => hbox 3 d3 (by omega) (e ▸ hb3), fun e => hbox 3 d3 (by omega) (e ▸ hba), fun e => hbox 7 d7 (by omega) (e ▸ hb7), fun e => hbox 11 d11 (by omega) (e ▸ hb11)⟩, hr3, hv3, hv7, hv11, hfz⟩, hb, fun j v hj => hc j v (by simpa using hj)⟩

theorem new5_out {gx gw : Nat} {w0 w : World} {L : Array Bool} {u0 u1 u2 u3 u4 u5 u6 : Value} (hall : ∀ i, i < 8 → did L i = true) (h : RW (new5 gx gw w0) L [u0, u1, u2, u3, u4, u5, u6, undef] w) :
    ∃ f0 fc q0 qc zz zc w1, Below w0.heap.size w0 w1 ∧ w = w1.setCell ⟨gx, 4, none⟩ (.slice (some ⟨f0, 0, none⟩) 1 fc) ∧ 1 ≤ fc ∧ w0.heap.size ≤ f0 ∧ w0.heap.size ≤ q0 ∧ w0.heap.size ≤ zz.block ∧ w.cell? ⟨f0, 0, none⟩ = some (.slice (some ⟨q0, 0, none⟩) 1 qc) ∧ 1 ≤ qc ∧ w.cell? ⟨q0, 0, none⟩ = some (.slice (some zz) 8 zc) ∧ IVec w (.slice (some zz) 8 zc) zero8 := by
  obtain ⟨B, h⟩ := h
  obtain ⟨-, ⟨h7, -⟩ | ⟨-, -, w1, hb, hw⟩⟩ := h.glob
  · rw [hall 7 (by omega)] at h7; cases h7
  · obtain ⟨-, q0, qc, zz, zc, e3, hq1, hbq, hcq, hvq, hbz⟩ := h.ok 3 _ _ (hall 3 (by omega)) rfl
    obtain ⟨-, f0, fc, x, y, e5, hf1, hbf, hl, hcf⟩ := h.ok 5 _ _ (hall 5 (by omega)) rfl
    have hl : [u3, u4] = [x, y] := hl
    simp only [List.cons.injEq, and_true] at hl
    obtain ⟨rfl, rfl⟩ := hl
    have e3 : u3 = .slice (some ⟨q0, 0, none⟩) 1 qc := e3
    have e5 : u5 = .slice (some ⟨f0, 0, none⟩) 1 fc := e5
    subst e3 e5
    exact ⟨f0, fc, q0, qc, zz, zc, w1, hb, hw, hf1, (h.blk 5 _ (hall 5 (by omega)) hbf).1, (h.blk 3 _ (hall 3 (by omega)) hbq).1, (h.blk 3 _ (hall 3 (by omega)) hbz).1, hcf, hq1, hcq, hvq⟩

end Go.Proofs.Ytlnkflmnjkmhkaa
