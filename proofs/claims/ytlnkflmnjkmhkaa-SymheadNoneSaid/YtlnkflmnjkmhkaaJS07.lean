/-
  Lemmas, joined: HeadR, RefS2, RefS3, Agree, AgreeS, RefS4, RefS5, Call18, Plays18, Plays18b, Head2.
-/
import Derived.Test.YtlnkflmnjkmhkaaJS05
import Derived.Test.YtlnkflmnjkmhkaaJS06
/-
  The regions of symhead that draw their order.
-/
namespace Go.Proofs.Ytlnkflmnjkmhkaa
open Go.RowKit Go.Maps

def own1S (g1 : Nat) (R M V E : Value) (ph : Nat → (Nat → Value) → World → Prop) : StQ := ⟨[.eq (.pointer (some ⟨g1, 2, none⟩)), .eq (R), .free, .eq (.pointer (some ⟨g1, 5, none⟩)), .eq (M), .free, .eq (.pointer (some ⟨g1, 3, none⟩)), .eq (V), .free, .eq (.pointer (some ⟨g1, 8, none⟩)), .eq (E), .free, .eq (.pointer (some ⟨g1, 2, none⟩)), .free, .eq (.pointer (some ⟨g1, 5, none⟩)), .free, .eq (.pointer (some ⟨g1, 3, none⟩)), .free, .eq (.pointer (some ⟨g1, 8, none⟩)), .free], [2, 5, 8, 11, 13, 15, 17, 19], [[1], [4], [7], [10], [1, 4, 7, 10], [], [], []], ph⟩

theorem own1A : ∀ j, j < 8 → ([2, 5, 8, 11, 13, 15, 17, 19] : List Nat).getD j 0 < 20 := by decide
theorem own1N : ∀ a b, a < 8 → b < 8 → ([2, 5, 8, 11, 13, 15, 17, 19] : List Nat).getD a 0 = ([2, 5, 8, 11, 13, 15, 17, 19] : List Nat).getD b 0 → a = b := by
  intro a b ha hb
  have h : ∀ a, a < 8 → ∀ b, b < 8 → ([2, 5, 8, 11, 13, 15, 17, 19] : List Nat).getD a 0 = ([2, 5, 8, 11, 13, 15, 17, 19] : List Nat).getD b 0 → a = b := by decide
  exact h a ha b hb
theorem own1K (g1 : Nat) (R M V E : Value) (ph : Nat → (Nat → Value) → World → Prop) : ∀ (m : Nat) (P : World → Value → Prop), (own1S g1 R M V E ph).kd[m]? = some (Kq.new P) → False := by
  intro m P h
  match m, h with
  | 0, h => simp [own1S] at h
  | 1, h => simp [own1S] at h
  | 2, h => simp [own1S] at h
  | 3, h => simp [own1S] at h
  | 4, h => simp [own1S] at h
  | 5, h => simp [own1S] at h
  | 6, h => simp [own1S] at h
  | 7, h => simp [own1S] at h
  | 8, h => simp [own1S] at h
  | 9, h => simp [own1S] at h
  | 10, h => simp [own1S] at h
  | 11, h => simp [own1S] at h
  | 12, h => simp [own1S] at h
  | 13, h => simp [own1S] at h
  | 14, h => simp [own1S] at h
  | 15, h => simp [own1S] at h
  | 16, h => simp [own1S] at h
  | 17, h => simp [own1S] at h
  | 18, h => simp [own1S] at h
  | 19, h => simp [own1S] at h
  | m + 20, h => simp [own1S] at h

set_option maxRecDepth 100000 in
set_option maxHeartbeats 6000000 in
theorem own1 (g1 : Nat) (R M V E : Value) (ph : Nat → (Nat → Value) → World → Prop) (WB : World)
    (HF : Hid (StQ.Fine (own1S g1 R M V E ph))) (H0 : Hid (∀ f, ph 0 f WB))
    (HC0 : Hid (∀ k f W, k ≤ 4 → ph k f W → W.cell? ⟨g1, 2, none⟩ = some R ∧ W.cell? ⟨g1, 5, none⟩ = some M ∧ W.cell? ⟨g1, 3, none⟩ = some V ∧ W.cell? ⟨g1, 8, none⟩ = some E))
    (HA0 : Hid (∀ f W, ph 0 f W → Calls Try.prog 146 #[R] W fun e w' => ∃ v, e = .returned v ∧ ph 1 (fun m => if m = 0 then v else f m) w' ∧ Below W.heap.size W w'))
    (HA1 : Hid (∀ f W, ph 1 f W → Calls Try.prog 146 #[M] W fun e w' => ∃ v, e = .returned v ∧ ph 2 (fun m => if m = 1 then v else f m) w' ∧ Below W.heap.size W w'))
    (HA2 : Hid (∀ f W, ph 2 f W → Calls Try.prog 148 #[V] W fun e w' => ∃ v, e = .returned v ∧ ph 3 (fun m => if m = 2 then v else f m) w' ∧ Below W.heap.size W w'))
    (HA3 : Hid (∀ f W, ph 3 f W → Calls Try.prog 123 #[E] W fun e w' => ∃ v, e = .returned v ∧ ph 4 (fun m => if m = 3 then v else f m) w' ∧ Below W.heap.size W w'))
    (HA4 : Hid (∀ f W, ph 4 f W → ((∃ sp sm sc, f 0 = .slice sp sm sc) ∧ (∃ y, W.cell? ⟨g1, 2, none⟩ = some y) ∧ W.frozen? ⟨g1, 2, none⟩ = false ∧ ph 5 (fun m => if m = 4 then undef else f m) (W.setCell ⟨g1, 2, none⟩ (f 0)))))
    (HA5 : Hid (∀ f W, ph 5 f W → ((∃ sp sm sc, f 1 = .slice sp sm sc) ∧ (∃ y, W.cell? ⟨g1, 5, none⟩ = some y) ∧ W.frozen? ⟨g1, 5, none⟩ = false ∧ ph 6 (fun m => if m = 5 then undef else f m) (W.setCell ⟨g1, 5, none⟩ (f 1)))))
    (HA6 : Hid (∀ f W, ph 6 f W → ((∃ sp sm sc, f 2 = .slice sp sm sc) ∧ (∃ y, W.cell? ⟨g1, 3, none⟩ = some y) ∧ W.frozen? ⟨g1, 3, none⟩ = false ∧ ph 7 (fun m => if m = 6 then undef else f m) (W.setCell ⟨g1, 3, none⟩ (f 2)))))
    (HA7 : Hid (∀ f W, ph 7 f W → ((∃ sp sm sc, f 3 = .slice sp sm sc) ∧ (∃ y, W.cell? ⟨g1, 8, none⟩ = some y) ∧ W.frozen? ⟨g1, 8, none⟩ = false ∧ ph 8 (fun m => if m = 7 then undef else f m) (W.setCell ⟨g1, 8, none⟩ (f 3)))))
    (c0 c2 c3 c4 c5 c6 c7 c8 c9 c10 c11 c12 c13 c14 c15 c16 c17 c18 c19 c20 c21 c22 c23 c24 c25 c26 c27 c28 c29 c30 c31 c32 c33 c34 c35 c36 c37 c38 c39 c40 c41 c42 : Value) (Q : Exit → Act → World → Prop)
    (hexit : ∀ (u0 u1 u2 u3 u4 u5 u6 u7 u8 u9 u10 u11 u12 u14 u16 u18 : Value) (w' : World), ph 8 ((own1S g1 R M V E ph).vals [u0, u1, u2, u3, u4, u5, u6, u7, u8, u9, u10, u11, u12, undef, u14, undef, u16, undef, u18, undef]) w' → Q .normal ⟨#[c0, .pointer (some ⟨g1, 0, none⟩), c2, c3, c4, c5, u0, u1, u2, u3, u4, u5, u6, u7, u8, u9, u10, u11, u12, u14, u16, u18, c22, c23, c24, c25, c26, c27, c28, c29, c30, c31, c32, c33, c34, c35, c36, c37, c38, c39, c40, c41, c42], []⟩ w') :
    Code.wp Try.prog ((Try.f117.body.bind (findRegion 1)).getD .skip) Q ⟨#[c0, .pointer (some ⟨g1, 0, none⟩), c2, c3, c4, c5, c6, c7, c8, c9, c10, c11, c12, c13, c14, c15, c16, c17, c18, c19, c20, c21, c22, c23, c24, c25, c26, c27, c28, c29, c30, c31, c32, c33, c34, c35, c36, c37, c38, c39, c40, c41, c42], []⟩ WB := by
  dsimp only at hexit ⊢
  conv => arg 2; whnf
  have HEX := Lib.hid hexit
  clear hexit
  have hF := HF.out
  refine wp_region_inv2 (by kernel_rfl) (fun L a' w' => ∃ u0 u1 u2 u3 u4 u5 u6 u7 u8 u9 u10 u11 u12 u14 u16 u18 : Value, a' = ⟨#[c0, .pointer (some ⟨g1, 0, none⟩), c2, c3, c4, c5, u0, u1, u2, u3, u4, u5, u6, u7, u8, u9, u10, u11, u12, u14, u16, u18, c22, c23, c24, c25, c26, c27, c28, c29, c30, c31, c32, c33, c34, c35, c36, c37, c38, c39, c40, c41, c42], []⟩ ∧ L.size = 20 ∧ RQ (own1S g1 R M V E ph) L [u0, u1, u2, u3, u4, u5, u6, u7, u8, u9, u10, u11, u12, undef, u14, undef, u16, undef, u18, undef] w') ?_ ?_ ?_ ?_
  · exact ⟨_, _, _, _, _, _, _, _, _, _, _, _, _, _, _, _, rfl, by simp, RQ.init (fun i => did_none _ _) (fun f => hF.later 0 f _ _ (H0.out f) (below_drewN (Below.refl _ _) 1))⟩
  · rintro L a' w' i hL hi hnd hdep ⟨u0, u1, u2, u3, u4, u5, u6, u7, u8, u9, u10, u11, u12, u14, u16, u18, rfl, hLn, hI⟩
    dsimp only
    have hsz : ∀ i, (L.setIfInBounds i true).size = 20 := fun i => by simpa using hLn
    have hL20 : L.size = 20 := hL
    have HI := Lib.hid hI
    clear hI
    match i, hi with
    | 0, _ =>
      have HN := Lib.hid hnd
      clear hdep hnd
      refine wpOp_step rfl (fun K' hK => ?_)
      go_simp
      exact hK _ _ ⟨_, _, _, _, _, _, _, _, _, _, _, _, _, _, _, _, rfl, hsz _, HI.out.val 0 _ hF HN.out rfl (Below.refl _ _) (by show 0 < 20; omega) rfl⟩
    | 1, _ =>
      have HN := Lib.hid hnd
      have q0 := (HI.out.got 0 (hdep _ rfl ⟨0, .data⟩ (by simp) (by kernel_rfl)) rfl).symm
      subst q0
      obtain ⟨kk, hkk, hph⟩ := HI.out.early 4 1 HN.out rfl (by simp)
      obtain ⟨z0, z1, z2, z3⟩ := HC0.out _ _ _ hkk hph
      clear hph hkk
      clear hdep hnd
      refine wpOp_step rfl (fun K' hK => ?_)
      go_simp
      exact hK _ _ ⟨_, _, _, _, _, _, _, _, _, _, _, _, _, _, _, _, rfl, hsz _, HI.out.val 1 _ hF HN.out rfl (Below.refl _ _) (by show 1 < 20; omega) rfl⟩
    | 2, _ =>
      have HN := Lib.hid hnd
      have q1 := (HI.out.got 1 (hdep _ rfl ⟨1, .data⟩ (by simp) (by kernel_rfl)) rfl).symm
      subst q1
      have hd1 := hdep _ rfl ⟨1, .data⟩ (by simp) (by kernel_rfl)
      obtain ⟨hp, hput⟩ := HI.out.act 0 2 hF (by show 0 < 8; omega) rfl HN.out (fun m hm => by omega)
      have HDS : Hid (∀ ds, (own1S g1 R M V E ph).dep[0]? = some ds → ∀ m ∈ ds, did L m = true) := fun ds hds m hm => by
        obtain rfl : [1] = ds := by simpa [own1S] using hds
        simp at hm
        subst hm; assumption
      have HP := Lib.hid hput
      clear hput hdep hnd hd1
      have HCA := Lib.hid (HA0.out _ _ hp)
      clear hp
      refine wpOp_step rfl (fun K' hK => ?_)
      go_simp
      refine HCA.out.mono ?_
      rintro e w1 ⟨v, rfl, hp1, hbl⟩
      exact hK _ _ ⟨_, _, _, _, _, _, _, _, _, _, _, _, _, _, _, _, rfl, hsz _, HP.out v w1 (by omega) (by show 2 < 20; omega) (own1N) (fun e he => by cases he; trivial) HDS.out (fun m P hm _ hu => hF.new m P hm _ _ _ hu hbl) hp1⟩
    | 3, _ =>
      have HN := Lib.hid hnd
      clear hdep hnd
      refine wpOp_step rfl (fun K' hK => ?_)
      go_simp
      exact hK _ _ ⟨_, _, _, _, _, _, _, _, _, _, _, _, _, _, _, _, rfl, hsz _, HI.out.val 3 _ hF HN.out rfl (Below.refl _ _) (by show 3 < 20; omega) rfl⟩
    | 4, _ =>
      have HN := Lib.hid hnd
      have q3 := (HI.out.got 3 (hdep _ rfl ⟨3, .data⟩ (by simp) (by kernel_rfl)) rfl).symm
      subst q3
      obtain ⟨kk, hkk, hph⟩ := HI.out.early 4 4 HN.out rfl (by simp)
      obtain ⟨z0, z1, z2, z3⟩ := HC0.out _ _ _ hkk hph
      clear hph hkk
      clear hdep hnd
      refine wpOp_step rfl (fun K' hK => ?_)
      go_simp
      exact hK _ _ ⟨_, _, _, _, _, _, _, _, _, _, _, _, _, _, _, _, rfl, hsz _, HI.out.val 4 _ hF HN.out rfl (Below.refl _ _) (by show 4 < 20; omega) rfl⟩
    | 5, _ =>
      have HN := Lib.hid hnd
      have q4 := (HI.out.got 4 (hdep _ rfl ⟨4, .data⟩ (by simp) (by kernel_rfl)) rfl).symm
      subst q4
      have hpv := hdep _ rfl ⟨2, .chain⟩ (by simp) (by kernel_rfl)
      have hd4 := hdep _ rfl ⟨4, .data⟩ (by simp) (by kernel_rfl)
      obtain ⟨hp, hput⟩ := HI.out.act 1 5 hF (by show 1 < 8; omega) rfl HN.out (fun m hm => by have e : m = 0 := (by omega); subst e; exact hpv)
      have HDS : Hid (∀ ds, (own1S g1 R M V E ph).dep[1]? = some ds → ∀ m ∈ ds, did L m = true) := fun ds hds m hm => by
        obtain rfl : [4] = ds := by simpa [own1S] using hds
        simp at hm
        subst hm; assumption
      have HP := Lib.hid hput
      clear hput hdep hnd hpv hd4
      have HCA := Lib.hid (HA1.out _ _ hp)
      clear hp
      refine wpOp_step rfl (fun K' hK => ?_)
      go_simp
      refine HCA.out.mono ?_
      rintro e w1 ⟨v, rfl, hp1, hbl⟩
      exact hK _ _ ⟨_, _, _, _, _, _, _, _, _, _, _, _, _, _, _, _, rfl, hsz _, HP.out v w1 (by omega) (by show 5 < 20; omega) (own1N) (fun e he => by cases he; trivial) HDS.out (fun m P hm _ hu => hF.new m P hm _ _ _ hu hbl) hp1⟩
    | 6, _ =>
      have HN := Lib.hid hnd
      clear hdep hnd
      refine wpOp_step rfl (fun K' hK => ?_)
      go_simp
      exact hK _ _ ⟨_, _, _, _, _, _, _, _, _, _, _, _, _, _, _, _, rfl, hsz _, HI.out.val 6 _ hF HN.out rfl (Below.refl _ _) (by show 6 < 20; omega) rfl⟩
    | 7, _ =>
      have HN := Lib.hid hnd
      have q6 := (HI.out.got 6 (hdep _ rfl ⟨6, .data⟩ (by simp) (by kernel_rfl)) rfl).symm
      subst q6
      obtain ⟨kk, hkk, hph⟩ := HI.out.early 4 7 HN.out rfl (by simp)
      obtain ⟨z0, z1, z2, z3⟩ := HC0.out _ _ _ hkk hph
      clear hph hkk
      clear hdep hnd
      refine wpOp_step rfl (fun K' hK => ?_)
      go_simp
      exact hK _ _ ⟨_, _, _, _, _, _, _, _, _, _, _, _, _, _, _, _, rfl, hsz _, HI.out.val 7 _ hF HN.out rfl (Below.refl _ _) (by show 7 < 20; omega) rfl⟩
    | 8, _ =>
      have HN := Lib.hid hnd
      have q7 := (HI.out.got 7 (hdep _ rfl ⟨7, .data⟩ (by simp) (by kernel_rfl)) rfl).symm
      subst q7
      have hpv := hdep _ rfl ⟨5, .chain⟩ (by simp) (by kernel_rfl)
      have hd7 := hdep _ rfl ⟨7, .data⟩ (by simp) (by kernel_rfl)
      obtain ⟨hp, hput⟩ := HI.out.act 2 8 hF (by show 2 < 8; omega) rfl HN.out (fun m hm => by have e : m = 1 := (by omega); subst e; exact hpv)
      have HDS : Hid (∀ ds, (own1S g1 R M V E ph).dep[2]? = some ds → ∀ m ∈ ds, did L m = true) := fun ds hds m hm => by
        obtain rfl : [7] = ds := by simpa [own1S] using hds
        simp at hm
        subst hm; assumption
      have HP := Lib.hid hput
      clear hput hdep hnd hpv hd7
      have HCA := Lib.hid (HA2.out _ _ hp)
      clear hp
      refine wpOp_step rfl (fun K' hK => ?_)
      go_simp
      refine HCA.out.mono ?_
      rintro e w1 ⟨v, rfl, hp1, hbl⟩
      exact hK _ _ ⟨_, _, _, _, _, _, _, _, _, _, _, _, _, _, _, _, rfl, hsz _, HP.out v w1 (by omega) (by show 8 < 20; omega) (own1N) (fun e he => by cases he; trivial) HDS.out (fun m P hm _ hu => hF.new m P hm _ _ _ hu hbl) hp1⟩
    | 9, _ =>
      have HN := Lib.hid hnd
      clear hdep hnd
      refine wpOp_step rfl (fun K' hK => ?_)
      go_simp
      exact hK _ _ ⟨_, _, _, _, _, _, _, _, _, _, _, _, _, _, _, _, rfl, hsz _, HI.out.val 9 _ hF HN.out rfl (Below.refl _ _) (by show 9 < 20; omega) rfl⟩
    | 10, _ =>
      have HN := Lib.hid hnd
      have q9 := (HI.out.got 9 (hdep _ rfl ⟨9, .data⟩ (by simp) (by kernel_rfl)) rfl).symm
      subst q9
      obtain ⟨kk, hkk, hph⟩ := HI.out.early 4 10 HN.out rfl (by simp)
      obtain ⟨z0, z1, z2, z3⟩ := HC0.out _ _ _ hkk hph
      clear hph hkk
      clear hdep hnd
      refine wpOp_step rfl (fun K' hK => ?_)
      go_simp
      exact hK _ _ ⟨_, _, _, _, _, _, _, _, _, _, _, _, _, _, _, _, rfl, hsz _, HI.out.val 10 _ hF HN.out rfl (Below.refl _ _) (by show 10 < 20; omega) rfl⟩
    | 11, _ =>
      have HN := Lib.hid hnd
      have q10 := (HI.out.got 10 (hdep _ rfl ⟨10, .data⟩ (by simp) (by kernel_rfl)) rfl).symm
      subst q10
      have hpv := hdep _ rfl ⟨8, .chain⟩ (by simp) (by kernel_rfl)
      have hd10 := hdep _ rfl ⟨10, .data⟩ (by simp) (by kernel_rfl)
      obtain ⟨hp, hput⟩ := HI.out.act 3 11 hF (by show 3 < 8; omega) rfl HN.out (fun m hm => by have e : m = 2 := (by omega); subst e; exact hpv)
      have HDS : Hid (∀ ds, (own1S g1 R M V E ph).dep[3]? = some ds → ∀ m ∈ ds, did L m = true) := fun ds hds m hm => by
        obtain rfl : [10] = ds := by simpa [own1S] using hds
        simp at hm
        subst hm; assumption
      have HP := Lib.hid hput
      clear hput hdep hnd hpv hd10
      have HCA := Lib.hid (HA3.out _ _ hp)
      clear hp
      refine wpOp_step rfl (fun K' hK => ?_)
      go_simp
      refine HCA.out.mono ?_
      rintro e w1 ⟨v, rfl, hp1, hbl⟩
      exact hK _ _ ⟨_, _, _, _, _, _, _, _, _, _, _, _, _, _, _, _, rfl, hsz _, HP.out v w1 (by omega) (by show 11 < 20; omega) (own1N) (fun e he => by cases he; trivial) HDS.out (fun m P hm _ hu => hF.new m P hm _ _ _ hu hbl) hp1⟩
    | 12, _ =>
      have HN := Lib.hid hnd
      clear hdep hnd
      refine wpOp_step rfl (fun K' hK => ?_)
      go_simp
      exact hK _ _ ⟨_, _, _, _, _, _, _, _, _, _, _, _, _, _, _, _, rfl, hsz _, HI.out.val 12 _ hF HN.out rfl (Below.refl _ _) (by show 12 < 20; omega) rfl⟩
    | 13, _ =>
      have HN := Lib.hid hnd
      have q12 := (HI.out.got 12 (hdep _ rfl ⟨12, .data⟩ (by simp) (by kernel_rfl)) rfl).symm
      subst q12
      have hpv := hdep _ rfl ⟨11, .chain⟩ (by simp) (by kernel_rfl)
      have hd1 := hdep _ rfl ⟨1, .phase⟩ (by simp) (by kernel_rfl)
      have hd4 := hdep _ rfl ⟨4, .phase⟩ (by simp) (by kernel_rfl)
      have hd7 := hdep _ rfl ⟨7, .phase⟩ (by simp) (by kernel_rfl)
      have hd10 := hdep _ rfl ⟨10, .phase⟩ (by simp) (by kernel_rfl)
      obtain ⟨hp, hput⟩ := HI.out.act 4 13 hF (by show 4 < 8; omega) rfl HN.out (fun m hm => by have e : m = 3 := (by omega); subst e; exact hpv)
      have HDS : Hid (∀ ds, (own1S g1 R M V E ph).dep[4]? = some ds → ∀ m ∈ ds, did L m = true) := fun ds hds m hm => by
        obtain rfl : [1, 4, 7, 10] = ds := by simpa [own1S] using hds
        simp at hm
        rcases hm with rfl | rfl | rfl | rfl <;> assumption
      have HP := Lib.hid hput
      clear hput hdep hnd hpv hd1 hd4 hd7 hd10
      obtain ⟨⟨sp, sm, sc, hsh⟩, ⟨y, hy⟩, hfz, hp1⟩ := HA4.out _ _ hp
      have hsh : u2 = .slice sp sm sc := hsh
      subst hsh
      clear hp
      have HP1 := Lib.hid hp1
      clear hp1
      refine wpOp_step rfl (fun K' hK => ?_)
      go_simp
      exact hK _ _ ⟨_, _, _, _, _, _, _, _, _, _, _, _, _, _, _, _, rfl, hsz _, HP.out undef _ (by omega) (by show 13 < 20; omega) (own1N) (fun e he => by cases he; trivial) HDS.out (fun m P hm _ _ => (own1K g1 R M V E ph m P hm).elim) HP1.out⟩
    | 14, _ =>
      have HN := Lib.hid hnd
      clear hdep hnd
      refine wpOp_step rfl (fun K' hK => ?_)
      go_simp
      exact hK _ _ ⟨_, _, _, _, _, _, _, _, _, _, _, _, _, _, _, _, rfl, hsz _, HI.out.val 14 _ hF HN.out rfl (Below.refl _ _) (by show 14 < 20; omega) rfl⟩
    | 15, _ =>
      have HN := Lib.hid hnd
      have q14 := (HI.out.got 14 (hdep _ rfl ⟨14, .data⟩ (by simp) (by kernel_rfl)) rfl).symm
      subst q14
      have hpv := hdep _ rfl ⟨13, .chain⟩ (by simp) (by kernel_rfl)
      obtain ⟨hp, hput⟩ := HI.out.act 5 15 hF (by show 5 < 8; omega) rfl HN.out (fun m hm => by have e : m = 4 := (by omega); subst e; exact hpv)
      have HDS : Hid (∀ ds, (own1S g1 R M V E ph).dep[5]? = some ds → ∀ m ∈ ds, did L m = true) := fun ds hds m hm => by
        obtain rfl : [] = ds := by simpa [own1S] using hds
        simp at hm
        
      have HP := Lib.hid hput
      clear hput hdep hnd hpv
      obtain ⟨⟨sp, sm, sc, hsh⟩, ⟨y, hy⟩, hfz, hp1⟩ := HA5.out _ _ hp
      have hsh : u5 = .slice sp sm sc := hsh
      subst hsh
      clear hp
      have HP1 := Lib.hid hp1
      clear hp1
      refine wpOp_step rfl (fun K' hK => ?_)
      go_simp
      exact hK _ _ ⟨_, _, _, _, _, _, _, _, _, _, _, _, _, _, _, _, rfl, hsz _, HP.out undef _ (by omega) (by show 15 < 20; omega) (own1N) (fun e he => by cases he; trivial) HDS.out (fun m P hm _ _ => (own1K g1 R M V E ph m P hm).elim) HP1.out⟩
    | 16, _ =>
      have HN := Lib.hid hnd
      clear hdep hnd
      refine wpOp_step rfl (fun K' hK => ?_)
      go_simp
      exact hK _ _ ⟨_, _, _, _, _, _, _, _, _, _, _, _, _, _, _, _, rfl, hsz _, HI.out.val 16 _ hF HN.out rfl (Below.refl _ _) (by show 16 < 20; omega) rfl⟩
    | 17, _ =>
      have HN := Lib.hid hnd
      have q16 := (HI.out.got 16 (hdep _ rfl ⟨16, .data⟩ (by simp) (by kernel_rfl)) rfl).symm
      subst q16
      have hpv := hdep _ rfl ⟨15, .chain⟩ (by simp) (by kernel_rfl)
      obtain ⟨hp, hput⟩ := HI.out.act 6 17 hF (by show 6 < 8; omega) rfl HN.out (fun m hm => by have e : m = 5 := (by omega); subst e; exact hpv)
      have HDS : Hid (∀ ds, (own1S g1 R M V E ph).dep[6]? = some ds → ∀ m ∈ ds, did L m = true) := fun ds hds m hm => by
        obtain rfl : [] = ds := by simpa [own1S] using hds
        simp at hm
        
      have HP := Lib.hid hput
      clear hput hdep hnd hpv
      obtain ⟨⟨sp, sm, sc, hsh⟩, ⟨y, hy⟩, hfz, hp1⟩ := HA6.out _ _ hp
      have hsh : u8 = .slice sp sm sc := hsh
      subst hsh
      clear hp
      have HP1 := Lib.hid hp1
      clear hp1
      refine wpOp_step rfl (fun K' hK => ?_)
      go_simp
      exact hK _ _ ⟨_, _, _, _, _, _, _, _, _, _, _, _, _, _, _, _, rfl, hsz _, HP.out undef _ (by omega) (by show 17 < 20; omega) (own1N) (fun e he => by cases he; trivial) HDS.out (fun m P hm _ _ => (own1K g1 R M V E ph m P hm).elim) HP1.out⟩
    | 18, _ =>
      have HN := Lib.hid hnd
      clear hdep hnd
      refine wpOp_step rfl (fun K' hK => ?_)
      go_simp
      exact hK _ _ ⟨_, _, _, _, _, _, _, _, _, _, _, _, _, _, _, _, rfl, hsz _, HI.out.val 18 _ hF HN.out rfl (Below.refl _ _) (by show 18 < 20; omega) rfl⟩
    | 19, _ =>
      have HN := Lib.hid hnd
      have q18 := (HI.out.got 18 (hdep _ rfl ⟨18, .data⟩ (by simp) (by kernel_rfl)) rfl).symm
      subst q18
      have hpv := hdep _ rfl ⟨17, .chain⟩ (by simp) (by kernel_rfl)
      obtain ⟨hp, hput⟩ := HI.out.act 7 19 hF (by show 7 < 8; omega) rfl HN.out (fun m hm => by have e : m = 6 := (by omega); subst e; exact hpv)
      have HDS : Hid (∀ ds, (own1S g1 R M V E ph).dep[7]? = some ds → ∀ m ∈ ds, did L m = true) := fun ds hds m hm => by
        obtain rfl : [] = ds := by simpa [own1S] using hds
        simp at hm
        
      have HP := Lib.hid hput
      clear hput hdep hnd hpv
      obtain ⟨⟨sp, sm, sc, hsh⟩, ⟨y, hy⟩, hfz, hp1⟩ := HA7.out _ _ hp
      have hsh : u11 = .slice sp sm sc := hsh
      subst hsh
      clear hp
      have HP1 := Lib.hid hp1
      clear hp1
      refine wpOp_step rfl (fun K' hK => ?_)
      go_simp
      exact hK _ _ ⟨_, _, _, _, _, _, _, _, _, _, _, _, _, _, _, _, rfl, hsz _, HP.out undef _ (by omega) (by show 19 < 20; omega) (own1N) (fun e he => by cases he; trivial) HDS.out (fun m P hm _ _ => (own1K g1 R M V E ph m P hm).elim) HP1.out⟩
    | i + 20, hi => exact absurd hi (by show ¬ (i + 20 < 20); omega)
  · intro i o ho e he hb
    match i, ho with
    | 0, ho => cases ho; simp at he
    | 1, ho => cases ho; simp at he; subst he; first | (simp; done) | (exact absurd hb (by decide))
    | 2, ho => cases ho; simp at he; subst he; first | (simp; done) | (exact absurd hb (by decide))
    | 3, ho => cases ho; simp at he
    | 4, ho => cases ho; simp at he; subst he; first | (simp; done) | (exact absurd hb (by decide))
    | 5, ho => cases ho; simp at he; rcases he with rfl | rfl <;> first | (simp; done) | (exact absurd hb (by decide))
    | 6, ho => cases ho; simp at he
    | 7, ho => cases ho; simp at he; subst he; first | (simp; done) | (exact absurd hb (by decide))
    | 8, ho => cases ho; simp at he; rcases he with rfl | rfl <;> first | (simp; done) | (exact absurd hb (by decide))
    | 9, ho => cases ho; simp at he
    | 10, ho => cases ho; simp at he; subst he; first | (simp; done) | (exact absurd hb (by decide))
    | 11, ho => cases ho; simp at he; rcases he with rfl | rfl <;> first | (simp; done) | (exact absurd hb (by decide))
    | 12, ho => cases ho; simp at he; rcases he with rfl | rfl | rfl | rfl | rfl | rfl | rfl | rfl | rfl | rfl | rfl | rfl <;> first | (simp; done) | (exact absurd hb (by decide))
    | 13, ho => cases ho; simp at he; rcases he with rfl | rfl | rfl | rfl | rfl | rfl | rfl | rfl | rfl | rfl | rfl | rfl | rfl | rfl | rfl <;> first | (simp; done) | (exact absurd hb (by decide))
    | 14, ho => cases ho; simp at he; rcases he with rfl | rfl | rfl | rfl | rfl | rfl | rfl | rfl | rfl | rfl | rfl | rfl | rfl | rfl <;> first | (simp; done) | (exact absurd hb (by decide))
    | 15, ho => cases ho; simp at he; rcases he with rfl | rfl | rfl | rfl | rfl | rfl | rfl | rfl | rfl | rfl | rfl | rfl | rfl | rfl | rfl | rfl | rfl <;> first | (simp; done) | (exact absurd hb (by decide))
    | 16, ho => cases ho; simp at he; rcases he with rfl | rfl | rfl | rfl | rfl | rfl | rfl | rfl | rfl | rfl | rfl | rfl | rfl | rfl | rfl | rfl <;> first | (simp; done) | (exact absurd hb (by decide))
    | 17, ho => cases ho; simp at he; rcases he with rfl | rfl | rfl | rfl | rfl | rfl | rfl | rfl | rfl | rfl | rfl | rfl | rfl | rfl | rfl | rfl | rfl | rfl | rfl <;> first | (simp; done) | (exact absurd hb (by decide))
    | 18, ho => cases ho; simp at he; rcases he with rfl | rfl | rfl | rfl | rfl | rfl | rfl | rfl | rfl | rfl | rfl | rfl | rfl | rfl | rfl | rfl | rfl | rfl <;> first | (simp; done) | (exact absurd hb (by decide))
    | 19, ho => cases ho; simp at he; rcases he with rfl | rfl | rfl | rfl | rfl | rfl | rfl | rfl | rfl | rfl | rfl | rfl | rfl | rfl | rfl | rfl | rfl | rfl | rfl | rfl | rfl <;> first | (simp; done) | (exact absurd hb (by decide))
    | i + 20, ho => simp at ho
  · rintro L a' w' hall ⟨u0, u1, u2, u3, u4, u5, u6, u7, u8, u9, u10, u11, u12, u14, u16, u18, rfl, hLn, hI⟩
    exact HEX.out u0 u1 u2 u3 u4 u5 u6 u7 u8 u9 u10 u11 u12 u14 u16 u18 w' (hI.ends fun j hj => hall _ (own1A j hj))

end Go.Proofs.Ytlnkflmnjkmhkaa

















/-
  The law SymopPlays of layer 18: what holds of all of memory at a round's head, and what each step does to it.
-/
namespace Go.Proofs.Ytlnkflmnjkmhkaa
open Go.RowKit Go.Maps

theorem Try.infoVec : (Try.prog.info? 34).map (fun i => (i.zero, i.size, i.bytes)) = some (some (.slice none 0 0), 1, 24) := by kernel_rfl

variable {w0 W W' : World} {b : Nat} {O O' : Nat → Prop} {s s' : BS} {bw : Nat} {Ow : Nat → Prop} {t : BS} {g n : Nat} {v : Value} {vals : Nat → Value} {xs : Nat → List Int}

/-- append to a row of vectors of one vector: where the new row lies. -/
theorem append_vec1 {ops : Array Oper} {rest : List Oper} {o : Oper} {a : Act} {Q : Exit → Act → World → Prop} {w : World} (hgd : o.guard = none) (s x : Operand)
    (ho : o.op = .call { callee := .builtin .append, args := #[s, x], argTypes := #[32, 32] })
    (v : Value) (n : Nat) (zs : List Value) (hs : a.eval s = v) (hown : w.ownsRow 0 34 1 v n zs) (g : Nat) (z : Value) (hz1 : ∃ p m c, z = .slice p m c) (hx : a.eval x = .slice (some ⟨g, 0, none⟩) 1 1) (hc : w.cell? ⟨g, 0, none⟩ = some z) (hl : n ≤ 2000000)
    (h : ∀ v' w', w'.ownsRow 0 34 1 v' (n + 1) (zs ++ [z]) → w.grownBy w' v.ownBlock → (v'.ownBlock = v.ownBlock ∨ ∀ k, v'.ownBlock = some k → w.heap.size ≤ k) → wpList Try.prog ops Q rest (a.put o.dst v') w') : wpList Try.prog ops Q (o :: rest) a w := by
  obtain ⟨i0, hi, hz0, hz1', hz2⟩ := info_parts Try.infoVec
  have hcell : ∀ j u, [z][j]? = some u → w.cell? ((⟨g, 0, none⟩ : Addr).add j) = some u := by
    intro j u hu
    match j, hu with
    | 0, hu => simp at hu; subst hu; simpa [Addr.add] using hc
  refine wpList_plain hgd fun K hK => ?_
  have key := step_append_two (P := Try.prog) (ops := ops) (w := w) (a := a) (o := o) (K := K) (Q := Q) (E := True) hgd s x 32 ho 34 i0 (.slice none 0 0) 1 24 Try.underlying32 hi hz0 hz1' hz2 rfl (by decide) v n _ hs hown ⟨g, 0, none⟩ 1 1 [z] hx rfl hcell (by
      intro u hu
      simp at hu
      subst hu
      obtain ⟨p, m, c, rfl⟩ := hz1
      rfl) (by unfold maxLen; omega) (by omega)
    (fun v' w' h1 h2 h3 => hK _ _ (h v' w' h1 h2 h3))
  have hw : Region.wanted o (yielded ops a.tmps) = true := by simp [Region.wanted, hgd]
  rw [if_pos hw] at key
  exact key

end Go.Proofs.Ytlnkflmnjkmhkaa

/-
  Contracts of symhead.zeros and vecs: of nothing, of one.
-/
namespace Go.Proofs.Ytlnkflmnjkmhkaa
open Go.RowKit Go.Maps

set_option maxRecDepth 100000 in
set_option maxHeartbeats 400000 in
theorem zeros_nil (W : World) : Calls Try.prog 147 #[.slice none 0 0] W fun e w' => e = .returned (.slice none 0 0) ∧ W = w' := by
  go_enter Try.func147, Try.ntmps147
  go_wp2_with fail
  go_loop [2, 7] (fun v i => i = .int .i64 0 ∧ v = .slice none 0 0) (fun _ _ => 0)
  case atStart => exact ⟨rfl, rfl⟩
  case round =>
    obtain ⟨rfl, rfl⟩ := hrel
    go_wp2_with fail
    go_ret
    exact ⟨rfl, rfl⟩

def zero8 : List Int := [0, 0, 0, 0, 0, 0, 0, 0]
/-- Behind zeros of one width of eight: a row of one vector of eight noughts. -/
def ZerosR (w : World) (v : Value) (w' : World) : Prop := ∃ p c zv, v = .slice (some ⟨p, 0, none⟩) 1 c ∧ 1 ≤ c ∧ w.heap.size < p ∧ p < w'.heap.size ∧ w'.cell? ⟨p, 0, none⟩ = some zv ∧ zv = .slice (some ⟨w.heap.size, 0, none⟩) 8 8 ∧ IVec w' zv zero8 ∧ Below w.heap.size w w'

set_option maxRecDepth 100000 in
set_option maxHeartbeats 1600000 in
theorem zeros_one (gw : Nat) (w : World) (hc : w.cell? ⟨gw, 0, none⟩ = some (.int .i64 8)) :
    Calls Try.prog 147 #[.slice (some ⟨gw, 0, none⟩) 1 1] w fun e w' => ∃ v, e = .returned v ∧ ZerosR w v w' := by
  obtain ⟨i0, hi, hz0, hz1, hz2⟩ := info_parts Try.infoInt
  go_enter Try.func147, Try.ntmps147
  go_wp2_with fail
  go_loopw [2, 7] (fun v i wr => (i = .int .i64 0 ∧ v = .slice none 0 0 ∧ wr = w) ∨ (i = .int .i64 1 ∧ ∃ p q, v = .slice p 1 q ∧ Hid (ZerosR w (.slice p 1 q) wr))) (fun _ i _ => 1 - (intOf i).toNat)
  case atStart => exact .inl ⟨rfl, rfl, rfl⟩
  case round =>
    rcases hrel with ⟨rfl, rfl, rfl⟩ | ⟨rfl, p, q, rfl, HZ⟩
    · go_wp2_with (first
        | (at_make; refine wpList_make_full _ rfl _ _ 34 rfl wr.heap.size 3 i0 (.int .i64 0) 1 Try.underlying34 hi hz0 hz1 .i64 .i64 _ _ 8 rfl rfl rfl rfl (by rw [hz2]; omega) (by unfold maxLen; omega) (Nat.le_refl _) ?_; intro w2 hown0 hgrow0; rw [toList_madeCells_zero] at hown0; have hb0 : Below wr.heap.size wr w2 := (Below.refl _ _).grown hgrow0 (Nat.le_refl _) (fun k h => by cases h); have hlt0 := (hown0.lt wr.heap.size rfl).2; have hcell : (w2.alloc (.cells #[.slice (some ⟨wr.heap.size, 0, none⟩) 8 8] 34)).cell? ⟨w2.heap.size, 0, none⟩ = some (.slice (some ⟨wr.heap.size, 0, none⟩) 8 8) := by simp [go_sem]
           have HNIL : Hid ((w2.alloc (.cells #[.slice (some ⟨wr.heap.size, 0, none⟩) 8 8] 34)).ownsRow 0 34 1 (.slice none 0 0) 0 []) := ⟨rfl, .inl ⟨rfl, rfl⟩⟩
           have hiv0 : IVec w2 (.slice (some ⟨wr.heap.size, 0, none⟩) 8 8) zero8 := IVec.of_owns rfl hown0)
        | (at_builtin; refine append_vec1 rfl (.tmp 11) (.tmp 15) rfl (.slice none 0 0) 0 [] rfl HNIL.out w2.heap.size (.slice (some ⟨wr.heap.size, 0, none⟩) 8 8) ⟨_, _, _, rfl⟩ rfl hcell (by omega) ?_; intro v6 w6 hown6 hgrow6 hwh6; obtain ⟨p6, c6, hv6, hvl6⟩ := own_shape hown6; subst hv6))
      have HK : Hid (ZerosR wr (.slice p6 (0 + 1) c6) w6) := by
        have hown6' := hown6
        obtain ⟨-, ⟨e, -⟩ | ⟨g, cap, cur, e, -, -, hle, -⟩⟩ := hown6'
        · simp at e
        · simp only [Value.slice.injEq, true_and] at e
          obtain ⟨rfl, rfl⟩ := e
          have hge : w2.heap.size + 1 ≤ g := by
            rcases hwh6 with q | q
            · cases q
            · simpa using q g rfl
          have hbz : Below wr.heap.size wr w6 := (hb0.alloc hb0.size _).grown hgrow6 (by have := hb0.size; simp; omega) (fun k h => by cases h)
          have hb26 : Below w2.heap.size w2 w6 := ((Below.refl w2.heap.size w2).alloc (Nat.le_refl _) _).grown hgrow6 (by simp) (fun k h => by cases h)
          refine ⟨g, c6, _, rfl, by omega, by have := hb0.size; omega, (hown6.lt g rfl).2, ?_, rfl, hiv0.below hb26, hbz⟩
          rw [hown6.cellAt 0 (by omega)]
          rfl
      clear hown6 hgrow6 hwh6 hcell hown0 hgrow0 hb0 hlt0 hiv0
      go_roundw
      case rel => exact .inr ⟨by go_num, p6, c6, rfl, HK⟩
      case measure => simp [intOf]
    · go_wp2_with fail
      go_ret
      exact ⟨_, rfl, HZ.out⟩

theorem Try.infoVecZ : (Try.prog.info? 34).map (fun i => (i.zero, i.size, i.bytes)) = some (some (.slice none 0 0), 1, 24) := by kernel_rfl

set_option maxRecDepth 100000 in
set_option maxHeartbeats 1600000 in
theorem vecs_nil (p : Option Addr) (c : Nat) (w : World) :
    Calls Try.prog 146 #[.slice p 0 c] w fun e w' => e = .returned (.slice (some ⟨w.heap.size, 0, none⟩) 0 0) ∧ Below w.heap.size w w' := by
  obtain ⟨i0, hi, hz0, hz1, hz2⟩ := info_parts Try.infoVecZ
  go_enter Try.func146, Try.ntmps146
  go_wp2_with (first
    | (at_make; refine wpList_make_full _ rfl _ _ 32 rfl w.heap.size 34 i0 (.slice none 0 0) 1 Try.underlying32 hi hz0 hz1 .i64 .i64 _ _ 0 rfl rfl rfl rfl (by rw [hz2]; omega) (by unfold maxLen; omega) (Nat.le_refl _) ?_; intro w2 hown0 hgrow0))
  have hb0 : Below w.heap.size w w2 := (Below.refl _ _).grown hgrow0 (Nat.le_refl _) (fun k h => by cases h)
  have HB := Lib.hid hb0
  clear hown0 hgrow0 hb0
  go_loop [11] (fun i => i = .int .i64 0) (fun _ => 0)
  case atStart => exact rfl
  case round =>
    obtain rfl := hrel
    go_wp2_with fail
    go_ret
    exact ⟨rfl, HB.out⟩

/-- Behind vecs of one vector: a row of one vector, both in new memory. -/
def VecsR (w : World) (xs : List Int) (e : Ending) (w' : World) : Prop := e = .returned (.slice (some ⟨w.heap.size, 0, none⟩) 1 1) ∧ (∃ rv, w'.cell? ⟨w.heap.size, 0, none⟩ = some rv ∧ w'.frozen? ⟨w.heap.size, 0, none⟩ = false ∧ w'.ownsRow (w.heap.size + 1) 3 1 rv xs.length (xs.map (Value.int .i64))) ∧ Below w.heap.size w w'

set_option maxRecDepth 100000 in
set_option maxHeartbeats 1600000 in
theorem vecs_one (r rc n ca : Nat) (a : Addr) (xs : List Int) (w : World) (hn : xs.length = n) (hc : w.cell? ⟨r, 0, none⟩ = some (.slice (some a) n ca)) (ha : IVec w (.slice (some a) n ca) xs) (hrc : 1 ≤ rc) (hxl : xs.length ≤ 1000000) :
    Calls Try.prog 146 #[.slice (some ⟨r, 0, none⟩) 1 rc] w (VecsR w xs) := by
  obtain ⟨i0, hi, hz0, hz1, hz2⟩ := info_parts Try.infoVecZ
  have hrl := (cell_there hc).1
  have HCL : Hid (∀ W, Below w.heap.size w W → Calls Try.prog 123 #[.slice (some a) n ca] W (RetVecO W xs)) := fun W hW => cloneV_any a n ca xs W hn (ha.below hW) hxl
  clear ha
  go_enter Try.func146, Try.ntmps146
  go_wp2_with (first
    | (at_make; refine wpList_make_full _ rfl _ _ 32 rfl w.heap.size 34 i0 (.slice none 0 0) 1 Try.underlying32 hi hz0 hz1 .i64 .i64 _ _ 1 rfl rfl rfl rfl (by rw [hz2]; omega) (by unfold maxLen; omega) (Nat.le_refl _) ?_; intro w2 hown0 hgrow0))
  have hb0 : Below w.heap.size w w2 := (Below.refl _ _).grown hgrow0 (Nat.le_refl _) (fun k h => by cases h)
  have hc2 := (hb0.cell (p := ⟨r, 0, none⟩) hrl).trans hc
  have hlt := (hown0.lt _ rfl).2
  have HOW := Lib.hid hown0
  have HB := Lib.hid hb0
  clear hown0 hgrow0 hb0 hc
  go_loopw [11] (fun i wr => (i = .int .i64 0 ∧ wr = w2) ∨ (i = .int .i64 1 ∧ Hid (VecsR w xs (.returned (.slice (some ⟨w.heap.size, 0, none⟩) 1 1)) wr))) (fun i _ => 1 - (intOf i).toNat)
  case atStart => exact .inl ⟨rfl, rfl⟩
  case round =>
    rcases hrel with ⟨rfl, rfl⟩ | ⟨rfl, HV⟩
    · go_wp2_with fail
      refine (HCL.out _ HB.out).mono ?_
      rintro e w3 ⟨rv, rfl, hown, hb3⟩
      rw [hn] at hown
      obtain ⟨pv, cv, hsh, -⟩ := own_shape hown
      subst hsh
      have how3 := own_below HOW.out hb3
      have z1 : ∃ x, w3.cell? ⟨w.heap.size, 0, none⟩ = some x := by rw [how3.cellAt 0 (by omega)]; exact ⟨_, List.getElem?_eq_getElem (by rw [how3.1]; omega)⟩
      obtain ⟨x, z1⟩ := z1
      have z2 := how3.frozenAt 0
      have hst := (how3.stored 0 (.slice pv n cv)).1
      have HK : Hid (VecsR w xs (.returned (.slice (some ⟨w.heap.size, 0, none⟩) 1 1)) (w3.setCell ⟨w.heap.size, 0, none⟩ (.slice pv n cv))) := by
        have hs2 := HB.out.size
        have hge : ∀ k, (Value.slice pv n cv).ownBlock = some k → w.heap.size + 1 ≤ k := fun k hk => by have := (hown.lt k hk).1; omega
        refine ⟨rfl, ⟨.slice pv n cv, ?_, hst.frozenAt 0, by rw [hn]; exact ownsRow_mono (own_setCell hown (fun e => by have := hge _ e; omega) _) (by omega)⟩, (HB.out.trans (hb3.mono hs2)).setCell (Nat.le_refl _) _⟩
        rw [hst.cellAt 0 (by omega)]
        simp [madeCells]
      clear hown hb3 how3 hst
      go_wp2_with fail
      go_roundw
      case rel => exact .inr ⟨by go_num, HK⟩
      case measure => simp [intOf]
    · go_wp2_with fail
      go_ret
      exact HV.out

end Go.Proofs.Ytlnkflmnjkmhkaa
