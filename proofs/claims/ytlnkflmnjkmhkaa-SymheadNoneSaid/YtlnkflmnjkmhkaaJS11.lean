/-
  The regions of symhead.Take that draw their order.
-/
import Derived.Test.YtlnkflmnjkmhkaaJS07

namespace Go.Proofs.Ytlnkflmnjkmhkaa
open Go.RowKit Go.Maps

def take17S (gx lo q ac : Nat) (al : Addr) (ph : Nat → (Nat → Value) → World → Prop) : StQ := ⟨[.eq (.pointer (some ⟨gx, 4, none⟩)), .eq (.slice (some ⟨lo, 0, none⟩) 1 1), .eq (.int .i64 0), .eq (.pointer (some ⟨lo, 0, none⟩)), .eq (.slice (some ⟨q, 0, none⟩) 1 1), .eq (.int .i64 0), .eq (.slice (some al) 8 ac), .eq (.slice (some al) 8 ac), .eq (.int .i64 8), .eq (.int .i64 7), .eq (.slice (some al) 8 ac), .eq (.int .i64 8), .eq (.int .i64 8), .eq (.int .i64 0), .free, .eq (.int .i64 8), .free, .eq (.pointer (some ⟨q, 0, none⟩)), .free], [14, 16, 18], [[], [], [1, 4]], ph⟩

theorem take17A : ∀ j, j < 3 → ([14, 16, 18] : List Nat).getD j 0 < 19 := by decide
theorem take17N : ∀ a b, a < 3 → b < 3 → ([14, 16, 18] : List Nat).getD a 0 = ([14, 16, 18] : List Nat).getD b 0 → a = b := by
  intro a b ha hb
  have h : ∀ a, a < 3 → ∀ b, b < 3 → ([14, 16, 18] : List Nat).getD a 0 = ([14, 16, 18] : List Nat).getD b 0 → a = b := by decide
  exact h a ha b hb
theorem take17K (gx lo q ac : Nat) (al : Addr) (ph : Nat → (Nat → Value) → World → Prop) : ∀ (m : Nat) (P : World → Value → Prop), (take17S gx lo q ac al ph).kd[m]? = some (Kq.new P) → False := by
  intro m P h
  match m, h with
  | 0, h => simp [take17S] at h
  | 1, h => simp [take17S] at h
  | 2, h => simp [take17S] at h
  | 3, h => simp [take17S] at h
  | 4, h => simp [take17S] at h
  | 5, h => simp [take17S] at h
  | 6, h => simp [take17S] at h
  | 7, h => simp [take17S] at h
  | 8, h => simp [take17S] at h
  | 9, h => simp [take17S] at h
  | 10, h => simp [take17S] at h
  | 11, h => simp [take17S] at h
  | 12, h => simp [take17S] at h
  | 13, h => simp [take17S] at h
  | 14, h => simp [take17S] at h
  | 15, h => simp [take17S] at h
  | 16, h => simp [take17S] at h
  | 17, h => simp [take17S] at h
  | 18, h => simp [take17S] at h
  | m + 19, h => simp [take17S] at h

set_option maxRecDepth 100000 in
set_option maxHeartbeats 6000000 in
theorem take17 (gx lo q ac : Nat) (al : Addr) (ph : Nat → (Nat → Value) → World → Prop) (WB : World)
    (HF : Hid (StQ.Fine (take17S gx lo q ac al ph))) (H0 : Hid (∀ f, ph 0 f WB))
    (HC0 : Hid (∀ k f W, k ≤ 2 → ph k f W → W.cell? ⟨gx, 4, none⟩ = some (.slice (some ⟨lo, 0, none⟩) 1 1) ∧ W.cell? ⟨lo, 0, none⟩ = some (.slice (some ⟨q, 0, none⟩) 1 1)))
    (HA0 : Hid (∀ f W, ph 0 f W → Calls Try.prog 28 #[.slice (some al) 8 ac, .int .i64 7, .int .i64 0] W fun e w' => ∃ v, e = .returned v ∧ ph 1 (fun m => if m = 0 then v else f m) w' ∧ Below W.heap.size W w'))
    (HA1 : Hid (∀ f W, ph 1 f W → Calls Try.prog 29 #[f 0, .int .i64 8] W fun e w' => ∃ v, e = .returned v ∧ ph 2 (fun m => if m = 1 then v else f m) w' ∧ Below W.heap.size W w'))
    (HA2 : Hid (∀ f W, ph 2 f W → ((∃ sp sm sc, f 1 = .slice sp sm sc) ∧ (∃ y, W.cell? ⟨q, 0, none⟩ = some y) ∧ W.frozen? ⟨q, 0, none⟩ = false ∧ ph 3 (fun m => if m = 2 then undef else f m) (W.setCell ⟨q, 0, none⟩ (f 1)))))
    (c0 c1 c2 c4 c5 c7 c8 c9 c10 c11 c12 c14 c15 c18 c19 c20 c21 c22 c23 c24 c25 c26 c27 c28 c29 c30 c31 c32 c33 c34 c35 c36 c37 c38 c39 c40 c41 c42 c43 c44 c45 c46 c47 c48 c49 c50 c51 c52 c53 c54 c55 c56 c57 c58 c59 c60 c61 c62 c63 c64 c65 c66 c67 c68 c69 c70 c71 c72 c73 c74 c75 c76 c77 c78 c79 c80 c81 c82 c83 c84 c85 c86 c87 c88 c89 c90 c91 c92 c93 c94 c95 c96 c97 c98 c99 c100 c101 c102 c103 c104 c105 c106 c107 c108 c109 c110 c111 c112 c113 c114 c115 c116 c117 c118 c119 c120 c121 c122 c123 c124 c125 c126 c127 c128 c129 c130 c131 : Value) (Q : Exit → Act → World → Prop)
    (hexit : ∀ (u0 u1 u2 u3 u4 u5 u6 u7 u8 u9 u10 u11 u12 u13 u14 u15 u16 u17 : Value) (w' : World), ph 3 ((take17S gx lo q ac al ph).vals [u0, u1, u2, u3, u4, u5, u6, u7, u8, u9, u10, u11, u12, u13, u14, u15, u16, u17, undef]) w' → Q .normal ⟨#[c0, c1, c2, .int .i64 0, c4, c5, .pointer (some ⟨gx, 0, none⟩), c7, c8, c9, c10, c11, c12, .slice (some al) 8 ac, c14, c15, .int .i64 0, .int .i64 8, c18, c19, c20, c21, c22, c23, c24, c25, c26, c27, c28, c29, c30, c31, c32, c33, c34, c35, c36, c37, c38, c39, c40, c41, c42, c43, c44, c45, c46, c47, c48, c49, c50, c51, c52, c53, c54, c55, c56, c57, c58, c59, c60, c61, c62, c63, c64, c65, c66, c67, c68, c69, c70, c71, c72, c73, c74, c75, c76, c77, c78, c79, c80, u0, u1, u2, u3, u4, u5, u6, u7, u8, u9, u10, u11, u12, u13, u14, u15, u16, u17, c99, c100, c101, c102, c103, c104, c105, c106, c107, c108, c109, c110, c111, c112, c113, c114, c115, c116, c117, c118, c119, c120, c121, c122, c123, c124, c125, c126, c127, c128, c129, c130, c131], []⟩ w') :
    Code.wp Try.prog ((Try.f61.body.bind (findRegion 17)).getD .skip) Q ⟨#[c0, c1, c2, .int .i64 0, c4, c5, .pointer (some ⟨gx, 0, none⟩), c7, c8, c9, c10, c11, c12, .slice (some al) 8 ac, c14, c15, .int .i64 0, .int .i64 8, c18, c19, c20, c21, c22, c23, c24, c25, c26, c27, c28, c29, c30, c31, c32, c33, c34, c35, c36, c37, c38, c39, c40, c41, c42, c43, c44, c45, c46, c47, c48, c49, c50, c51, c52, c53, c54, c55, c56, c57, c58, c59, c60, c61, c62, c63, c64, c65, c66, c67, c68, c69, c70, c71, c72, c73, c74, c75, c76, c77, c78, c79, c80, c81, c82, c83, c84, c85, c86, c87, c88, c89, c90, c91, c92, c93, c94, c95, c96, c97, c98, c99, c100, c101, c102, c103, c104, c105, c106, c107, c108, c109, c110, c111, c112, c113, c114, c115, c116, c117, c118, c119, c120, c121, c122, c123, c124, c125, c126, c127, c128, c129, c130, c131], []⟩ WB := by
  dsimp only at hexit ⊢
  conv => arg 2; whnf
  have HEX := Lib.hid hexit
  clear hexit
  have hF := HF.out
  refine wp_region_inv2 (by kernel_rfl) (fun L a' w' => ∃ u0 u1 u2 u3 u4 u5 u6 u7 u8 u9 u10 u11 u12 u13 u14 u15 u16 u17 : Value, a' = ⟨#[c0, c1, c2, .int .i64 0, c4, c5, .pointer (some ⟨gx, 0, none⟩), c7, c8, c9, c10, c11, c12, .slice (some al) 8 ac, c14, c15, .int .i64 0, .int .i64 8, c18, c19, c20, c21, c22, c23, c24, c25, c26, c27, c28, c29, c30, c31, c32, c33, c34, c35, c36, c37, c38, c39, c40, c41, c42, c43, c44, c45, c46, c47, c48, c49, c50, c51, c52, c53, c54, c55, c56, c57, c58, c59, c60, c61, c62, c63, c64, c65, c66, c67, c68, c69, c70, c71, c72, c73, c74, c75, c76, c77, c78, c79, c80, u0, u1, u2, u3, u4, u5, u6, u7, u8, u9, u10, u11, u12, u13, u14, u15, u16, u17, c99, c100, c101, c102, c103, c104, c105, c106, c107, c108, c109, c110, c111, c112, c113, c114, c115, c116, c117, c118, c119, c120, c121, c122, c123, c124, c125, c126, c127, c128, c129, c130, c131], []⟩ ∧ L.size = 19 ∧ RQ (take17S gx lo q ac al ph) L [u0, u1, u2, u3, u4, u5, u6, u7, u8, u9, u10, u11, u12, u13, u14, u15, u16, u17, undef] w') ?_ ?_ ?_ ?_
  · exact ⟨_, _, _, _, _, _, _, _, _, _, _, _, _, _, _, _, _, _, rfl, by simp, RQ.init (fun i => did_none _ _) (fun f => hF.later 0 f _ _ (H0.out f) (below_drewN (Below.refl _ _) 1))⟩
  · rintro L a' w' i hL hi hnd hdep ⟨u0, u1, u2, u3, u4, u5, u6, u7, u8, u9, u10, u11, u12, u13, u14, u15, u16, u17, rfl, hLn, hI⟩
    dsimp only
    have hsz : ∀ i, (L.setIfInBounds i true).size = 19 := fun i => by simpa using hLn
    have hL19 : L.size = 19 := hL
    have HI := Lib.hid hI
    clear hI
    match i, hi with
    | 0, _ =>
      have HN := Lib.hid hnd
      clear hdep hnd
      refine wpOp_step rfl (fun K' hK => ?_)
      go_simp
      exact hK _ _ ⟨_, _, _, _, _, _, _, _, _, _, _, _, _, _, _, _, _, _, rfl, hsz _, HI.out.val 0 _ hF HN.out rfl (Below.refl _ _) (by show 0 < 19; omega) rfl⟩
    | 1, _ =>
      have HN := Lib.hid hnd
      have q0 := (HI.out.got 0 (hdep _ rfl ⟨0, .data⟩ (by simp) (by kernel_rfl)) rfl).symm
      subst q0
      obtain ⟨kk, hkk, hph⟩ := HI.out.early 2 1 HN.out rfl (by simp)
      obtain ⟨z0, z1⟩ := HC0.out _ _ _ hkk hph
      clear hph hkk
      clear hdep hnd
      refine wpOp_step rfl (fun K' hK => ?_)
      go_simp
      exact hK _ _ ⟨_, _, _, _, _, _, _, _, _, _, _, _, _, _, _, _, _, _, rfl, hsz _, HI.out.val 1 _ hF HN.out rfl (Below.refl _ _) (by show 1 < 19; omega) rfl⟩
    | 2, _ =>
      have HN := Lib.hid hnd
      clear hdep hnd
      refine wpOp_step rfl (fun K' hK => ?_)
      go_simp
      exact hK _ _ ⟨_, _, _, _, _, _, _, _, _, _, _, _, _, _, _, _, _, _, rfl, hsz _, HI.out.val 2 _ hF HN.out rfl (Below.refl _ _) (by show 2 < 19; omega) rfl⟩
    | 3, _ =>
      have HN := Lib.hid hnd
      have q1 := (HI.out.got 1 (hdep _ rfl ⟨1, .data⟩ (by simp) (by kernel_rfl)) rfl).symm
      subst q1
      have q2 := (HI.out.got 2 (hdep _ rfl ⟨2, .data⟩ (by simp) (by kernel_rfl)) rfl).symm
      subst q2
      clear hdep hnd
      refine wpOp_step rfl (fun K' hK => ?_)
      go_simp
      exact hK _ _ ⟨_, _, _, _, _, _, _, _, _, _, _, _, _, _, _, _, _, _, rfl, hsz _, HI.out.val 3 _ hF HN.out rfl (Below.refl _ _) (by show 3 < 19; omega) rfl⟩
    | 4, _ =>
      have HN := Lib.hid hnd
      have q3 := (HI.out.got 3 (hdep _ rfl ⟨3, .data⟩ (by simp) (by kernel_rfl)) rfl).symm
      subst q3
      obtain ⟨kk, hkk, hph⟩ := HI.out.early 2 4 HN.out rfl (by simp)
      obtain ⟨z0, z1⟩ := HC0.out _ _ _ hkk hph
      clear hph hkk
      clear hdep hnd
      refine wpOp_step rfl (fun K' hK => ?_)
      go_simp
      exact hK _ _ ⟨_, _, _, _, _, _, _, _, _, _, _, _, _, _, _, _, _, _, rfl, hsz _, HI.out.val 4 _ hF HN.out rfl (Below.refl _ _) (by show 4 < 19; omega) rfl⟩
    | 5, _ =>
      have HN := Lib.hid hnd
      clear hdep hnd
      refine wpOp_step rfl (fun K' hK => ?_)
      go_simp
      exact hK _ _ ⟨_, _, _, _, _, _, _, _, _, _, _, _, _, _, _, _, _, _, rfl, hsz _, HI.out.val 5 _ hF HN.out rfl (Below.refl _ _) (by show 5 < 19; omega) rfl⟩
    | 6, _ =>
      have HN := Lib.hid hnd
      clear hdep hnd
      refine wpOp_step rfl (fun K' hK => ?_)
      go_simp
      exact hK _ _ ⟨_, _, _, _, _, _, _, _, _, _, _, _, _, _, _, _, _, _, rfl, hsz _, HI.out.val 6 _ hF HN.out rfl (Below.refl _ _) (by show 6 < 19; omega) rfl⟩
    | 7, _ =>
      have HN := Lib.hid hnd
      clear hdep hnd
      refine wpOp_step rfl (fun K' hK => ?_)
      go_simp
      exact hK _ _ ⟨_, _, _, _, _, _, _, _, _, _, _, _, _, _, _, _, _, _, rfl, hsz _, HI.out.val 7 _ hF HN.out rfl (Below.refl _ _) (by show 7 < 19; omega) rfl⟩
    | 8, _ =>
      have HN := Lib.hid hnd
      have q7 := (HI.out.got 7 (hdep _ rfl ⟨7, .data⟩ (by simp) (by kernel_rfl)) rfl).symm
      subst q7
      clear hdep hnd
      refine wpOp_step rfl (fun K' hK => ?_)
      go_simp
      exact hK _ _ ⟨_, _, _, _, _, _, _, _, _, _, _, _, _, _, _, _, _, _, rfl, hsz _, HI.out.val 8 _ hF HN.out rfl (Below.refl _ _) (by show 8 < 19; omega) rfl⟩
    | 9, _ =>
      have HN := Lib.hid hnd
      have q8 := (HI.out.got 8 (hdep _ rfl ⟨8, .data⟩ (by simp) (by kernel_rfl)) rfl).symm
      subst q8
      clear hdep hnd
      refine wpOp_step rfl (fun K' hK => ?_)
      go_simp
      exact hK _ _ ⟨_, _, _, _, _, _, _, _, _, _, _, _, _, _, _, _, _, _, rfl, hsz _, HI.out.val 9 _ hF HN.out rfl (Below.refl _ _) (by show 9 < 19; omega) rfl⟩
    | 10, _ =>
      have HN := Lib.hid hnd
      clear hdep hnd
      refine wpOp_step rfl (fun K' hK => ?_)
      go_simp
      exact hK _ _ ⟨_, _, _, _, _, _, _, _, _, _, _, _, _, _, _, _, _, _, rfl, hsz _, HI.out.val 10 _ hF HN.out rfl (Below.refl _ _) (by show 10 < 19; omega) rfl⟩
    | 11, _ =>
      have HN := Lib.hid hnd
      have q10 := (HI.out.got 10 (hdep _ rfl ⟨10, .data⟩ (by simp) (by kernel_rfl)) rfl).symm
      subst q10
      clear hdep hnd
      refine wpOp_step rfl (fun K' hK => ?_)
      go_simp
      exact hK _ _ ⟨_, _, _, _, _, _, _, _, _, _, _, _, _, _, _, _, _, _, rfl, hsz _, HI.out.val 11 _ hF HN.out rfl (Below.refl _ _) (by show 11 < 19; omega) rfl⟩
    | 12, _ =>
      have HN := Lib.hid hnd
      clear hdep hnd
      refine wpOp_step rfl (fun K' hK => ?_)
      go_simp
      exact hK _ _ ⟨_, _, _, _, _, _, _, _, _, _, _, _, _, _, _, _, _, _, rfl, hsz _, HI.out.val 12 _ hF HN.out rfl (Below.refl _ _) (by show 12 < 19; omega) rfl⟩
    | 13, _ =>
      have HN := Lib.hid hnd
      have q11 := (HI.out.got 11 (hdep _ rfl ⟨11, .data⟩ (by simp) (by kernel_rfl)) rfl).symm
      subst q11
      have q12 := (HI.out.got 12 (hdep _ rfl ⟨12, .data⟩ (by simp) (by kernel_rfl)) rfl).symm
      subst q12
      clear hdep hnd
      refine wpOp_step rfl (fun K' hK => ?_)
      go_simp
      exact hK _ _ ⟨_, _, _, _, _, _, _, _, _, _, _, _, _, _, _, _, _, _, rfl, hsz _, HI.out.val 13 _ hF HN.out rfl (Below.refl _ _) (by show 13 < 19; omega) rfl⟩
    | 14, _ =>
      have HN := Lib.hid hnd
      have q6 := (HI.out.got 6 (hdep _ rfl ⟨6, .data⟩ (by simp) (by kernel_rfl)) rfl).symm
      subst q6
      have q9 := (HI.out.got 9 (hdep _ rfl ⟨9, .data⟩ (by simp) (by kernel_rfl)) rfl).symm
      subst q9
      have q13 := (HI.out.got 13 (hdep _ rfl ⟨13, .data⟩ (by simp) (by kernel_rfl)) rfl).symm
      subst q13
      obtain ⟨hp, hput⟩ := HI.out.act 0 14 hF (by show 0 < 3; omega) rfl HN.out (fun m hm => by omega)
      have HDS : Hid (∀ ds, (take17S gx lo q ac al ph).dep[0]? = some ds → ∀ m ∈ ds, did L m = true) := fun ds hds m hm => by
        obtain rfl : [] = ds := by simpa [take17S] using hds
        simp at hm
        
      have HP := Lib.hid hput
      clear hput hdep hnd
      have HCA := Lib.hid (HA0.out _ _ hp)
      clear hp
      refine wpOp_step rfl (fun K' hK => ?_)
      go_simp
      refine HCA.out.mono ?_
      rintro e w1 ⟨v, rfl, hp1, hbl⟩
      exact hK _ _ ⟨_, _, _, _, _, _, _, _, _, _, _, _, _, _, _, _, _, _, rfl, hsz _, HP.out v w1 (by omega) (by show 14 < 19; omega) (take17N) (fun e he => by cases he; trivial) HDS.out (fun m P hm _ hu => hF.new m P hm _ _ _ hu hbl) hp1⟩
    | 15, _ =>
      have HN := Lib.hid hnd
      clear hdep hnd
      refine wpOp_step rfl (fun K' hK => ?_)
      go_simp
      exact hK _ _ ⟨_, _, _, _, _, _, _, _, _, _, _, _, _, _, _, _, _, _, rfl, hsz _, HI.out.val 15 _ hF HN.out rfl (Below.refl _ _) (by show 15 < 19; omega) rfl⟩
    | 16, _ =>
      have HN := Lib.hid hnd
      have q15 := (HI.out.got 15 (hdep _ rfl ⟨15, .data⟩ (by simp) (by kernel_rfl)) rfl).symm
      subst q15
      have hpv := hdep _ rfl ⟨14, .data⟩ (by simp) (by kernel_rfl)
      obtain ⟨hp, hput⟩ := HI.out.act 1 16 hF (by show 1 < 3; omega) rfl HN.out (fun m hm => by have e : m = 0 := (by omega); subst e; exact hpv)
      have HDS : Hid (∀ ds, (take17S gx lo q ac al ph).dep[1]? = some ds → ∀ m ∈ ds, did L m = true) := fun ds hds m hm => by
        obtain rfl : [] = ds := by simpa [take17S] using hds
        simp at hm
        
      have HP := Lib.hid hput
      clear hput hdep hnd hpv
      have HCA := Lib.hid (HA1.out _ _ hp)
      clear hp
      refine wpOp_step rfl (fun K' hK => ?_)
      go_simp
      refine HCA.out.mono ?_
      rintro e w1 ⟨v, rfl, hp1, hbl⟩
      exact hK _ _ ⟨_, _, _, _, _, _, _, _, _, _, _, _, _, _, _, _, _, _, rfl, hsz _, HP.out v w1 (by omega) (by show 16 < 19; omega) (take17N) (fun e he => by cases he; trivial) HDS.out (fun m P hm _ hu => hF.new m P hm _ _ _ hu hbl) hp1⟩
    | 17, _ =>
      have HN := Lib.hid hnd
      have q4 := (HI.out.got 4 (hdep _ rfl ⟨4, .data⟩ (by simp) (by kernel_rfl)) rfl).symm
      subst q4
      have q5 := (HI.out.got 5 (hdep _ rfl ⟨5, .data⟩ (by simp) (by kernel_rfl)) rfl).symm
      subst q5
      clear hdep hnd
      refine wpOp_step rfl (fun K' hK => ?_)
      go_simp
      exact hK _ _ ⟨_, _, _, _, _, _, _, _, _, _, _, _, _, _, _, _, _, _, rfl, hsz _, HI.out.val 17 _ hF HN.out rfl (Below.refl _ _) (by show 17 < 19; omega) rfl⟩
    | 18, _ =>
      have HN := Lib.hid hnd
      have q17 := (HI.out.got 17 (hdep _ rfl ⟨17, .data⟩ (by simp) (by kernel_rfl)) rfl).symm
      subst q17
      have hpv := hdep _ rfl ⟨16, .data⟩ (by simp) (by kernel_rfl)
      have hd1 := hdep _ rfl ⟨1, .phase⟩ (by simp) (by kernel_rfl)
      have hd4 := hdep _ rfl ⟨4, .phase⟩ (by simp) (by kernel_rfl)
      obtain ⟨hp, hput⟩ := HI.out.act 2 18 hF (by show 2 < 3; omega) rfl HN.out (fun m hm => by have e : m = 1 := (by omega); subst e; exact hpv)
      have HDS : Hid (∀ ds, (take17S gx lo q ac al ph).dep[2]? = some ds → ∀ m ∈ ds, did L m = true) := fun ds hds m hm => by
        obtain rfl : [1, 4] = ds := by simpa [take17S] using hds
        simp at hm
        rcases hm with rfl | rfl <;> assumption
      have HP := Lib.hid hput
      clear hput hdep hnd hpv hd1 hd4
      obtain ⟨⟨sp, sm, sc, hsh⟩, ⟨y, hy⟩, hfz, hp1⟩ := HA2.out _ _ hp
      have hsh : u16 = .slice sp sm sc := hsh
      subst hsh
      clear hp
      have HP1 := Lib.hid hp1
      clear hp1
      refine wpOp_step rfl (fun K' hK => ?_)
      go_simp
      exact hK _ _ ⟨_, _, _, _, _, _, _, _, _, _, _, _, _, _, _, _, _, _, rfl, hsz _, HP.out undef _ (by omega) (by show 18 < 19; omega) (take17N) (fun e he => by cases he; trivial) HDS.out (fun m P hm _ _ => (take17K gx lo q ac al ph m P hm).elim) HP1.out⟩
    | i + 19, hi => exact absurd hi (by show ¬ (i + 19 < 19); omega)
  · intro i o ho e he hb
    match i, ho with
    | 0, ho => cases ho; simp at he
    | 1, ho => cases ho; simp at he; subst he; first | (simp; done) | (exact absurd hb (by decide))
    | 2, ho => cases ho; simp at he
    | 3, ho => cases ho; simp at he; rcases he with rfl | rfl <;> first | (simp; done) | (exact absurd hb (by decide))
    | 4, ho => cases ho; simp at he; subst he; first | (simp; done) | (exact absurd hb (by decide))
    | 5, ho => cases ho; simp at he
    | 6, ho => cases ho; simp at he
    | 7, ho => cases ho; simp at he
    | 8, ho => cases ho; simp at he; subst he; first | (simp; done) | (exact absurd hb (by decide))
    | 9, ho => cases ho; simp at he; subst he; first | (simp; done) | (exact absurd hb (by decide))
    | 10, ho => cases ho; simp at he
    | 11, ho => cases ho; simp at he; subst he; first | (simp; done) | (exact absurd hb (by decide))
    | 12, ho => cases ho; simp at he
    | 13, ho => cases ho; simp at he; rcases he with rfl | rfl <;> first | (simp; done) | (exact absurd hb (by decide))
    | 14, ho => cases ho; simp at he; rcases he with rfl | rfl | rfl <;> first | (simp; done) | (exact absurd hb (by decide))
    | 15, ho => cases ho; simp at he
    | 16, ho => cases ho; simp at he; rcases he with rfl | rfl | rfl <;> first | (simp; done) | (exact absurd hb (by decide))
    | 17, ho => cases ho; simp at he; rcases he with rfl | rfl | rfl | rfl | rfl | rfl | rfl | rfl | rfl | rfl | rfl | rfl | rfl | rfl | rfl | rfl | rfl | rfl | rfl <;> first | (simp; done) | (exact absurd hb (by decide))
    | 18, ho => cases ho; simp at he; rcases he with rfl | rfl | rfl | rfl | rfl | rfl | rfl | rfl | rfl | rfl | rfl | rfl | rfl | rfl | rfl | rfl | rfl | rfl | rfl | rfl <;> first | (simp; done) | (exact absurd hb (by decide))
    | i + 19, ho => simp at ho
  · rintro L a' w' hall ⟨u0, u1, u2, u3, u4, u5, u6, u7, u8, u9, u10, u11, u12, u13, u14, u15, u16, u17, rfl, hLn, hI⟩
    exact HEX.out u0 u1 u2 u3 u4 u5 u6 u7 u8 u9 u10 u11 u12 u13 u14 u15 u16 u17 w' (hI.ends fun j hj => hall _ (take17A j hj))

def take21S (gx b vb vc r : Nat) (ph : Nat → (Nat → Value) → World → Prop) : StQ := ⟨[.eq (.pointer (some ⟨gx, 3, none⟩)), .eq (.slice (some ⟨vb, 0, none⟩) 1 vc), .eq (.int .i64 0), .eq (.pointer (some ⟨gx, 2, none⟩)), .eq (.slice (some ⟨r, 0, none⟩) 1 1), .eq (.int .i64 1), .eq (.slice (some ⟨r, 0, none⟩) 0 0), .eq (.pointer (some ⟨b, 0, none⟩)), .eq (.int .i64 1), .eq (.pointer (some ⟨b, 0, none⟩)), .eq (.int .i64 0), .free, .free, .eq (.pointer (some ⟨gx, 2, none⟩)), .free, .eq (.pointer (some ⟨vb, 0, none⟩)), .free, .eq (.pointer (some ⟨gx, 0, none⟩)), .free], [11, 12, 14, 16, 18], [[], [], [1, 4], [], []], ph⟩

theorem take21A : ∀ j, j < 5 → ([11, 12, 14, 16, 18] : List Nat).getD j 0 < 19 := by decide
theorem take21N : ∀ a b, a < 5 → b < 5 → ([11, 12, 14, 16, 18] : List Nat).getD a 0 = ([11, 12, 14, 16, 18] : List Nat).getD b 0 → a = b := by
  intro a b ha hb
  have h : ∀ a, a < 5 → ∀ b, b < 5 → ([11, 12, 14, 16, 18] : List Nat).getD a 0 = ([11, 12, 14, 16, 18] : List Nat).getD b 0 → a = b := by decide
  exact h a ha b hb
theorem take21K (gx b vb vc r : Nat) (ph : Nat → (Nat → Value) → World → Prop) : ∀ (m : Nat) (P : World → Value → Prop), (take21S gx b vb vc r ph).kd[m]? = some (Kq.new P) → False := by
  intro m P h
  match m, h with
  | 0, h => simp [take21S] at h
  | 1, h => simp [take21S] at h
  | 2, h => simp [take21S] at h
  | 3, h => simp [take21S] at h
  | 4, h => simp [take21S] at h
  | 5, h => simp [take21S] at h
  | 6, h => simp [take21S] at h
  | 7, h => simp [take21S] at h
  | 8, h => simp [take21S] at h
  | 9, h => simp [take21S] at h
  | 10, h => simp [take21S] at h
  | 11, h => simp [take21S] at h
  | 12, h => simp [take21S] at h
  | 13, h => simp [take21S] at h
  | 14, h => simp [take21S] at h
  | 15, h => simp [take21S] at h
  | 16, h => simp [take21S] at h
  | 17, h => simp [take21S] at h
  | 18, h => simp [take21S] at h
  | m + 19, h => simp [take21S] at h

set_option maxRecDepth 100000 in
set_option maxHeartbeats 6000000 in
theorem take21 (gx b vb vc r : Nat) (ph : Nat → (Nat → Value) → World → Prop) (WB : World)
    (HF : Hid (StQ.Fine (take21S gx b vb vc r ph))) (H0 : Hid (∀ f, ph 0 f WB))
    (HC0 : Hid (∀ k f W, k ≤ 2 → ph k f W → W.cell? ⟨gx, 3, none⟩ = some (.slice (some ⟨vb, 0, none⟩) 1 vc) ∧ W.cell? ⟨gx, 2, none⟩ = some (.slice (some ⟨r, 0, none⟩) 1 1)))
    (HA0 : Hid (∀ f W, ph 0 f W → Calls Try.prog 85 #[.pointer (some ⟨b, 0, none⟩), .int .i64 0] W fun e w' => ∃ v, e = .returned v ∧ ph 1 (fun m => if m = 0 then v else f m) w'))
    (HA1 : Hid (∀ f W, ph 1 f W → Calls Try.prog 82 #[.pointer (some ⟨b, 0, none⟩), .int .i64 1, f 0] W fun e w' => ∃ v, e = .returned v ∧ ph 2 (fun m => if m = 1 then v else f m) w'))
    (HA2 : Hid (∀ f W, ph 2 f W → ((∃ y, W.cell? ⟨gx, 2, none⟩ = some y) ∧ W.frozen? ⟨gx, 2, none⟩ = false ∧ ph 3 (fun m => if m = 2 then undef else f m) (W.setCell ⟨gx, 2, none⟩ (.slice (some ⟨r, 0, none⟩) 0 0)))))
    (HA3 : Hid (∀ f W, ph 3 f W → ((∃ y, W.cell? ⟨vb, 0, none⟩ = some y) ∧ W.frozen? ⟨vb, 0, none⟩ = false ∧ ph 4 (fun m => if m = 3 then undef else f m) (W.setCell ⟨vb, 0, none⟩ (.int .i64 1)))))
    (HA4 : Hid (∀ f W, ph 4 f W → ((∃ sn : Int, f 1 = .int .i64 sn) ∧ (∃ y, W.cell? ⟨gx, 0, none⟩ = some y) ∧ W.frozen? ⟨gx, 0, none⟩ = false ∧ ph 5 (fun m => if m = 4 then undef else f m) (W.setCell ⟨gx, 0, none⟩ (f 1)))))
    (c0 c2 c4 c5 c7 c8 c10 c11 c13 c14 c15 c16 c17 c19 c20 c21 c22 c23 c24 c25 c26 c27 c28 c29 c30 c31 c32 c33 c34 c35 c36 c37 c38 c39 c40 c41 c42 c43 c44 c45 c46 c47 c48 c49 c50 c51 c52 c53 c54 c55 c56 c57 c58 c59 c60 c61 c62 c63 c64 c65 c66 c67 c68 c69 c70 c71 c72 c73 c74 c75 c76 c77 c78 c79 c80 c81 c82 c83 c84 c85 c86 c87 c88 c89 c90 c91 c92 c93 c94 c95 c96 c97 c98 c99 c100 c101 c102 c103 c104 c105 c106 c107 c108 c109 c110 c111 c112 c113 c114 c115 c116 c117 c118 c119 c120 c121 c122 c123 c124 c125 c126 c127 c128 c129 c130 c131 : Value) (Q : Exit → Act → World → Prop)
    (hexit : ∀ (u0 u1 u2 u3 u4 u5 u6 u7 u8 u9 u10 u11 u12 u13 u15 u17 : Value) (w' : World), ph 5 ((take21S gx b vb vc r ph).vals [u0, u1, u2, u3, u4, u5, u6, u7, u8, u9, u10, u11, u12, u13, undef, u15, undef, u17, undef]) w' → Q .normal ⟨#[c0, .pointer (some ⟨b, 0, none⟩), c2, .int .i64 0, c4, c5, .pointer (some ⟨gx, 0, none⟩), c7, c8, .int .i64 1, c10, c11, .int .i64 1, c13, c14, c15, c16, c17, .int .i64 0, c19, c20, c21, c22, c23, c24, c25, c26, c27, c28, c29, c30, c31, c32, c33, c34, c35, c36, c37, c38, c39, c40, c41, c42, c43, c44, c45, c46, c47, c48, c49, c50, c51, c52, c53, c54, c55, c56, c57, c58, c59, c60, c61, c62, c63, c64, c65, c66, c67, c68, c69, c70, c71, c72, c73, c74, c75, c76, c77, c78, c79, c80, c81, c82, c83, c84, c85, c86, c87, c88, c89, c90, c91, c92, c93, c94, c95, c96, c97, c98, c99, c100, c101, c102, c103, c104, c105, c106, c107, c108, c109, c110, u0, u1, u2, u3, u4, u5, u6, u7, u8, u9, u10, u11, u12, u13, u15, u17, c127, c128, c129, c130, c131], []⟩ w') :
    Code.wp Try.prog ((Try.f61.body.bind (findRegion 21)).getD .skip) Q ⟨#[c0, .pointer (some ⟨b, 0, none⟩), c2, .int .i64 0, c4, c5, .pointer (some ⟨gx, 0, none⟩), c7, c8, .int .i64 1, c10, c11, .int .i64 1, c13, c14, c15, c16, c17, .int .i64 0, c19, c20, c21, c22, c23, c24, c25, c26, c27, c28, c29, c30, c31, c32, c33, c34, c35, c36, c37, c38, c39, c40, c41, c42, c43, c44, c45, c46, c47, c48, c49, c50, c51, c52, c53, c54, c55, c56, c57, c58, c59, c60, c61, c62, c63, c64, c65, c66, c67, c68, c69, c70, c71, c72, c73, c74, c75, c76, c77, c78, c79, c80, c81, c82, c83, c84, c85, c86, c87, c88, c89, c90, c91, c92, c93, c94, c95, c96, c97, c98, c99, c100, c101, c102, c103, c104, c105, c106, c107, c108, c109, c110, c111, c112, c113, c114, c115, c116, c117, c118, c119, c120, c121, c122, c123, c124, c125, c126, c127, c128, c129, c130, c131], []⟩ WB := by
  dsimp only at hexit ⊢
  conv => arg 2; whnf
  have HEX := Lib.hid hexit
  clear hexit
  have hF := HF.out
  refine wp_region_inv2 (by kernel_rfl) (fun L a' w' => ∃ u0 u1 u2 u3 u4 u5 u6 u7 u8 u9 u10 u11 u12 u13 u15 u17 : Value, a' = ⟨#[c0, .pointer (some ⟨b, 0, none⟩), c2, .int .i64 0, c4, c5, .pointer (some ⟨gx, 0, none⟩), c7, c8, .int .i64 1, c10, c11, .int .i64 1, c13, c14, c15, c16, c17, .int .i64 0, c19, c20, c21, c22, c23, c24, c25, c26, c27, c28, c29, c30, c31, c32, c33, c34, c35, c36, c37, c38, c39, c40, c41, c42, c43, c44, c45, c46, c47, c48, c49, c50, c51, c52, c53, c54, c55, c56, c57, c58, c59, c60, c61, c62, c63, c64, c65, c66, c67, c68, c69, c70, c71, c72, c73, c74, c75, c76, c77, c78, c79, c80, c81, c82, c83, c84, c85, c86, c87, c88, c89, c90, c91, c92, c93, c94, c95, c96, c97, c98, c99, c100, c101, c102, c103, c104, c105, c106, c107, c108, c109, c110, u0, u1, u2, u3, u4, u5, u6, u7, u8, u9, u10, u11, u12, u13, u15, u17, c127, c128, c129, c130, c131], []⟩ ∧ L.size = 19 ∧ RQ (take21S gx b vb vc r ph) L [u0, u1, u2, u3, u4, u5, u6, u7, u8, u9, u10, u11, u12, u13, undef, u15, undef, u17, undef] w') ?_ ?_ ?_ ?_
  · exact ⟨_, _, _, _, _, _, _, _, _, _, _, _, _, _, _, _, rfl, by simp, RQ.init (fun i => did_none _ _) (fun f => hF.later 0 f _ _ (H0.out f) (below_drewN (Below.refl _ _) 1))⟩
  · rintro L a' w' i hL hi hnd hdep ⟨u0, u1, u2, u3, u4, u5, u6, u7, u8, u9, u10, u11, u12, u13, u15, u17, rfl, hLn, hI⟩
    dsimp only
    have hsz : ∀ i, (L.setIfInBounds i true).size = 19 := fun i => by simpa using hLn
    have hL19 : L.size = 19 := hL
    have HI := Lib.hid hI
    clear hI
    match i, hi with
    | 0, _ =>
      have HN := Lib.hid hnd
      clear hdep hnd
      refine wpOp_step rfl (fun K' hK => ?_)
      go_simp
      exact hK _ _ ⟨_, _, _, _, _, _, _, _, _, _, _, _, _, _, _, _, rfl, hsz _, HI.out.val 0 _ hF HN.out rfl (Below.refl _ _) (by show 0 < 19; omega) rfl⟩
    | 1, _ =>
      have HN := Lib.hid hnd
      have q0 := (HI.out.got 0 (hdep _ rfl ⟨0, .data⟩ (by simp) (by kernel_rfl)) rfl).symm
      subst q0
      obtain ⟨kk, hkk, hph⟩ := HI.out.early 2 1 HN.out rfl (by simp)
      obtain ⟨z0, z1⟩ := HC0.out _ _ _ hkk hph
      clear hph hkk
      clear hdep hnd
      refine wpOp_step rfl (fun K' hK => ?_)
      go_simp
      exact hK _ _ ⟨_, _, _, _, _, _, _, _, _, _, _, _, _, _, _, _, rfl, hsz _, HI.out.val 1 _ hF HN.out rfl (Below.refl _ _) (by show 1 < 19; omega) rfl⟩
    | 2, _ =>
      have HN := Lib.hid hnd
      clear hdep hnd
      refine wpOp_step rfl (fun K' hK => ?_)
      go_simp
      exact hK _ _ ⟨_, _, _, _, _, _, _, _, _, _, _, _, _, _, _, _, rfl, hsz _, HI.out.val 2 _ hF HN.out rfl (Below.refl _ _) (by show 2 < 19; omega) rfl⟩
    | 3, _ =>
      have HN := Lib.hid hnd
      clear hdep hnd
      refine wpOp_step rfl (fun K' hK => ?_)
      go_simp
      exact hK _ _ ⟨_, _, _, _, _, _, _, _, _, _, _, _, _, _, _, _, rfl, hsz _, HI.out.val 3 _ hF HN.out rfl (Below.refl _ _) (by show 3 < 19; omega) rfl⟩
    | 4, _ =>
      have HN := Lib.hid hnd
      have q3 := (HI.out.got 3 (hdep _ rfl ⟨3, .data⟩ (by simp) (by kernel_rfl)) rfl).symm
      subst q3
      obtain ⟨kk, hkk, hph⟩ := HI.out.early 2 4 HN.out rfl (by simp)
      obtain ⟨z0, z1⟩ := HC0.out _ _ _ hkk hph
      clear hph hkk
      clear hdep hnd
      refine wpOp_step rfl (fun K' hK => ?_)
      go_simp
      exact hK _ _ ⟨_, _, _, _, _, _, _, _, _, _, _, _, _, _, _, _, rfl, hsz _, HI.out.val 4 _ hF HN.out rfl (Below.refl _ _) (by show 4 < 19; omega) rfl⟩
    | 5, _ =>
      have HN := Lib.hid hnd
      clear hdep hnd
      refine wpOp_step rfl (fun K' hK => ?_)
      go_simp
      exact hK _ _ ⟨_, _, _, _, _, _, _, _, _, _, _, _, _, _, _, _, rfl, hsz _, HI.out.val 5 _ hF HN.out rfl (Below.refl _ _) (by show 5 < 19; omega) rfl⟩
    | 6, _ =>
      have HN := Lib.hid hnd
      have q4 := (HI.out.got 4 (hdep _ rfl ⟨4, .data⟩ (by simp) (by kernel_rfl)) rfl).symm
      subst q4
      have q5 := (HI.out.got 5 (hdep _ rfl ⟨5, .data⟩ (by simp) (by kernel_rfl)) rfl).symm
      subst q5
      clear hdep hnd
      refine wpOp_step rfl (fun K' hK => ?_)
      go_simp
      exact hK _ _ ⟨_, _, _, _, _, _, _, _, _, _, _, _, _, _, _, _, rfl, hsz _, HI.out.val 6 _ hF HN.out rfl (Below.refl _ _) (by show 6 < 19; omega) rfl⟩
    | 7, _ =>
      have HN := Lib.hid hnd
      clear hdep hnd
      refine wpOp_step rfl (fun K' hK => ?_)
      go_simp
      exact hK _ _ ⟨_, _, _, _, _, _, _, _, _, _, _, _, _, _, _, _, rfl, hsz _, HI.out.val 7 _ hF HN.out rfl (Below.refl _ _) (by show 7 < 19; omega) rfl⟩
    | 8, _ =>
      have HN := Lib.hid hnd
      clear hdep hnd
      refine wpOp_step rfl (fun K' hK => ?_)
      go_simp
      exact hK _ _ ⟨_, _, _, _, _, _, _, _, _, _, _, _, _, _, _, _, rfl, hsz _, HI.out.val 8 _ hF HN.out rfl (Below.refl _ _) (by show 8 < 19; omega) rfl⟩
    | 9, _ =>
      have HN := Lib.hid hnd
      clear hdep hnd
      refine wpOp_step rfl (fun K' hK => ?_)
      go_simp
      exact hK _ _ ⟨_, _, _, _, _, _, _, _, _, _, _, _, _, _, _, _, rfl, hsz _, HI.out.val 9 _ hF HN.out rfl (Below.refl _ _) (by show 9 < 19; omega) rfl⟩
    | 10, _ =>
      have HN := Lib.hid hnd
      clear hdep hnd
      refine wpOp_step rfl (fun K' hK => ?_)
      go_simp
      exact hK _ _ ⟨_, _, _, _, _, _, _, _, _, _, _, _, _, _, _, _, rfl, hsz _, HI.out.val 10 _ hF HN.out rfl (Below.refl _ _) (by show 10 < 19; omega) rfl⟩
    | 11, _ =>
      have HN := Lib.hid hnd
      have q9 := (HI.out.got 9 (hdep _ rfl ⟨9, .data⟩ (by simp) (by kernel_rfl)) rfl).symm
      subst q9
      have q10 := (HI.out.got 10 (hdep _ rfl ⟨10, .data⟩ (by simp) (by kernel_rfl)) rfl).symm
      subst q10
      obtain ⟨hp, hput⟩ := HI.out.act 0 11 hF (by show 0 < 5; omega) rfl HN.out (fun m hm => by omega)
      have HDS : Hid (∀ ds, (take21S gx b vb vc r ph).dep[0]? = some ds → ∀ m ∈ ds, did L m = true) := fun ds hds m hm => by
        obtain rfl : [] = ds := by simpa [take21S] using hds
        simp at hm
        
      have HP := Lib.hid hput
      clear hput hdep hnd
      have HCA := Lib.hid (HA0.out _ _ hp)
      clear hp
      refine wpOp_step rfl (fun K' hK => ?_)
      go_simp
      refine HCA.out.mono ?_
      rintro e w1 ⟨v, rfl, hp1⟩
      exact hK _ _ ⟨_, _, _, _, _, _, _, _, _, _, _, _, _, _, _, _, rfl, hsz _, HP.out v w1 (by omega) (by show 11 < 19; omega) (take21N) (fun e he => by cases he; trivial) HDS.out (fun m P hm _ hu => (take21K gx b vb vc r ph m P hm).elim) hp1⟩
    | 12, _ =>
      have HN := Lib.hid hnd
      have q7 := (HI.out.got 7 (hdep _ rfl ⟨7, .data⟩ (by simp) (by kernel_rfl)) rfl).symm
      subst q7
      have q8 := (HI.out.got 8 (hdep _ rfl ⟨8, .data⟩ (by simp) (by kernel_rfl)) rfl).symm
      subst q8
      have hpv := hdep _ rfl ⟨11, .data⟩ (by simp) (by kernel_rfl)
      obtain ⟨hp, hput⟩ := HI.out.act 1 12 hF (by show 1 < 5; omega) rfl HN.out (fun m hm => by have e : m = 0 := (by omega); subst e; exact hpv)
      have HDS : Hid (∀ ds, (take21S gx b vb vc r ph).dep[1]? = some ds → ∀ m ∈ ds, did L m = true) := fun ds hds m hm => by
        obtain rfl : [] = ds := by simpa [take21S] using hds
        simp at hm
        
      have HP := Lib.hid hput
      clear hput hdep hnd hpv
      have HCA := Lib.hid (HA1.out _ _ hp)
      clear hp
      refine wpOp_step rfl (fun K' hK => ?_)
      go_simp
      refine HCA.out.mono ?_
      rintro e w1 ⟨v, rfl, hp1⟩
      exact hK _ _ ⟨_, _, _, _, _, _, _, _, _, _, _, _, _, _, _, _, rfl, hsz _, HP.out v w1 (by omega) (by show 12 < 19; omega) (take21N) (fun e he => by cases he; trivial) HDS.out (fun m P hm _ hu => (take21K gx b vb vc r ph m P hm).elim) hp1⟩
    | 13, _ =>
      have HN := Lib.hid hnd
      clear hdep hnd
      refine wpOp_step rfl (fun K' hK => ?_)
      go_simp
      exact hK _ _ ⟨_, _, _, _, _, _, _, _, _, _, _, _, _, _, _, _, rfl, hsz _, HI.out.val 13 _ hF HN.out rfl (Below.refl _ _) (by show 13 < 19; omega) rfl⟩
    | 14, _ =>
      have HN := Lib.hid hnd
      have q13 := (HI.out.got 13 (hdep _ rfl ⟨13, .data⟩ (by simp) (by kernel_rfl)) rfl).symm
      subst q13
      have q6 := (HI.out.got 6 (hdep _ rfl ⟨6, .data⟩ (by simp) (by kernel_rfl)) rfl).symm
      subst q6
      have hpv := hdep _ rfl ⟨12, .chain⟩ (by simp) (by kernel_rfl)
      have hd1 := hdep _ rfl ⟨1, .phase⟩ (by simp) (by kernel_rfl)
      have hd4 := hdep _ rfl ⟨4, .phase⟩ (by simp) (by kernel_rfl)
      obtain ⟨hp, hput⟩ := HI.out.act 2 14 hF (by show 2 < 5; omega) rfl HN.out (fun m hm => by have e : m = 1 := (by omega); subst e; exact hpv)
      have HDS : Hid (∀ ds, (take21S gx b vb vc r ph).dep[2]? = some ds → ∀ m ∈ ds, did L m = true) := fun ds hds m hm => by
        obtain rfl : [1, 4] = ds := by simpa [take21S] using hds
        simp at hm
        rcases hm with rfl | rfl <;> assumption
      have HP := Lib.hid hput
      clear hput hdep hnd hpv hd1 hd4
      obtain ⟨⟨y, hy⟩, hfz, hp1⟩ := HA2.out _ _ hp
      clear hp
      have HP1 := Lib.hid hp1
      clear hp1
      refine wpOp_step rfl (fun K' hK => ?_)
      go_simp
      exact hK _ _ ⟨_, _, _, _, _, _, _, _, _, _, _, _, _, _, _, _, rfl, hsz _, HP.out undef _ (by omega) (by show 14 < 19; omega) (take21N) (fun e he => by cases he; trivial) HDS.out (fun m P hm _ _ => (take21K gx b vb vc r ph m P hm).elim) HP1.out⟩
    | 15, _ =>
      have HN := Lib.hid hnd
      have q1 := (HI.out.got 1 (hdep _ rfl ⟨1, .data⟩ (by simp) (by kernel_rfl)) rfl).symm
      subst q1
      have q2 := (HI.out.got 2 (hdep _ rfl ⟨2, .data⟩ (by simp) (by kernel_rfl)) rfl).symm
      subst q2
      clear hdep hnd
      refine wpOp_step rfl (fun K' hK => ?_)
      go_simp
      exact hK _ _ ⟨_, _, _, _, _, _, _, _, _, _, _, _, _, _, _, _, rfl, hsz _, HI.out.val 15 _ hF HN.out rfl (Below.refl _ _) (by show 15 < 19; omega) rfl⟩
    | 16, _ =>
      have HN := Lib.hid hnd
      have q15 := (HI.out.got 15 (hdep _ rfl ⟨15, .data⟩ (by simp) (by kernel_rfl)) rfl).symm
      subst q15
      have hpv := hdep _ rfl ⟨14, .chain⟩ (by simp) (by kernel_rfl)
      obtain ⟨hp, hput⟩ := HI.out.act 3 16 hF (by show 3 < 5; omega) rfl HN.out (fun m hm => by have e : m = 2 := (by omega); subst e; exact hpv)
      have HDS : Hid (∀ ds, (take21S gx b vb vc r ph).dep[3]? = some ds → ∀ m ∈ ds, did L m = true) := fun ds hds m hm => by
        obtain rfl : [] = ds := by simpa [take21S] using hds
        simp at hm
        
      have HP := Lib.hid hput
      clear hput hdep hnd hpv
      obtain ⟨⟨y, hy⟩, hfz, hp1⟩ := HA3.out _ _ hp
      clear hp
      have HP1 := Lib.hid hp1
      clear hp1
      refine wpOp_step rfl (fun K' hK => ?_)
      go_simp
      exact hK _ _ ⟨_, _, _, _, _, _, _, _, _, _, _, _, _, _, _, _, rfl, hsz _, HP.out undef _ (by omega) (by show 16 < 19; omega) (take21N) (fun e he => by cases he; trivial) HDS.out (fun m P hm _ _ => (take21K gx b vb vc r ph m P hm).elim) HP1.out⟩
    | 17, _ =>
      have HN := Lib.hid hnd
      clear hdep hnd
      refine wpOp_step rfl (fun K' hK => ?_)
      go_simp
      exact hK _ _ ⟨_, _, _, _, _, _, _, _, _, _, _, _, _, _, _, _, rfl, hsz _, HI.out.val 17 _ hF HN.out rfl (Below.refl _ _) (by show 17 < 19; omega) rfl⟩
    | 18, _ =>
      have HN := Lib.hid hnd
      have q17 := (HI.out.got 17 (hdep _ rfl ⟨17, .data⟩ (by simp) (by kernel_rfl)) rfl).symm
      subst q17
      have hpv := hdep _ rfl ⟨16, .chain⟩ (by simp) (by kernel_rfl)
      obtain ⟨hp, hput⟩ := HI.out.act 4 18 hF (by show 4 < 5; omega) rfl HN.out (fun m hm => by have e : m = 3 := (by omega); subst e; exact hpv)
      have HDS : Hid (∀ ds, (take21S gx b vb vc r ph).dep[4]? = some ds → ∀ m ∈ ds, did L m = true) := fun ds hds m hm => by
        obtain rfl : [] = ds := by simpa [take21S] using hds
        simp at hm
        
      have HP := Lib.hid hput
      clear hput hdep hnd hpv
      obtain ⟨⟨sn, hsh⟩, ⟨y, hy⟩, hfz, hp1⟩ := HA4.out _ _ hp
      have hsh : u12 = .int .i64 sn := hsh
      subst hsh
      clear hp
      have HP1 := Lib.hid hp1
      clear hp1
      refine wpOp_step rfl (fun K' hK => ?_)
      go_simp
      exact hK _ _ ⟨_, _, _, _, _, _, _, _, _, _, _, _, _, _, _, _, rfl, hsz _, HP.out undef _ (by omega) (by show 18 < 19; omega) (take21N) (fun e he => by cases he; trivial) HDS.out (fun m P hm _ _ => (take21K gx b vb vc r ph m P hm).elim) HP1.out⟩
    | i + 19, hi => exact absurd hi (by show ¬ (i + 19 < 19); omega)
  · intro i o ho e he hb
    match i, ho with
    | 0, ho => cases ho; simp at he
    | 1, ho => cases ho; simp at he; subst he; first | (simp; done) | (exact absurd hb (by decide))
    | 2, ho => cases ho; simp at he; subst he; first | (simp; done) | (exact absurd hb (by decide))
    | 3, ho => cases ho; simp at he
    | 4, ho => cases ho; simp at he; subst he; first | (simp; done) | (exact absurd hb (by decide))
    | 5, ho => cases ho; simp at he
    | 6, ho => cases ho; simp at he; rcases he with rfl | rfl <;> first | (simp; done) | (exact absurd hb (by decide))
    | 7, ho => cases ho; simp at he
    | 8, ho => cases ho; simp at he
    | 9, ho => cases ho; simp at he
    | 10, ho => cases ho; simp at he
    | 11, ho => cases ho; simp at he; rcases he with rfl | rfl <;> first | (simp; done) | (exact absurd hb (by decide))
    | 12, ho => cases ho; simp at he; rcases he with rfl | rfl | rfl | rfl <;> first | (simp; done) | (exact absurd hb (by decide))
    | 13, ho => cases ho; simp at he; rcases he with rfl | rfl | rfl | rfl | rfl | rfl | rfl | rfl | rfl | rfl | rfl | rfl | rfl <;> first | (simp; done) | (exact absurd hb (by decide))
    | 14, ho => cases ho; simp at he; rcases he with rfl | rfl | rfl | rfl | rfl | rfl | rfl | rfl | rfl | rfl | rfl | rfl | rfl | rfl | rfl | rfl <;> first | (simp; done) | (exact absurd hb (by decide))
    | 15, ho => cases ho; simp at he; rcases he with rfl | rfl | rfl | rfl | rfl | rfl | rfl | rfl | rfl | rfl | rfl | rfl | rfl | rfl | rfl | rfl | rfl <;> first | (simp; done) | (exact absurd hb (by decide))
    | 16, ho => cases ho; simp at he; rcases he with rfl | rfl | rfl | rfl | rfl | rfl | rfl | rfl | rfl | rfl | rfl | rfl | rfl | rfl | rfl | rfl | rfl <;> first | (simp; done) | (exact absurd hb (by decide))
    | 17, ho => cases ho; simp at he; rcases he with rfl | rfl | rfl | rfl | rfl | rfl | rfl | rfl | rfl | rfl | rfl | rfl | rfl | rfl | rfl | rfl | rfl <;> first | (simp; done) | (exact absurd hb (by decide))
    | 18, ho => cases ho; simp at he; rcases he with rfl | rfl | rfl | rfl | rfl | rfl | rfl | rfl | rfl | rfl | rfl | rfl | rfl | rfl | rfl | rfl | rfl | rfl | rfl | rfl <;> first | (simp; done) | (exact absurd hb (by decide))
    | i + 19, ho => simp at ho
  · rintro L a' w' hall ⟨u0, u1, u2, u3, u4, u5, u6, u7, u8, u9, u10, u11, u12, u13, u15, u17, rfl, hLn, hI⟩
    exact HEX.out u0 u1 u2 u3 u4 u5 u6 u7 u8 u9 u10 u11 u12 u13 u15 u17 w' (hI.ends fun j hj => hall _ (take21A j hj))

def take22S (gx gr b vb vc r lo ne ce : Nat) (mb : Addr) (pe : Option Addr) (ph : Nat → (Nat → Value) → World → Prop) : StQ := ⟨[.eq (.agg #[.int .i64 1, .int .i64 3, .slice (some ⟨r, 0, none⟩) 0 0, .slice (some ⟨vb, 0, none⟩) 1 vc, .slice (some ⟨lo, 0, none⟩) 1 1, .slice (some mb) 0 0, .int .i64 0, .int .i64 0, .slice pe ne ce, .int .i64 0]), .eq (.pointer (some ⟨b, 0, none⟩)), .eq (.int .i64 1), .eq (.int .i64 0), .free, .free, .free], [4, 5, 6], [[], [0], [2]], ph⟩

theorem take22A : ∀ j, j < 3 → ([4, 5, 6] : List Nat).getD j 0 < 7 := by decide
theorem take22N : ∀ a b, a < 3 → b < 3 → ([4, 5, 6] : List Nat).getD a 0 = ([4, 5, 6] : List Nat).getD b 0 → a = b := by
  intro a b ha hb
  have h : ∀ a, a < 3 → ∀ b, b < 3 → ([4, 5, 6] : List Nat).getD a 0 = ([4, 5, 6] : List Nat).getD b 0 → a = b := by decide
  exact h a ha b hb
theorem take22K (gx gr b vb vc r lo ne ce : Nat) (mb : Addr) (pe : Option Addr) (ph : Nat → (Nat → Value) → World → Prop) : ∀ (m : Nat) (P : World → Value → Prop), (take22S gx gr b vb vc r lo ne ce mb pe ph).kd[m]? = some (Kq.new P) → False := by
  intro m P h
  match m, h with
  | 0, h => simp [take22S] at h
  | 1, h => simp [take22S] at h
  | 2, h => simp [take22S] at h
  | 3, h => simp [take22S] at h
  | 4, h => simp [take22S] at h
  | 5, h => simp [take22S] at h
  | 6, h => simp [take22S] at h
  | m + 7, h => simp [take22S] at h

set_option maxRecDepth 100000 in
set_option maxHeartbeats 6000000 in
theorem take22 (gx gr b vb vc r lo ne ce : Nat) (mb : Addr) (pe : Option Addr) (ph : Nat → (Nat → Value) → World → Prop) (WB : World)
    (HF : Hid (StQ.Fine (take22S gx gr b vb vc r lo ne ce mb pe ph))) (H0 : Hid (∀ f, ph 0 f WB))
    (HC0 : Hid (∀ k f W, k ≤ 1 → ph k f W → W.cell? ⟨gx, 0, none⟩ = some (.int .i64 1) ∧ W.cell? ⟨gx, 1, none⟩ = some (.int .i64 3) ∧ W.cell? ⟨gx, 2, none⟩ = some (.slice (some ⟨r, 0, none⟩) 0 0) ∧ W.cell? ⟨gx, 3, none⟩ = some (.slice (some ⟨vb, 0, none⟩) 1 vc) ∧ W.cell? ⟨gx, 4, none⟩ = some (.slice (some ⟨lo, 0, none⟩) 1 1) ∧ W.cell? ⟨gx, 5, none⟩ = some (.slice (some mb) 0 0) ∧ W.cell? ⟨gx, 6, none⟩ = some (.int .i64 0) ∧ W.cell? ⟨gx, 7, none⟩ = some (.int .i64 0) ∧ W.cell? ⟨gx, 8, none⟩ = some (.slice pe ne ce) ∧ W.cell? ⟨gx, 9, none⟩ = some (.int .i64 0)))
    (HA0 : Hid (∀ f W, ph 0 f W → Calls Try.prog 82 #[.pointer (some ⟨b, 0, none⟩), .int .i64 1, .int .i64 0] W fun e w' => ∃ v, e = .returned v ∧ ph 1 (fun m => if m = 0 then v else f m) w'))
    (HA1 : Hid (∀ f W, ph 1 f W → (∃ y, W.cell? ⟨gr, 0, none⟩ = some y) ∧ (∃ y, W.cell? ⟨gr, 1, none⟩ = some y) ∧ (∃ y, W.cell? ⟨gr, 2, none⟩ = some y) ∧ (∃ y, W.cell? ⟨gr, 3, none⟩ = some y) ∧ (∃ y, W.cell? ⟨gr, 4, none⟩ = some y) ∧ (∃ y, W.cell? ⟨gr, 5, none⟩ = some y) ∧ (∃ y, W.cell? ⟨gr, 6, none⟩ = some y) ∧ (∃ y, W.cell? ⟨gr, 7, none⟩ = some y) ∧ (∃ y, W.cell? ⟨gr, 8, none⟩ = some y) ∧ (∃ y, W.cell? ⟨gr, 9, none⟩ = some y) ∧ (∀ j, W.frozen? ⟨gr, j, none⟩ = false) ∧ ph 2 (fun m => if m = 1 then undef else f m) ((((((((((W.setCell ⟨gr, 0, none⟩ (.int .i64 1)).setCell ⟨gr, 1, none⟩ (.int .i64 3)).setCell ⟨gr, 2, none⟩ (.slice (some ⟨r, 0, none⟩) 0 0)).setCell ⟨gr, 3, none⟩ (.slice (some ⟨vb, 0, none⟩) 1 vc)).setCell ⟨gr, 4, none⟩ (.slice (some ⟨lo, 0, none⟩) 1 1)).setCell ⟨gr, 5, none⟩ (.slice (some mb) 0 0)).setCell ⟨gr, 6, none⟩ (.int .i64 0)).setCell ⟨gr, 7, none⟩ (.int .i64 0)).setCell ⟨gr, 8, none⟩ (.slice pe ne ce)).setCell ⟨gr, 9, none⟩ (.int .i64 0))))
    (HA2 : Hid (∀ f W, ph 2 f W → ph 3 (fun m => if m = 2 then f 0 else f m) W))
    (c0 c2 c3 c4 c5 c7 c10 c11 c12 c13 c14 c15 c16 c17 c19 c20 c21 c22 c23 c24 c25 c26 c27 c28 c29 c30 c31 c32 c33 c34 c35 c36 c37 c38 c39 c40 c41 c42 c43 c44 c45 c46 c47 c48 c49 c50 c51 c52 c53 c54 c55 c56 c57 c58 c59 c60 c61 c62 c63 c64 c65 c66 c67 c68 c69 c70 c71 c72 c73 c74 c75 c76 c77 c78 c79 c80 c81 c82 c83 c84 c85 c86 c87 c88 c89 c90 c91 c92 c93 c94 c95 c96 c97 c98 c99 c100 c101 c102 c103 c104 c105 c106 c107 c108 c109 c110 c111 c112 c113 c114 c115 c116 c117 c118 c119 c120 c121 c122 c123 c124 c125 c126 c127 c128 c129 c130 c131 : Value) (Q : Exit → Act → World → Prop)
    (hexit : ∀ (u0 u1 u2 u3 u4 u6 : Value) (w' : World), ph 3 ((take22S gx gr b vb vc r lo ne ce mb pe ph).vals [u0, u1, u2, u3, u4, undef, u6]) w' → Q .normal ⟨#[c0, .pointer (some ⟨b, 0, none⟩), c2, c3, c4, c5, .pointer (some ⟨gx, 0, none⟩), c7, .pointer (some ⟨gr, 0, none⟩), u6, c10, c11, c12, c13, c14, c15, c16, c17, .int .i64 0, c19, c20, c21, c22, c23, c24, c25, c26, c27, c28, c29, c30, c31, c32, c33, c34, c35, c36, c37, c38, c39, c40, c41, c42, c43, c44, c45, c46, c47, c48, c49, c50, c51, c52, c53, c54, c55, c56, c57, c58, c59, c60, c61, c62, c63, c64, c65, c66, c67, c68, c69, c70, c71, c72, c73, c74, c75, c76, c77, c78, c79, c80, c81, c82, c83, c84, c85, c86, c87, c88, c89, c90, c91, c92, c93, c94, c95, c96, c97, c98, c99, c100, c101, c102, c103, c104, c105, c106, c107, c108, c109, c110, c111, c112, c113, c114, c115, c116, c117, c118, c119, c120, c121, c122, c123, c124, c125, c126, u0, u1, u2, u3, u4], []⟩ w') :
    Code.wp Try.prog ((Try.f61.body.bind (findRegion 22)).getD .skip) Q ⟨#[c0, .pointer (some ⟨b, 0, none⟩), c2, c3, c4, c5, .pointer (some ⟨gx, 0, none⟩), c7, .pointer (some ⟨gr, 0, none⟩), .int .i64 1, c10, c11, c12, c13, c14, c15, c16, c17, .int .i64 0, c19, c20, c21, c22, c23, c24, c25, c26, c27, c28, c29, c30, c31, c32, c33, c34, c35, c36, c37, c38, c39, c40, c41, c42, c43, c44, c45, c46, c47, c48, c49, c50, c51, c52, c53, c54, c55, c56, c57, c58, c59, c60, c61, c62, c63, c64, c65, c66, c67, c68, c69, c70, c71, c72, c73, c74, c75, c76, c77, c78, c79, c80, c81, c82, c83, c84, c85, c86, c87, c88, c89, c90, c91, c92, c93, c94, c95, c96, c97, c98, c99, c100, c101, c102, c103, c104, c105, c106, c107, c108, c109, c110, c111, c112, c113, c114, c115, c116, c117, c118, c119, c120, c121, c122, c123, c124, c125, c126, c127, c128, c129, c130, c131], []⟩ WB := by
  dsimp only at hexit ⊢
  conv => arg 2; whnf
  have HEX := Lib.hid hexit
  clear hexit
  have hF := HF.out
  refine wp_region_inv2 (by kernel_rfl) (fun L a' w' => ∃ u0 u1 u2 u3 u4 u6 : Value, a' = ⟨#[c0, .pointer (some ⟨b, 0, none⟩), c2, c3, c4, c5, .pointer (some ⟨gx, 0, none⟩), c7, .pointer (some ⟨gr, 0, none⟩), u6, c10, c11, c12, c13, c14, c15, c16, c17, .int .i64 0, c19, c20, c21, c22, c23, c24, c25, c26, c27, c28, c29, c30, c31, c32, c33, c34, c35, c36, c37, c38, c39, c40, c41, c42, c43, c44, c45, c46, c47, c48, c49, c50, c51, c52, c53, c54, c55, c56, c57, c58, c59, c60, c61, c62, c63, c64, c65, c66, c67, c68, c69, c70, c71, c72, c73, c74, c75, c76, c77, c78, c79, c80, c81, c82, c83, c84, c85, c86, c87, c88, c89, c90, c91, c92, c93, c94, c95, c96, c97, c98, c99, c100, c101, c102, c103, c104, c105, c106, c107, c108, c109, c110, c111, c112, c113, c114, c115, c116, c117, c118, c119, c120, c121, c122, c123, c124, c125, c126, u0, u1, u2, u3, u4], []⟩ ∧ L.size = 7 ∧ (did L 6 = false → u6 = .int .i64 1) ∧ RQ (take22S gx gr b vb vc r lo ne ce mb pe ph) L [u0, u1, u2, u3, u4, undef, u6] w') ?_ ?_ ?_ ?_
  · exact ⟨_, _, _, _, _, _, rfl, by simp, (fun _ => rfl), RQ.init (fun i => did_none _ _) (fun f => hF.later 0 f _ _ (H0.out f) (below_drewN (Below.refl _ _) 1))⟩
  · rintro L a' w' i hL hi hnd hdep ⟨u0, u1, u2, u3, u4, u6, rfl, hLn, hJ6, hI⟩
    dsimp only
    have hsz : ∀ i, (L.setIfInBounds i true).size = 7 := fun i => by simpa using hLn
    have hL7 : L.size = 7 := hL
    have HI := Lib.hid hI
    clear hI
    match i, hi with
    | 0, _ =>
      have HN := Lib.hid hnd
      obtain ⟨kk, hkk, hph⟩ := HI.out.early 1 0 HN.out rfl (by simp)
      obtain ⟨z0, z1, z2, z3, z4, z5, z6, z7, z8, z9⟩ := HC0.out _ _ _ hkk hph
      clear hph hkk
      clear hdep hnd
      refine wpOp_step rfl (fun K' hK => ?_)
      go_simp
      exact hK _ _ ⟨_, _, _, _, _, _, rfl, hsz _, (fun hd => hJ6 (by rw [did_other (by decide)] at hd; exact hd)), HI.out.val 0 _ hF HN.out rfl (Below.refl _ _) (by show 0 < 7; omega) rfl⟩
    | 1, _ =>
      have HN := Lib.hid hnd
      clear hdep hnd
      refine wpOp_step rfl (fun K' hK => ?_)
      go_simp
      exact hK _ _ ⟨_, _, _, _, _, _, rfl, hsz _, (fun hd => hJ6 (by rw [did_other (by decide)] at hd; exact hd)), HI.out.val 1 _ hF HN.out rfl (Below.refl _ _) (by show 1 < 7; omega) rfl⟩
    | 2, _ =>
      have HN := Lib.hid hnd
      have q6 := hJ6 (HI.out.notyet 2 2 (by show 2 < 3; omega) HN.out rfl (by simp))
      subst q6
      clear hdep hnd
      refine wpOp_step rfl (fun K' hK => ?_)
      go_simp
      exact hK _ _ ⟨_, _, _, _, _, _, rfl, hsz _, (fun hd => hJ6 (by rw [did_other (by decide)] at hd; exact hd)), HI.out.val 2 _ hF HN.out rfl (Below.refl _ _) (by show 2 < 7; omega) rfl⟩
    | 3, _ =>
      have HN := Lib.hid hnd
      clear hdep hnd
      refine wpOp_step rfl (fun K' hK => ?_)
      go_simp
      exact hK _ _ ⟨_, _, _, _, _, _, rfl, hsz _, (fun hd => hJ6 (by rw [did_other (by decide)] at hd; exact hd)), HI.out.val 3 _ hF HN.out rfl (Below.refl _ _) (by show 3 < 7; omega) rfl⟩
    | 4, _ =>
      have HN := Lib.hid hnd
      have q1 := (HI.out.got 1 (hdep _ rfl ⟨1, .data⟩ (by simp) (by kernel_rfl)) rfl).symm
      subst q1
      have q2 := (HI.out.got 2 (hdep _ rfl ⟨2, .data⟩ (by simp) (by kernel_rfl)) rfl).symm
      subst q2
      have q3 := (HI.out.got 3 (hdep _ rfl ⟨3, .data⟩ (by simp) (by kernel_rfl)) rfl).symm
      subst q3
      obtain ⟨hp, hput⟩ := HI.out.act 0 4 hF (by show 0 < 3; omega) rfl HN.out (fun m hm => by omega)
      have HDS : Hid (∀ ds, (take22S gx gr b vb vc r lo ne ce mb pe ph).dep[0]? = some ds → ∀ m ∈ ds, did L m = true) := fun ds hds m hm => by
        obtain rfl : [] = ds := by simpa [take22S] using hds
        simp at hm
        
      have HP := Lib.hid hput
      clear hput hdep hnd
      have HCA := Lib.hid (HA0.out _ _ hp)
      clear hp
      refine wpOp_step rfl (fun K' hK => ?_)
      go_simp
      refine HCA.out.mono ?_
      rintro e w1 ⟨v, rfl, hp1⟩
      exact hK _ _ ⟨_, _, _, _, _, _, rfl, hsz _, (fun hd => hJ6 (by rw [did_other (by decide)] at hd; exact hd)), HP.out v w1 (by omega) (by show 4 < 7; omega) (take22N) (fun e he => by cases he; trivial) HDS.out (fun m P hm _ hu => (take22K gx gr b vb vc r lo ne ce mb pe ph m P hm).elim) hp1⟩
    | 5, _ =>
      have HN := Lib.hid hnd
      have q0 := (HI.out.got 0 (hdep _ rfl ⟨0, .data⟩ (by simp) (by kernel_rfl)) rfl).symm
      subst q0
      have hpv := hdep _ rfl ⟨4, .chain⟩ (by simp) (by kernel_rfl)
      have hd0 := hdep _ rfl ⟨0, .data⟩ (by simp) (by kernel_rfl)
      obtain ⟨hp, hput⟩ := HI.out.act 1 5 hF (by show 1 < 3; omega) rfl HN.out (fun m hm => by have e : m = 0 := (by omega); subst e; exact hpv)
      have HDS : Hid (∀ ds, (take22S gx gr b vb vc r lo ne ce mb pe ph).dep[1]? = some ds → ∀ m ∈ ds, did L m = true) := fun ds hds m hm => by
        obtain rfl : [0] = ds := by simpa [take22S] using hds
        simp at hm
        subst hm; assumption
      have HP := Lib.hid hput
      clear hput hdep hnd hpv hd0
      obtain ⟨⟨y0, hy0⟩, ⟨y1, hy1⟩, ⟨y2, hy2⟩, ⟨y3, hy3⟩, ⟨y4, hy4⟩, ⟨y5, hy5⟩, ⟨y6, hy6⟩, ⟨y7, hy7⟩, ⟨y8, hy8⟩, ⟨y9, hy9⟩, hfz, hp1⟩ := HA1.out _ _ hp
      clear hp
      have HP1 := Lib.hid hp1
      clear hp1
      refine wpOp_step rfl (fun K' hK => ?_)
      go_simp
      exact hK _ _ ⟨_, _, _, _, _, _, rfl, hsz _, (fun hd => hJ6 (by rw [did_other (by decide)] at hd; exact hd)), HP.out undef _ (by omega) (by show 5 < 7; omega) (take22N) (fun e he => by cases he; trivial) HDS.out (fun m P hm _ _ => (take22K gx gr b vb vc r lo ne ce mb pe ph m P hm).elim) HP1.out⟩
    | 6, _ =>
      have HN := Lib.hid hnd
      have hpv := hdep _ rfl ⟨5, .chain⟩ (by simp) (by kernel_rfl)
      have hd2 := hdep _ rfl ⟨2, .phase⟩ (by simp) (by kernel_rfl)
      obtain ⟨hp, hput⟩ := HI.out.act 2 6 hF (by show 2 < 3; omega) rfl HN.out (fun m hm => by have e : m = 1 := (by omega); subst e; exact hpv)
      have HDS : Hid (∀ ds, (take22S gx gr b vb vc r lo ne ce mb pe ph).dep[2]? = some ds → ∀ m ∈ ds, did L m = true) := fun ds hds m hm => by
        obtain rfl : [2] = ds := by simpa [take22S] using hds
        simp at hm
        subst hm; assumption
      have HP := Lib.hid hput
      clear hput hdep hnd hpv hd2
      have hp1 := HA2.out _ _ hp
      clear hp
      have HP1 := Lib.hid hp1
      clear hp1
      refine wpOp_step rfl (fun K' hK => ?_)
      go_simp
      exact hK _ _ ⟨_, _, _, _, _, _, rfl, hsz _, (fun hd => by rw [did_same (by omega)] at hd; cases hd), HP.out _ _ (by omega) (by show 6 < 7; omega) (take22N) (fun e he => by cases he; trivial) HDS.out (fun m P hm _ _ => (take22K gx gr b vb vc r lo ne ce mb pe ph m P hm).elim) HP1.out⟩
    | i + 7, hi => exact absurd hi (by show ¬ (i + 7 < 7); omega)
  · intro i o ho e he hb
    match i, ho with
    | 0, ho => cases ho; simp at he
    | 1, ho => cases ho; simp at he
    | 2, ho => cases ho; simp at he
    | 3, ho => cases ho; simp at he
    | 4, ho => cases ho; simp at he; rcases he with rfl | rfl | rfl <;> first | (simp; done) | (exact absurd hb (by decide))
    | 5, ho => cases ho; simp at he; rcases he with rfl | rfl | rfl | rfl | rfl | rfl | rfl <;> first | (simp; done) | (exact absurd hb (by decide))
    | 6, ho => cases ho; simp at he; rcases he with rfl | rfl | rfl | rfl | rfl | rfl | rfl | rfl <;> first | (simp; done) | (exact absurd hb (by decide))
    | i + 7, ho => simp at ho
  · rintro L a' w' hall ⟨u0, u1, u2, u3, u4, u6, rfl, hLn, hJ6, hI⟩
    exact HEX.out u0 u1 u2 u3 u4 u6 w' (hI.ends fun j hj => hall _ (take22A j hj))

end Go.Proofs.Ytlnkflmnjkmhkaa
