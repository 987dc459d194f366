/-
  The law NumSums: the region in which three numbers are cut.
-/
import Derived.Test.YtfalhemeiengcaaDoorSumsB
namespace Go.Proofs.YtfalhemeiengcaaDoor
open Go.RowKit Go.Maps

set_option maxRecDepth 100000 in
set_option maxHeartbeats 16000000 in
theorem sumsC (gA gB gC a1 a0 b1 b0 c1 c0 ya za yb zb yc zc n0 : Nat) (k : Int) (WB : World) (HX : Hid (Bx gA gB gC a1 a0 b1 b0 c1 c0 n0 WB WB)) (hn : n0 ≤ gA ∧ gA < gB ∧ gB < gC)
    (HCA : Hid (∀ W, Calls Tryd.prog 11 #[.agg #[.int .u64 (a1 : Int), .int .u64 (a0 : Int)], .int .i64 k] W fun e w' => e = .returned (.agg #[.int .u64 (ya : Int), .int .u64 (za : Int)]) ∧ Below W.heap.size W w'))
    (HCB : Hid (∀ W, Calls Tryd.prog 11 #[.agg #[.int .u64 (b1 : Int), .int .u64 (b0 : Int)], .int .i64 k] W fun e w' => e = .returned (.agg #[.int .u64 (yb : Int), .int .u64 (zb : Int)]) ∧ Below W.heap.size W w'))
    (HCC : Hid (∀ W, Calls Tryd.prog 11 #[.agg #[.int .u64 (c1 : Int), .int .u64 (c0 : Int)], .int .i64 k] W fun e w' => e = .returned (.agg #[.int .u64 (yc : Int), .int .u64 (zc : Int)]) ∧ Below W.heap.size W w'))
    (s0 s1 s2 s7 s8 s9 s10 s11 s12 s13 s14 s15 s16 s17 s18 s19 s20 s21 s22 s23 s24 s25 s26 s27 s28 s29 s30 s31 s32 s33 s34 s35 s36 s37 s38 s39 s40 s41 s42 s43 s44 s45 s46 s47 s48 s49 s50 s51 s52 s53 s54 s55 s56 s57 s58 s59 s60 s61 s62 s63 s64 s65 s66 s67 s68 s69 s70 s71 s72 s73 s74 s75 s76 s77 s78 s79 s80 s81 s82 s83 s84 s85 s86 s87 s88 s89 s90 s91 s92 s93 s94 s95 s96 s97 s98 s99 s100 s101 s102 s103 s104 s105 s106 s107 s108 s109 s110 s111 s112 s113 : Value) (Q : Exit → Act → World → Prop)
    (hexit : ∀ (u15 u16 u17 u18 u19 u20 u21 u22 u23 : Value) (w' : World), Bx gA gB gC ya za yb zb yc zc n0 WB w' → Q .normal ⟨#[s0, s1, s2, .int .i64 k, .pointer (some ⟨gA, 0, none⟩), .pointer (some ⟨gB, 0, none⟩), .pointer (some ⟨gC, 0, none⟩), s7, s8, s9, s10, s11, s12, s13, s14, u15, u16, u17, u18, u19, u20, u21, u22, u23, s24, s25, s26, s27, s28, s29, s30, s31, s32, s33, s34, s35, s36, s37, s38, s39, s40, s41, s42, s43, s44, s45, s46, s47, s48, s49, s50, s51, s52, s53, s54, s55, s56, s57, s58, s59, s60, s61, s62, s63, s64, s65, s66, s67, s68, s69, s70, s71, s72, s73, s74, s75, s76, s77, s78, s79, s80, s81, s82, s83, s84, s85, s86, s87, s88, s89, s90, s91, s92, s93, s94, s95, s96, s97, s98, s99, s100, s101, s102, s103, s104, s105, s106, s107, s108, s109, s110, s111, s112, s113], []⟩ w') :
    Code.wp Tryd.prog ((Tryd.f4.body.bind (findRegion 2)).getD .skip) Q ⟨#[s0, s1, s2, .int .i64 k, .pointer (some ⟨gA, 0, none⟩), .pointer (some ⟨gB, 0, none⟩), .pointer (some ⟨gC, 0, none⟩), s7, s8, s9, s10, s11, s12, s13, s14, s15, s16, s17, s18, s19, s20, s21, s22, s23, s24, s25, s26, s27, s28, s29, s30, s31, s32, s33, s34, s35, s36, s37, s38, s39, s40, s41, s42, s43, s44, s45, s46, s47, s48, s49, s50, s51, s52, s53, s54, s55, s56, s57, s58, s59, s60, s61, s62, s63, s64, s65, s66, s67, s68, s69, s70, s71, s72, s73, s74, s75, s76, s77, s78, s79, s80, s81, s82, s83, s84, s85, s86, s87, s88, s89, s90, s91, s92, s93, s94, s95, s96, s97, s98, s99, s100, s101, s102, s103, s104, s105, s106, s107, s108, s109, s110, s111, s112, s113], []⟩ WB := by
  dsimp only at hexit ⊢
  conv => arg 2; whnf
  refine Code.wp_mono (Q := fun e a w' => match e with | .normal => ∃ u15 u16 u17 u18 u19 u20 u21 u22 u23 : Value, a = ⟨#[s0, s1, s2, .int .i64 k, .pointer (some ⟨gA, 0, none⟩), .pointer (some ⟨gB, 0, none⟩), .pointer (some ⟨gC, 0, none⟩), s7, s8, s9, s10, s11, s12, s13, s14, u15, u16, u17, u18, u19, u20, u21, u22, u23, s24, s25, s26, s27, s28, s29, s30, s31, s32, s33, s34, s35, s36, s37, s38, s39, s40, s41, s42, s43, s44, s45, s46, s47, s48, s49, s50, s51, s52, s53, s54, s55, s56, s57, s58, s59, s60, s61, s62, s63, s64, s65, s66, s67, s68, s69, s70, s71, s72, s73, s74, s75, s76, s77, s78, s79, s80, s81, s82, s83, s84, s85, s86, s87, s88, s89, s90, s91, s92, s93, s94, s95, s96, s97, s98, s99, s100, s101, s102, s103, s104, s105, s106, s107, s108, s109, s110, s111, s112, s113], []⟩ ∧ Bx gA gB gC ya za yb zb yc zc n0 WB w' | _ => False) ?_ ?_
  · intro e a w' h
    cases e with
    | normal =>
      obtain ⟨u15, u16, u17, u18, u19, u20, u21, u22, u23, rfl, h1⟩ := h
      exact hexit u15 u16 u17 u18 u19 u20 u21 u22 u23 w' h1
    | _ => exact h.elim
  clear hexit
  have hsz : n0 ≤ WB.heap.size := by have := lt_of_block HX.out.1; omega
  have X0 : Bx gA gB gC a1 a0 b1 b0 c1 c0 n0 WB WB.drew := ⟨HX.out.1, HX.out.2.1, HX.out.2.2.1, below_drewN (Below.refl _ _) 1⟩
  obtain ⟨f0, f1, f2, f3, f4, f5, fz⟩ := X0.cells
  obtain ⟨n1, n2, n3⟩ := hn
  go_region_with (first
    | (go_at_call 11; (with_reducible refine (HCA.out _).mono ?_); rintro e w1 ⟨rfl, hb⟩; have X1 : Bx gA gB gC a1 a0 b1 b0 c1 c0 n0 WB w1 := Bx.on (by assumption) hb hsz; obtain ⟨f0, f1, f2, f3, f4, f5, fz⟩ := X1.cells; clear hb)
    | (go_at_call 11; (with_reducible refine (HCB.out _).mono ?_); rintro e w2 ⟨rfl, hb⟩; have X2 : Bx gA gB gC a1 a0 b1 b0 c1 c0 n0 WB w2 := Bx.on (by assumption) hb hsz; obtain ⟨f0, f1, f2, f3, f4, f5, fz⟩ := X2.cells; clear hb)
    | (go_at_call 11; (with_reducible refine (HCC.out _).mono ?_); rintro e w3 ⟨rfl, hb⟩; have X3 : Bx gA gB gC a1 a0 b1 b0 c1 c0 n0 WB w3 := Bx.on (by assumption) hb hsz; obtain ⟨f0, f1, f2, f3, f4, f5, fz⟩ := X3.cells; clear hb))
  all_goals exact ⟨_, _, _, _, _, _, _, _, _, rfl, X3.put _ _ _ _ _ _ n1 n2 n3⟩

end Go.Proofs.YtfalhemeiengcaaDoor
