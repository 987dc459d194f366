/-
  The law ActionSums of layer 21: the region of the sums
-/
import Derived.Test.YtnknpgfconfgjaaJA16
import Derived.Test.YtnknpgfconfgjaaJA17
import Derived.Test.YtnknpgfconfgjaaJA18

namespace Go.Proofs.Ytnknpgfconfgjaa
open Go.RowKit Go.Maps

set_option maxRecDepth 100000 in
set_option maxHeartbeats 4000000 in
theorem reg8_back : ∀ (i : Nat) (o : Oper), reg8.1[i]? = some o → ∀ e ∈ o.after, Region.binds .any e = true → e.on < i := by
  have h : ((List.range 63).all fun i => (reg8.1[i]?.map fun o => o.after.all fun e => !Region.binds .any e || decide (e.on < i)).getD false) = true := by kernel_rfl
  intro i o ho e he hb
  have hi : i < 63 := by
    by_cases q : i < 63
    · exact q
    · rw [Array.getElem?_eq_none (by rw [ops8_size]; omega)] at ho; cases ho
  have h2 := List.all_eq_true.1 h i (List.mem_range.2 hi)
  rw [ho] at h2
  simp only [Option.map_some, Option.getD_some, Array.all_eq_true'] at h2
  have h3 := h2 e he
  rw [hb] at h3
  simpa using h3

set_option maxRecDepth 100000 in
set_option maxHeartbeats 4000000 in
theorem sreg8 (gA gB gW gP gx gM gN gD ay az bY bZ my mz ny nz r1y r1z r2y r2z r5y r5z : Nat) (Wi : Int) (w WB : World) (HS : Hid (Below w.heap.size w WB ∧ WB.cell? ⟨gA, 0, none⟩ = some (.int .u64 (ay : Int)) ∧ WB.cell? ⟨gA, 1, none⟩ = some (.int .u64 (az : Int)) ∧ WB.cell? ⟨gB, 0, none⟩ = some (.int .u64 (bY : Int)) ∧ WB.cell? ⟨gB, 1, none⟩ = some (.int .u64 (bZ : Int)) ∧ WB.cell? ⟨gW, 0, none⟩ = some (.int .i64 Wi) ∧ WB.cell? ⟨gP, 0, none⟩ = some (.pointer (some ⟨gx, 0, none⟩)) ∧ WB.cell? ⟨gM, 0, none⟩ = some (.int .u64 (my : Int)) ∧ WB.cell? ⟨gM, 1, none⟩ = some (.int .u64 (mz : Int)) ∧ WB.cell? ⟨gN, 0, none⟩ = some (.int .u64 (ny : Int)) ∧ WB.cell? ⟨gN, 1, none⟩ = some (.int .u64 (nz : Int)) ∧ WB.cell? ⟨gD, 0, none⟩ = some (.int .u8 7) ∧ WB.cell? ⟨gD, 1, none⟩ = some (.int .i64 Wi) ∧ WB.cell? ⟨gD, 2, none⟩ = some (.int .i64 0) ∧ WB.cell? ⟨gD, 3, none⟩ = some (.int .i64 0) ∧ WB.cell? ⟨gD, 4, none⟩ = some (.int .u64 0) ∧ WB.cell? ⟨gD, 5, none⟩ = some (.int .u64 0)))
    (HCA : Hid (∀ W', W'.cell? ⟨gW, 0, none⟩ = some (.int .i64 Wi) → Calls Try.prog 6 #[.agg #[.int .u64 (ay : Int), .int .u64 (az : Int)], .pointer (some ⟨gW, 0, none⟩)] W' fun e w' => e = .returned (.agg #[.int .u8 1, .int .i64 Wi, .int .i64 0, .int .i64 0, .int .u64 (my : Int), .int .u64 (mz : Int)]) ∧ Below W'.heap.size W' w'))
    (HCB : Hid (∀ W', W'.cell? ⟨gW, 0, none⟩ = some (.int .i64 Wi) → Calls Try.prog 6 #[.agg #[.int .u64 (bY : Int), .int .u64 (bZ : Int)], .pointer (some ⟨gW, 0, none⟩)] W' fun e w' => e = .returned (.agg #[.int .u8 1, .int .i64 Wi, .int .i64 0, .int .i64 0, .int .u64 (ny : Int), .int .u64 (nz : Int)]) ∧ Below W'.heap.size W' w'))
    (HADD : Hid (∀ W', Calls Try.prog 10 #[.agg #[.int .u64 (my : Int), .int .u64 (mz : Int)], .agg #[.int .u64 (ny : Int), .int .u64 (nz : Int)], .int .i64 Wi] W' fun e w' => e = .returned (.agg #[.int .u64 (r1y : Int), .int .u64 (r1z : Int)]) ∧ Below W'.heap.size W' w'))
    (HSUB : Hid (∀ W', Calls Try.prog 11 #[.agg #[.int .u64 (my : Int), .int .u64 (mz : Int)], .agg #[.int .u64 (ny : Int), .int .u64 (nz : Int)], .int .i64 Wi] W' fun e w' => e = .returned (.agg #[.int .u64 (r2y : Int), .int .u64 (r2z : Int)]) ∧ Below W'.heap.size W' w'))
    (HOF1 : Hid (∀ W' gc, W'.cell? ⟨gP, 0, none⟩ = some (.pointer (some ⟨gx, 0, none⟩)) → W'.heap[gc]? = some (.cells #[.int .u8 1, .int .i64 Wi, .int .i64 0, .int .i64 0, .int .u64 (my : Int), .int .u64 (mz : Int), .int .u8 1, .int .i64 Wi, .int .i64 0, .int .i64 0, .int .u64 (ny : Int), .int .u64 (nz : Int), .int .u8 11, .int .i64 Wi, .int .i64 0, .int .i64 0, .int .u64 0, .int .u64 0] 33 (0, 0)) → Calls Try.prog 8 #[.slice (some ⟨gc, 0, none⟩) 3 3, .pointer (some ⟨gP, 0, none⟩)] W' fun e w' => e = .returned (.agg #[.int .u64 (r1y : Int), .int .u64 (r1z : Int)]) ∧ Below W'.heap.size W' w'))
    (HOF2 : Hid (∀ W' gc, W'.cell? ⟨gP, 0, none⟩ = some (.pointer (some ⟨gx, 0, none⟩)) → W'.heap[gc]? = some (.cells #[.int .u8 1, .int .i64 Wi, .int .i64 0, .int .i64 0, .int .u64 (my : Int), .int .u64 (mz : Int), .int .u8 1, .int .i64 Wi, .int .i64 0, .int .i64 0, .int .u64 (ny : Int), .int .u64 (nz : Int), .int .u8 12, .int .i64 Wi, .int .i64 0, .int .i64 0, .int .u64 0, .int .u64 0] 33 (0, 0)) → Calls Try.prog 8 #[.slice (some ⟨gc, 0, none⟩) 3 3, .pointer (some ⟨gP, 0, none⟩)] W' fun e w' => e = .returned (.agg #[.int .u64 (r2y : Int), .int .u64 (r2z : Int)]) ∧ Below W'.heap.size W' w'))
    (HOF3 : Hid (∀ W' gc, W'.cell? ⟨gP, 0, none⟩ = some (.pointer (some ⟨gx, 0, none⟩)) → W'.heap[gc]? = some (.cells #[.int .u8 1, .int .i64 Wi, .int .i64 0, .int .i64 0, .int .u64 (my : Int), .int .u64 (mz : Int), .int .u8 7, .int .i64 Wi, .int .i64 0, .int .i64 0, .int .u64 0, .int .u64 0, .int .u8 7, .int .i64 Wi, .int .i64 0, .int .i64 0, .int .u64 0, .int .u64 0] 33 (0, 0)) → Calls Try.prog 8 #[.slice (some ⟨gc, 0, none⟩) 3 3, .pointer (some ⟨gP, 0, none⟩)] W' fun e w' => e = .returned (.agg #[.int .u64 (my : Int), .int .u64 (mz : Int)]) ∧ Below W'.heap.size W' w'))
    (HOF4 : Hid (∀ W' gc, W'.cell? ⟨gP, 0, none⟩ = some (.pointer (some ⟨gx, 0, none⟩)) → W'.heap[gc]? = some (.cells #[.int .u8 1, .int .i64 Wi, .int .i64 0, .int .i64 0, .int .u64 (my : Int), .int .u64 (mz : Int), .int .u8 8, .int .i64 Wi, .int .i64 0, .int .i64 0, .int .u64 0, .int .u64 0, .int .u8 1, .int .i64 Wi, .int .i64 0, .int .i64 0, .int .u64 (my : Int), .int .u64 (mz : Int), .int .u8 11, .int .i64 Wi, .int .i64 0, .int .i64 0, .int .u64 0, .int .u64 0] 33 (0, 0)) → Calls Try.prog 8 #[.slice (some ⟨gc, 0, none⟩) 4 4, .pointer (some ⟨gP, 0, none⟩)] W' fun e w' => e = .returned (.agg #[.int .u64 0, .int .u64 0]) ∧ Below W'.heap.size W' w'))
    (s0 s1 s2 s3 s7 s8 s15 s16 s17 s18 s19 s20 s21 s22 s23 s24 s25 s26 s27 s28 s29 s30 s31 s32 s33 s34 s35 s36 s37 s38 s39 s40 s41 s42 s43 s44 s45 s46 s47 s48 s49 s50 s51 s52 s53 s54 s55 s56 s57 s58 s59 s60 s61 s62 s63 s64 s65 s66 s67 s68 s69 s70 s71 s72 s73 s74 s75 s76 s77 s78 s79 s80 s81 s82 s83 s84 s85 s86 s87 s88 s89 s90 s91 s92 s93 s94 s95 s96 s97 s98 s99 s100 s101 s102 s103 s104 s105 s106 s107 s108 s109 s110 s111 s112 s113 s114 s115 s116 s117 s118 s119 s120 s121 s122 s123 s124 s125 s126 s127 s128 s129 s130 s131 s132 s133 s134 s135 s136 s137 s138 s139 s140 s141 s142 s143 s144 s145 s146 s147 s148 s149 s150 s151 s152 s153 s154 s155 s156 s157 s158 s159 s160 : Value) (Q : Exit → Act → World → Prop)
    (hexit : ∀ (u40 u41 u42 u43 u44 u45 u46 u47 u48 u49 u50 u51 u52 u53 u54 u55 u56 u57 u58 u59 u60 u61 u62 u63 u64 u65 u66 u67 u68 u69 u70 u71 u72 u73 u74 u75 u76 u77 u78 u79 u80 u81 u82 u83 u84 u85 u86 u87 u88 u89 u90 u91 u92 u93 u94 u95 u96 u97 u98 u99 u100 u101 : Value) (w' : World), (Below w.heap.size w w' ∧ w'.cell? ⟨gA, 0, none⟩ = some (.int .u64 (ay : Int)) ∧ w'.cell? ⟨gA, 1, none⟩ = some (.int .u64 (az : Int)) ∧ w'.cell? ⟨gB, 0, none⟩ = some (.int .u64 (bY : Int)) ∧ w'.cell? ⟨gB, 1, none⟩ = some (.int .u64 (bZ : Int)) ∧ w'.cell? ⟨gW, 0, none⟩ = some (.int .i64 Wi) ∧ w'.cell? ⟨gP, 0, none⟩ = some (.pointer (some ⟨gx, 0, none⟩)) ∧ w'.cell? ⟨gM, 0, none⟩ = some (.int .u64 (my : Int)) ∧ w'.cell? ⟨gM, 1, none⟩ = some (.int .u64 (mz : Int)) ∧ w'.cell? ⟨gN, 0, none⟩ = some (.int .u64 (ny : Int)) ∧ w'.cell? ⟨gN, 1, none⟩ = some (.int .u64 (nz : Int)) ∧ w'.cell? ⟨gD, 0, none⟩ = some (.int .u8 7) ∧ w'.cell? ⟨gD, 1, none⟩ = some (.int .i64 Wi) ∧ w'.cell? ⟨gD, 2, none⟩ = some (.int .i64 0) ∧ w'.cell? ⟨gD, 3, none⟩ = some (.int .i64 0) ∧ w'.cell? ⟨gD, 4, none⟩ = some (.int .u64 0) ∧ w'.cell? ⟨gD, 5, none⟩ = some (.int .u64 0)) → Q .normal ⟨#[s0, s1, s2, s3, .pointer (some ⟨gA, 0, none⟩), .pointer (some ⟨gB, 0, none⟩), .pointer (some ⟨gW, 0, none⟩), s7, s8, .pointer (some ⟨gP, 0, none⟩), .func (Fn.func 6) #[] #[.pointer (some ⟨gW, 0, none⟩)], .func (Fn.func 8) #[] #[.pointer (some ⟨gP, 0, none⟩)], .pointer (some ⟨gM, 0, none⟩), .pointer (some ⟨gN, 0, none⟩), .pointer (some ⟨gD, 0, none⟩), s15, s16, s17, s18, s19, s20, s21, s22, s23, s24, s25, s26, s27, s28, s29, s30, s31, s32, s33, s34, s35, s36, s37, s38, s39, u40, u41, u42, u43, u44, u45, u46, u47, u48, u49, u50, u51, u52, u53, u54, u55, u56, u57, u58, u59, u60, u61, u62, u63, u64, u65, u66, u67, u68, u69, u70, u71, u72, u73, u74, u75, u76, u77, u78, u79, u80, u81, u82, u83, u84, u85, u86, u87, u88, u89, u90, u91, u92, u93, u94, u95, u96, u97, u98, u99, u100, u101, .bool false, s103, s104, s105, s106, s107, s108, s109, s110, s111, s112, s113, s114, s115, s116, s117, s118, s119, s120, s121, s122, s123, s124, s125, s126, s127, s128, s129, s130, s131, s132, s133, s134, s135, s136, s137, s138, s139, s140, s141, s142, s143, s144, s145, s146, s147, s148, s149, s150, s151, s152, s153, s154, s155, s156, s157, s158, s159, s160], []⟩ w') :
    Code.wp Try.prog ((Try.f3.body.bind (findRegion 8)).getD .skip) Q ⟨#[s0, s1, s2, s3, .pointer (some ⟨gA, 0, none⟩), .pointer (some ⟨gB, 0, none⟩), .pointer (some ⟨gW, 0, none⟩), s7, s8, .pointer (some ⟨gP, 0, none⟩), .func (Fn.func 6) #[] #[.pointer (some ⟨gW, 0, none⟩)], .func (Fn.func 8) #[] #[.pointer (some ⟨gP, 0, none⟩)], .pointer (some ⟨gM, 0, none⟩), .pointer (some ⟨gN, 0, none⟩), .pointer (some ⟨gD, 0, none⟩), s15, s16, s17, s18, s19, s20, s21, s22, s23, s24, s25, s26, s27, s28, s29, s30, s31, s32, s33, s34, s35, s36, s37, s38, s39, s40, s41, s42, s43, s44, s45, s46, s47, s48, s49, s50, s51, s52, s53, s54, s55, s56, s57, s58, s59, s60, s61, s62, s63, s64, s65, s66, s67, s68, s69, s70, s71, s72, s73, s74, s75, s76, s77, s78, s79, s80, s81, s82, s83, s84, s85, s86, s87, s88, s89, s90, s91, s92, s93, s94, s95, s96, s97, s98, s99, s100, s101, s102, s103, s104, s105, s106, s107, s108, s109, s110, s111, s112, s113, s114, s115, s116, s117, s118, s119, s120, s121, s122, s123, s124, s125, s126, s127, s128, s129, s130, s131, s132, s133, s134, s135, s136, s137, s138, s139, s140, s141, s142, s143, s144, s145, s146, s147, s148, s149, s150, s151, s152, s153, s154, s155, s156, s157, s158, s159, s160], []⟩ WB := by
  have hcells : ∀ W, Below WB.heap.size WB W → (Below w.heap.size w W ∧ W.cell? ⟨gA, 0, none⟩ = some (.int .u64 (ay : Int)) ∧ W.cell? ⟨gA, 1, none⟩ = some (.int .u64 (az : Int)) ∧ W.cell? ⟨gB, 0, none⟩ = some (.int .u64 (bY : Int)) ∧ W.cell? ⟨gB, 1, none⟩ = some (.int .u64 (bZ : Int)) ∧ W.cell? ⟨gW, 0, none⟩ = some (.int .i64 Wi) ∧ W.cell? ⟨gP, 0, none⟩ = some (.pointer (some ⟨gx, 0, none⟩)) ∧ W.cell? ⟨gM, 0, none⟩ = some (.int .u64 (my : Int)) ∧ W.cell? ⟨gM, 1, none⟩ = some (.int .u64 (mz : Int)) ∧ W.cell? ⟨gN, 0, none⟩ = some (.int .u64 (ny : Int)) ∧ W.cell? ⟨gN, 1, none⟩ = some (.int .u64 (nz : Int)) ∧ W.cell? ⟨gD, 0, none⟩ = some (.int .u8 7) ∧ W.cell? ⟨gD, 1, none⟩ = some (.int .i64 Wi) ∧ W.cell? ⟨gD, 2, none⟩ = some (.int .i64 0) ∧ W.cell? ⟨gD, 3, none⟩ = some (.int .i64 0) ∧ W.cell? ⟨gD, 4, none⟩ = some (.int .u64 0) ∧ W.cell? ⟨gD, 5, none⟩ = some (.int .u64 0)) := fun W hb => held_16_0 (hb.mono (by exact Nat.le_refl _)) HS.out
  have c : C8 gA gB gW gP gx gM gN gD ay az bY bZ my mz ny nz r1y r1z r2y r2z r5y r5z Wi WB [s0, s1, s2, s3, .pointer (some ⟨gA, 0, none⟩), .pointer (some ⟨gB, 0, none⟩), .pointer (some ⟨gW, 0, none⟩), s7, s8, .pointer (some ⟨gP, 0, none⟩), .func (Fn.func 6) #[] #[.pointer (some ⟨gW, 0, none⟩)], .func (Fn.func 8) #[] #[.pointer (some ⟨gP, 0, none⟩)], .pointer (some ⟨gM, 0, none⟩), .pointer (some ⟨gN, 0, none⟩), .pointer (some ⟨gD, 0, none⟩), s15, s16, s17, s18, s19, s20, s21, s22, s23, s24, s25, s26, s27, s28, s29, s30, s31, s32, s33, s34, s35, s36, s37, s38, s39, s40, s41, s42, s43, s44, s45, s46, s47, s48, s49, s50, s51, s52, s53, s54, s55, s56, s57, s58, s59, s60, s61, s62, s63, s64, s65, s66, s67, s68, s69, s70, s71, s72, s73, s74, s75, s76, s77, s78, s79, s80, s81, s82, s83, s84, s85, s86, s87, s88, s89, s90, s91, s92, s93, s94, s95, s96, s97, s98, s99, s100, s101, s102, s103, s104, s105, s106, s107, s108, s109, s110, s111, s112, s113, s114, s115, s116, s117, s118, s119, s120, s121, s122, s123, s124, s125, s126, s127, s128, s129, s130, s131, s132, s133, s134, s135, s136, s137, s138, s139, s140, s141, s142, s143, s144, s145, s146, s147, s148, s149, s150, s151, s152, s153, s154, s155, s156, s157, s158, s159, s160] := { len := Nat.le_of_ble_eq_true rfl, t4 := rfl, t5 := rfl, t6 := rfl, t9 := rfl, t10 := rfl, t11 := rfl, t12 := rfl, t13 := rfl, t14 := rfl, cells := fun W hb => (hcells W hb).2, HCA := HCA.out, HCB := HCB.out, HADD := HADD.out, HSUB := HSUB.out, HOF1 := HOF1.out, HOF2 := HOF2.out, HOF3 := HOF3.out, HOF4 := HOF4.out }
  have h0 : (⟨#[s0, s1, s2, s3, .pointer (some ⟨gA, 0, none⟩), .pointer (some ⟨gB, 0, none⟩), .pointer (some ⟨gW, 0, none⟩), s7, s8, .pointer (some ⟨gP, 0, none⟩), .func (Fn.func 6) #[] #[.pointer (some ⟨gW, 0, none⟩)], .func (Fn.func 8) #[] #[.pointer (some ⟨gP, 0, none⟩)], .pointer (some ⟨gM, 0, none⟩), .pointer (some ⟨gN, 0, none⟩), .pointer (some ⟨gD, 0, none⟩), s15, s16, s17, s18, s19, s20, s21, s22, s23, s24, s25, s26, s27, s28, s29, s30, s31, s32, s33, s34, s35, s36, s37, s38, s39, s40, s41, s42, s43, s44, s45, s46, s47, s48, s49, s50, s51, s52, s53, s54, s55, s56, s57, s58, s59, s60, s61, s62, s63, s64, s65, s66, s67, s68, s69, s70, s71, s72, s73, s74, s75, s76, s77, s78, s79, s80, s81, s82, s83, s84, s85, s86, s87, s88, s89, s90, s91, s92, s93, s94, s95, s96, s97, s98, s99, s100, s101, s102, s103, s104, s105, s106, s107, s108, s109, s110, s111, s112, s113, s114, s115, s116, s117, s118, s119, s120, s121, s122, s123, s124, s125, s126, s127, s128, s129, s130, s131, s132, s133, s134, s135, s136, s137, s138, s139, s140, s141, s142, s143, s144, s145, s146, s147, s148, s149, s150, s151, s152, s153, s154, s155, s156, s157, s158, s159, s160], []⟩ : Act) = frm 40 [s0, s1, s2, s3, .pointer (some ⟨gA, 0, none⟩), .pointer (some ⟨gB, 0, none⟩), .pointer (some ⟨gW, 0, none⟩), s7, s8, .pointer (some ⟨gP, 0, none⟩), .func (Fn.func 6) #[] #[.pointer (some ⟨gW, 0, none⟩)], .func (Fn.func 8) #[] #[.pointer (some ⟨gP, 0, none⟩)], .pointer (some ⟨gM, 0, none⟩), .pointer (some ⟨gN, 0, none⟩), .pointer (some ⟨gD, 0, none⟩), s15, s16, s17, s18, s19, s20, s21, s22, s23, s24, s25, s26, s27, s28, s29, s30, s31, s32, s33, s34, s35, s36, s37, s38, s39, s40, s41, s42, s43, s44, s45, s46, s47, s48, s49, s50, s51, s52, s53, s54, s55, s56, s57, s58, s59, s60, s61, s62, s63, s64, s65, s66, s67, s68, s69, s70, s71, s72, s73, s74, s75, s76, s77, s78, s79, s80, s81, s82, s83, s84, s85, s86, s87, s88, s89, s90, s91, s92, s93, s94, s95, s96, s97, s98, s99, s100, s101, s102, s103, s104, s105, s106, s107, s108, s109, s110, s111, s112, s113, s114, s115, s116, s117, s118, s119, s120, s121, s122, s123, s124, s125, s126, s127, s128, s129, s130, s131, s132, s133, s134, s135, s136, s137, s138, s139, s140, s141, s142, s143, s144, s145, s146, s147, s148, s149, s150, s151, s152, s153, s154, s155, s156, s157, s158, s159, s160] [s40, s41, s42, s43, s44, s45, s46, s47, s48, s49, s50, s51, s52, s53, s54, s55, s56, s57, s58, s59, s60, s61, s62, s63, s64, s65, s66, s67, s68, s69, s70, s71, s72, s73, s74, s75, s76, s77, s78, s79, s80, s81, s82, s83, s84, s85, s86, s87, s88, s89, s90, s91, s92, s93, s94, s95, s96, s97, s98, s99, s100, s101, s102] := rfl
  have hend : ∀ f : Nat → Value, frm 40 [s0, s1, s2, s3, .pointer (some ⟨gA, 0, none⟩), .pointer (some ⟨gB, 0, none⟩), .pointer (some ⟨gW, 0, none⟩), s7, s8, .pointer (some ⟨gP, 0, none⟩), .func (Fn.func 6) #[] #[.pointer (some ⟨gW, 0, none⟩)], .func (Fn.func 8) #[] #[.pointer (some ⟨gP, 0, none⟩)], .pointer (some ⟨gM, 0, none⟩), .pointer (some ⟨gN, 0, none⟩), .pointer (some ⟨gD, 0, none⟩), s15, s16, s17, s18, s19, s20, s21, s22, s23, s24, s25, s26, s27, s28, s29, s30, s31, s32, s33, s34, s35, s36, s37, s38, s39, s40, s41, s42, s43, s44, s45, s46, s47, s48, s49, s50, s51, s52, s53, s54, s55, s56, s57, s58, s59, s60, s61, s62, s63, s64, s65, s66, s67, s68, s69, s70, s71, s72, s73, s74, s75, s76, s77, s78, s79, s80, s81, s82, s83, s84, s85, s86, s87, s88, s89, s90, s91, s92, s93, s94, s95, s96, s97, s98, s99, s100, s101, s102, s103, s104, s105, s106, s107, s108, s109, s110, s111, s112, s113, s114, s115, s116, s117, s118, s119, s120, s121, s122, s123, s124, s125, s126, s127, s128, s129, s130, s131, s132, s133, s134, s135, s136, s137, s138, s139, s140, s141, s142, s143, s144, s145, s146, s147, s148, s149, s150, s151, s152, s153, s154, s155, s156, s157, s158, s159, s160] ((List.range 63).map f) = ⟨#[s0, s1, s2, s3, .pointer (some ⟨gA, 0, none⟩), .pointer (some ⟨gB, 0, none⟩), .pointer (some ⟨gW, 0, none⟩), s7, s8, .pointer (some ⟨gP, 0, none⟩), .func (Fn.func 6) #[] #[.pointer (some ⟨gW, 0, none⟩)], .func (Fn.func 8) #[] #[.pointer (some ⟨gP, 0, none⟩)], .pointer (some ⟨gM, 0, none⟩), .pointer (some ⟨gN, 0, none⟩), .pointer (some ⟨gD, 0, none⟩), s15, s16, s17, s18, s19, s20, s21, s22, s23, s24, s25, s26, s27, s28, s29, s30, s31, s32, s33, s34, s35, s36, s37, s38, s39, f 0, f 1, f 2, f 3, f 4, f 5, f 6, f 7, f 8, f 9, f 10, f 11, f 12, f 13, f 14, f 15, f 16, f 17, f 18, f 19, f 20, f 21, f 22, f 23, f 24, f 25, f 26, f 27, f 28, f 29, f 30, f 31, f 32, f 33, f 34, f 35, f 36, f 37, f 38, f 39, f 40, f 41, f 42, f 43, f 44, f 45, f 46, f 47, f 48, f 49, f 50, f 51, f 52, f 53, f 54, f 55, f 56, f 57, f 58, f 59, f 60, f 61, f 62, s103, s104, s105, s106, s107, s108, s109, s110, s111, s112, s113, s114, s115, s116, s117, s118, s119, s120, s121, s122, s123, s124, s125, s126, s127, s128, s129, s130, s131, s132, s133, s134, s135, s136, s137, s138, s139, s140, s141, s142, s143, s144, s145, s146, s147, s148, s149, s150, s151, s152, s153, s154, s155, s156, s157, s158, s159, s160], []⟩ := fun f => rfl
  rw [h0]
  clear h0
  have hex : ∀ (f : Nat → Value) (w' : World), (Below w.heap.size w w' ∧ w'.cell? ⟨gA, 0, none⟩ = some (.int .u64 (ay : Int)) ∧ w'.cell? ⟨gA, 1, none⟩ = some (.int .u64 (az : Int)) ∧ w'.cell? ⟨gB, 0, none⟩ = some (.int .u64 (bY : Int)) ∧ w'.cell? ⟨gB, 1, none⟩ = some (.int .u64 (bZ : Int)) ∧ w'.cell? ⟨gW, 0, none⟩ = some (.int .i64 Wi) ∧ w'.cell? ⟨gP, 0, none⟩ = some (.pointer (some ⟨gx, 0, none⟩)) ∧ w'.cell? ⟨gM, 0, none⟩ = some (.int .u64 (my : Int)) ∧ w'.cell? ⟨gM, 1, none⟩ = some (.int .u64 (mz : Int)) ∧ w'.cell? ⟨gN, 0, none⟩ = some (.int .u64 (ny : Int)) ∧ w'.cell? ⟨gN, 1, none⟩ = some (.int .u64 (nz : Int)) ∧ w'.cell? ⟨gD, 0, none⟩ = some (.int .u8 7) ∧ w'.cell? ⟨gD, 1, none⟩ = some (.int .i64 Wi) ∧ w'.cell? ⟨gD, 2, none⟩ = some (.int .i64 0) ∧ w'.cell? ⟨gD, 3, none⟩ = some (.int .i64 0) ∧ w'.cell? ⟨gD, 4, none⟩ = some (.int .u64 0) ∧ w'.cell? ⟨gD, 5, none⟩ = some (.int .u64 0)) → f 62 = .bool false → Q .normal ⟨#[s0, s1, s2, s3, .pointer (some ⟨gA, 0, none⟩), .pointer (some ⟨gB, 0, none⟩), .pointer (some ⟨gW, 0, none⟩), s7, s8, .pointer (some ⟨gP, 0, none⟩), .func (Fn.func 6) #[] #[.pointer (some ⟨gW, 0, none⟩)], .func (Fn.func 8) #[] #[.pointer (some ⟨gP, 0, none⟩)], .pointer (some ⟨gM, 0, none⟩), .pointer (some ⟨gN, 0, none⟩), .pointer (some ⟨gD, 0, none⟩), s15, s16, s17, s18, s19, s20, s21, s22, s23, s24, s25, s26, s27, s28, s29, s30, s31, s32, s33, s34, s35, s36, s37, s38, s39, f 0, f 1, f 2, f 3, f 4, f 5, f 6, f 7, f 8, f 9, f 10, f 11, f 12, f 13, f 14, f 15, f 16, f 17, f 18, f 19, f 20, f 21, f 22, f 23, f 24, f 25, f 26, f 27, f 28, f 29, f 30, f 31, f 32, f 33, f 34, f 35, f 36, f 37, f 38, f 39, f 40, f 41, f 42, f 43, f 44, f 45, f 46, f 47, f 48, f 49, f 50, f 51, f 52, f 53, f 54, f 55, f 56, f 57, f 58, f 59, f 60, f 61, f 62, s103, s104, s105, s106, s107, s108, s109, s110, s111, s112, s113, s114, s115, s116, s117, s118, s119, s120, s121, s122, s123, s124, s125, s126, s127, s128, s129, s130, s131, s132, s133, s134, s135, s136, s137, s138, s139, s140, s141, s142, s143, s144, s145, s146, s147, s148, s149, s150, s151, s152, s153, s154, s155, s156, s157, s158, s159, s160], []⟩ w' := fun f w' h1 h2 => by
    have := hexit (f 0) (f 1) (f 2) (f 3) (f 4) (f 5) (f 6) (f 7) (f 8) (f 9) (f 10) (f 11) (f 12) (f 13) (f 14) (f 15) (f 16) (f 17) (f 18) (f 19) (f 20) (f 21) (f 22) (f 23) (f 24) (f 25) (f 26) (f 27) (f 28) (f 29) (f 30) (f 31) (f 32) (f 33) (f 34) (f 35) (f 36) (f 37) (f 38) (f 39) (f 40) (f 41) (f 42) (f 43) (f 44) (f 45) (f 46) (f 47) (f 48) (f 49) (f 50) (f 51) (f 52) (f 53) (f 54) (f 55) (f 56) (f 57) (f 58) (f 59) (f 60) (f 61) w' h1
    rw [h2]
    exact this
  clear hexit
  generalize [s0, s1, s2, s3, .pointer (some ⟨gA, 0, none⟩), .pointer (some ⟨gB, 0, none⟩), .pointer (some ⟨gW, 0, none⟩), s7, s8, .pointer (some ⟨gP, 0, none⟩), .func (Fn.func 6) #[] #[.pointer (some ⟨gW, 0, none⟩)], .func (Fn.func 8) #[] #[.pointer (some ⟨gP, 0, none⟩)], .pointer (some ⟨gM, 0, none⟩), .pointer (some ⟨gN, 0, none⟩), .pointer (some ⟨gD, 0, none⟩), s15, s16, s17, s18, s19, s20, s21, s22, s23, s24, s25, s26, s27, s28, s29, s30, s31, s32, s33, s34, s35, s36, s37, s38, s39, s40, s41, s42, s43, s44, s45, s46, s47, s48, s49, s50, s51, s52, s53, s54, s55, s56, s57, s58, s59, s60, s61, s62, s63, s64, s65, s66, s67, s68, s69, s70, s71, s72, s73, s74, s75, s76, s77, s78, s79, s80, s81, s82, s83, s84, s85, s86, s87, s88, s89, s90, s91, s92, s93, s94, s95, s96, s97, s98, s99, s100, s101, s102, s103, s104, s105, s106, s107, s108, s109, s110, s111, s112, s113, s114, s115, s116, s117, s118, s119, s120, s121, s122, s123, s124, s125, s126, s127, s128, s129, s130, s131, s132, s133, s134, s135, s136, s137, s138, s139, s140, s141, s142, s143, s144, s145, s146, s147, s148, s149, s150, s151, s152, s153, s154, s155, s156, s157, s158, s159, s160] = T at *
  rw [reg8.2]
  show Code.wp Try.prog (.region 8 reg8.1 true) Q _ WB
  refine wp_region_inv2 (by kernel_rfl) (SI (sR gA gB gW gP gx gM gN gD ay az bY bZ my mz ny nz r1y r1z r2y r2z r5y r5z Wi WB) 63 40 T) ?_ ?_ ?_ ?_
  · exact ⟨_, rfl, by rw [ops8_size]; simp, rfl, RW.init (fun i => did_none _ _) (Nat.le_refl _) (below_drewN (Below.refl _ _) 1)⟩
  · rintro L a w1 i hL hi hnd hdep ⟨l, hl, hLn, rfl, hI⟩
    have hat : At (sR gA gB gW gP gx gM gN gD ay az bY bZ my mz ny nz r1y r1z r2y r2z r5y r5z Wi WB) 63 40 T L l w1 i := ⟨hl, hLn, hi, c.len, sR_fine, sR_stays, hnd, hI⟩
    match i, hi with
    | 0, _ => exact st8_0 Q c hat hdep
    | 1, _ => exact st8_1 Q c hat hdep
    | 2, _ => exact st8_2 Q c hat hdep
    | 3, _ => exact st8_3 Q c hat hdep
    | 4, _ => exact st8_4 Q c hat hdep
    | 5, _ => exact st8_5 Q c hat hdep
    | 6, _ => exact st8_6 Q c hat hdep
    | 7, _ => exact st8_7 Q c hat hdep
    | 8, _ => exact st8_8 Q c hat hdep
    | 9, _ => exact st8_9 Q c hat hdep
    | 10, _ => exact st8_10 Q c hat hdep
    | 11, _ => exact st8_11 Q c hat hdep
    | 12, _ => exact st8_12 Q c hat hdep
    | 13, _ => exact st8_13 Q c hat hdep
    | 14, _ => exact st8_14 Q c hat hdep
    | 15, _ => exact st8_15 Q c hat hdep
    | 16, _ => exact st8_16 Q c hat hdep
    | 17, _ => exact st8_17 Q c hat hdep
    | 18, _ => exact st8_18 Q c hat hdep
    | 19, _ => exact st8_19 Q c hat hdep
    | 20, _ => exact st8_20 Q c hat hdep
    | 21, _ => exact st8_21 Q c hat hdep
    | 22, _ => exact st8_22 Q c hat hdep
    | 23, _ => exact st8_23 Q c hat hdep
    | 24, _ => exact st8_24 Q c hat hdep
    | 25, _ => exact st8_25 Q c hat hdep
    | 26, _ => exact st8_26 Q c hat hdep
    | 27, _ => exact st8_27 Q c hat hdep
    | 28, _ => exact st8_28 Q c hat hdep
    | 29, _ => exact st8_29 Q c hat hdep
    | 30, _ => exact st8_30 Q c hat hdep
    | 31, _ => exact st8_31 Q c hat hdep
    | 32, _ => exact st8_32 Q c hat hdep
    | 33, _ => exact st8_33 Q c hat hdep
    | 34, _ => exact st8_34 Q c hat hdep
    | 35, _ => exact st8_35 Q c hat hdep
    | 36, _ => exact st8_36 Q c hat hdep
    | 37, _ => exact st8_37 Q c hat hdep
    | 38, _ => exact st8_38 Q c hat hdep
    | 39, _ => exact st8_39 Q c hat hdep
    | 40, _ => exact st8_40 Q c hat hdep
    | 41, _ => exact st8_41 Q c hat hdep
    | 42, _ => exact st8_42 Q c hat hdep
    | 43, _ => exact st8_43 Q c hat hdep
    | 44, _ => exact st8_44 Q c hat hdep
    | 45, _ => exact st8_45 Q c hat hdep
    | 46, _ => exact st8_46 Q c hat hdep
    | 47, _ => exact st8_47 Q c hat hdep
    | 48, _ => exact st8_48 Q c hat hdep
    | 49, _ => exact st8_49 Q c hat hdep
    | 50, _ => exact st8_50 Q c hat hdep
    | 51, _ => exact st8_51 Q c hat hdep
    | 52, _ => exact st8_52 Q c hat hdep
    | 53, _ => exact st8_53 Q c hat hdep
    | 54, _ => exact st8_54 Q c hat hdep
    | 55, _ => exact st8_55 Q c hat hdep
    | 56, _ => exact st8_56 Q c hat hdep
    | 57, _ => exact st8_57 Q c hat hdep
    | 58, _ => exact st8_58 Q c hat hdep
    | 59, _ => exact st8_59 Q c hat hdep
    | 60, _ => exact st8_60 Q c hat hdep
    | 61, _ => exact st8_61 Q c hat hdep
    | 62, _ => exact st8_62 Q c hat hdep
    | i + 63, hi => exact absurd hi (by rw [ops8_size]; omega)
  · exact reg8_back
  · rintro L a w1 hall ⟨l, hl, hLn, rfl, hI⟩
    have h1 := hend (nth l)
    rw [list_nth hl] at h1
    rw [h1]
    exact hex (nth l) w1 (hcells w1 hI.glob) (hI.got 62 (hall 62 (by rw [ops8_size]; decide)) rfl)

end Go.Proofs.Ytnknpgfconfgjaa
