/-
  The law NumSums, walked.
-/
import Derived.Test.YtfalhemeiengcaaDoorSumsC
import Derived.Test.YtfalhemeiengcaaDoorKnown01
namespace Go.Proofs.YtfalhemeiengcaaDoor
open Go.RowKit Go.Maps

theorem width01 (wI : Int) : 1 ≤ wrap64 (1 + wrap64 ((IntKind.u64.wrap wI).tmod 128)) ∧ wrap64 (1 + wrap64 ((IntKind.u64.wrap wI).tmod 128)) ≤ 128 := by
  rw [IntKind.wrap_u64]
  have h0 : 0 ≤ wI % 18446744073709551616 := by omega
  rw [Int.tmod_eq_emod_of_nonneg h0]
  unfold wrap64
  omega

set_option maxRecDepth 100000 in
set_option maxHeartbeats 16000000 in
theorem sums_any (a b c : Nat) (wI : Int) (w : World) (ha : a < B * B) (hb : b < B * B) (hc : c < B * B) :
    Calls Tryd.prog 4 #[numV a, numV b, numV c, .int .i64 wI] w fun e w' => e = .returned (.bool true) ∧ Below w.heap.size w w' := by
  obtain ⟨Wi, hWi⟩ : ∃ Wi, wrap64 (1 + wrap64 ((IntKind.u64.wrap wI).tmod 128)) = Wi := ⟨_, rfl⟩
  obtain ⟨b1, b2⟩ := width01 wI
  rw [hWi] at b1 b2
  obtain ⟨W, rfl⟩ := Int.eq_ofNat_of_zero_le (by omega : 0 ≤ Wi)
  obtain ⟨ya, za, ea, qa1, qa0⟩ := numV_parts a
  obtain ⟨yb, zb, eb, qb1, qb0⟩ := numV_parts b
  obtain ⟨yc, zc, ec, qc1, qc0⟩ := numV_parts c
  rw [ea, eb, ec]
  have HK := Lib.hid known01
  have hp := Nat.two_pow_pos (sh (W : Int))
  obtain ⟨ma, hma⟩ : ∃ m, a % 2 ^ sh (W : Int) = m := ⟨_, rfl⟩
  obtain ⟨mb, hmb⟩ : ∃ m, b % 2 ^ sh (W : Int) = m := ⟨_, rfl⟩
  obtain ⟨mc, hmc⟩ : ∃ m, c % 2 ^ sh (W : Int) = m := ⟨_, rfl⟩
  have hla : ma < 2 ^ sh (W : Int) := by rw [← hma]; exact Nat.mod_lt _ hp
  have hlb : mb < 2 ^ sh (W : Int) := by rw [← hmb]; exact Nat.mod_lt _ hp
  have hlc : mc < 2 ^ sh (W : Int) := by rw [← hmc]; exact Nat.mod_lt _ hp
  obtain ⟨pa, ra, fa, ta1, ta0⟩ := numV_parts ma
  obtain ⟨pb, rb, fb, tb1, tb0⟩ := numV_parts mb
  obtain ⟨pc, rc, fc, tc1, tc0⟩ := numV_parts mc
  have HCA : Hid (∀ W', Calls Tryd.prog 11 #[.agg #[.int .u64 (ya : Int), .int .u64 (za : Int)], .int .i64 (W : Int)] W' fun e w' => e = .returned (.agg #[.int .u64 (pa : Int), .int .u64 (ra : Int)]) ∧ Below W'.heap.size W' w') := fun W' => by
    have := numCut_any a (W : Int) W' ha
    unfold RetNum at this
    rw [hma, ea, fa] at this
    exact this
  have HCB : Hid (∀ W', Calls Tryd.prog 11 #[.agg #[.int .u64 (yb : Int), .int .u64 (zb : Int)], .int .i64 (W : Int)] W' fun e w' => e = .returned (.agg #[.int .u64 (pb : Int), .int .u64 (rb : Int)]) ∧ Below W'.heap.size W' w') := fun W' => by
    have := numCut_any b (W : Int) W' hb
    unfold RetNum at this
    rw [hmb, eb, fb] at this
    exact this
  have HCC : Hid (∀ W', Calls Tryd.prog 11 #[.agg #[.int .u64 (yc : Int), .int .u64 (zc : Int)], .int .i64 (W : Int)] W' fun e w' => e = .returned (.agg #[.int .u64 (pc : Int), .int .u64 (rc : Int)]) ∧ Below W'.heap.size W' w') := fun W' => by
    have := numCut_any c (W : Int) W' hc
    unfold RetNum at this
    rw [hmc, ec, fc] at this
    exact this
  have HT := Lib.hid (And.intro ta1 (And.intro ta0 (And.intro tb1 (And.intro tb0 (And.intro tc1 tc0)))))
  have HL := Lib.hid (And.intro hla (And.intro hlb hlc))
  have HWI := Lib.hid hWi
  clear ea eb ec qa1 qa0 qb1 qb0 qc1 qc0 hma hmb hmc fa fb fc ta1 ta0 tb1 tb0 tc1 tc0 hla hlb hlc hWi hp ha hb hc
  go_enter Tryd.func4, Tryd.ntmps4
  go_wp2_with fail
  rw [HWI.out]
  have HX0 : Hid (Bx w.heap.size (w.heap.size + 1) (w.heap.size + 1 + 1) ya za yb zb yc zc w.heap.size (((w.alloc (.cells #[.int .u64 (ya : Int), .int .u64 (za : Int)] 24)).alloc (.cells #[.int .u64 (yb : Int), .int .u64 (zb : Int)] 24)).alloc (.cells #[.int .u64 (yc : Int), .int .u64 (zc : Int)] 24)) (((w.alloc (.cells #[.int .u64 (ya : Int), .int .u64 (za : Int)] 24)).alloc (.cells #[.int .u64 (yb : Int), .int .u64 (zb : Int)] 24)).alloc (.cells #[.int .u64 (yc : Int), .int .u64 (zc : Int)] 24))) := by
    refine ⟨?_, ?_, ?_, Below.refl _ _⟩
    · rw [Below.heap_alloc _ _ _ (by simp; omega), Below.heap_alloc _ _ _ (by simp), heap_new]
    · rw [Below.heap_alloc _ _ _ (by simp)]
      have := heap_new (w.alloc (.cells #[.int .u64 (ya : Int), .int .u64 (za : Int)] 24)) (.cells #[.int .u64 (yb : Int), .int .u64 (zb : Int)] 24)
      rw [World.size_alloc] at this
      exact this
    · have := heap_new ((w.alloc (.cells #[.int .u64 (ya : Int), .int .u64 (za : Int)] 24)).alloc (.cells #[.int .u64 (yb : Int), .int .u64 (zb : Int)] 24)) (.cells #[.int .u64 (yc : Int), .int .u64 (zc : Int)] 24)
      rw [World.size_alloc, World.size_alloc] at this
      exact this
  have HB0 : Hid (Below w.heap.size w (((w.alloc (.cells #[.int .u64 (ya : Int), .int .u64 (za : Int)] 24)).alloc (.cells #[.int .u64 (yb : Int), .int .u64 (zb : Int)] 24)).alloc (.cells #[.int .u64 (yc : Int), .int .u64 (zc : Int)] 24))) :=
    (((Below.refl _ _).alloc (Nat.le_refl _) _).alloc (by simp) _).alloc (by simp; omega) _
  generalize (((w.alloc (.cells #[.int .u64 (ya : Int), .int .u64 (za : Int)] 24)).alloc (.cells #[.int .u64 (yb : Int), .int .u64 (zb : Int)] 24)).alloc (.cells #[.int .u64 (yc : Int), .int .u64 (zc : Int)] 24)) = W0 at *
  refine sumsC w.heap.size (w.heap.size + 1) (w.heap.size + 1 + 1) ya za yb zb yc zc pa ra pb rb pc rc w.heap.size (W : Int) W0 HX0 ⟨Nat.le_refl _, by omega, by omega⟩ HCA HCB HCC _ _ _ _ _ _ _ _ _ _ _ _ _ _ _ _ _ _ _ _ _ _ _ _ _ _ _ _ _ _ _ _ _ _ _ _ _ _ _ _ _ _ _ _ _ _ _ _ _ _ _ _ _ _ _ _ _ _ _ _ _ _ _ _ _ _ _ _ _ _ _ _ _ _ _ _ _ _ _ _ _ _ _ _ _ _ _ _ _ _ _ _ _ _ _ _ _ _ _ _ _ _ _ _ _ _ _ _ _ _ _ ?_
  intro u15 u16 u17 u18 u19 u20 u21 u22 u23 w1 hX1
  dsimp only
  have HX1 := Lib.hid hX1
  clear hX1 HCA HCB HCC HX0
  go_wp2_with fail
  obtain ⟨ta1, ta0, tb1, tb0, tc1, tc0⟩ := HT.out
  obtain ⟨hla, hlb, hlc⟩ := HL.out
  refine sumsA w.heap.size (w.heap.size + 1) (w.heap.size + 1 + 1) ma mb mc (W : Int) w1 (Lib.hid (show _ = _ by rw [← ta1]; exact HX1.out.cells.1)) (Lib.hid (show _ = _ by rw [← ta0]; exact HX1.out.cells.2.1)) (Lib.hid (show _ = _ by rw [← tb1]; exact HX1.out.cells.2.2.1)) (Lib.hid (show _ = _ by rw [← tb0]; exact HX1.out.cells.2.2.2.1)) (Lib.hid (show _ = _ by rw [← tc1]; exact HX1.out.cells.2.2.2.2.1)) (Lib.hid (show _ = _ by rw [← tc0]; exact HX1.out.cells.2.2.2.2.2.1)) (Lib.hid hla) (Lib.hid hlb) (Lib.hid hlc) _ _ _ _ _ _ _ _ _ _ _ _ _ _ _ _ _ _ _ _ _ _ _ _ _ _ _ _ _ _ _ _ _ _ _ _ _ _ _ _ _ _ _ _ _ _ _ _ _ _ _ _ _ _ _ _ _ _ _ _ _ _ _ _ _ _ _ _ _ _ _ _ _ _ _ _ _ _ _ _ _ _ _ _ _ _ _ _ _ _ _ _ _ _ _ _ _ _ _ _ _ _ _ _ _ _ _ _ _ _ _ ?_
  intro w2 hb2
  dsimp only
  have HX2 : Hid (Bx w.heap.size (w.heap.size + 1) (w.heap.size + 1 + 1) pa ra pb rb pc rc w.heap.size w w2) := by
    have h := HX1.out
    have hB : Below w.heap.size w w1 := HB0.out.trans h.2.2.2
    exact Bx.on ⟨h.1, h.2.1, h.2.2.1, hB⟩ hb2 (Nat.le_refl _)
  clear hb2 HX1 HB0
  go_wp2_with fail
  refine sumsB w.heap.size (w.heap.size + 1) (w.heap.size + 1 + 1) ma mb mc (W : Int) w2 (Lib.hid (show _ = _ by rw [← ta1]; exact HX2.out.cells.1)) (Lib.hid (show _ = _ by rw [← ta0]; exact HX2.out.cells.2.1)) (Lib.hid (show _ = _ by rw [← tb1]; exact HX2.out.cells.2.2.1)) (Lib.hid (show _ = _ by rw [← tb0]; exact HX2.out.cells.2.2.2.1)) (Lib.hid (show _ = _ by rw [← tc1]; exact HX2.out.cells.2.2.2.2.1)) (Lib.hid (show _ = _ by rw [← tc0]; exact HX2.out.cells.2.2.2.2.2.1)) (Lib.hid hla) (Lib.hid hlb) (Lib.hid hlc) _ _ _ _ _ _ _ _ _ _ _ _ _ _ _ _ _ _ _ _ _ _ _ _ _ _ _ _ _ _ _ _ _ _ _ _ _ _ _ _ _ _ _ _ _ _ _ _ _ _ _ _ _ _ _ _ _ _ _ _ _ _ _ _ _ _ _ _ _ _ _ _ _ _ _ _ _ _ _ _ _ _ _ _ _ _ _ _ _ _ _ _ _ _ _ _ _ _ _ _ _ _ _ _ _ _ _ _ _ _ _ ?_
  intro w3 hb3
  dsimp only
  have HX3 : Hid (Bx w.heap.size (w.heap.size + 1) (w.heap.size + 1 + 1) pa ra pb rb pc rc w.heap.size w w3) := Bx.on HX2.out hb3 (Nat.le_refl _)
  clear hb3 HX2
  have hlW : ma < 2 ^ W := by
    have e : sh (W : Int) = W := by unfold sh; omega
    rw [e] at hla; exact hla
  have HM := Lib.hid (And.intro hlW (And.intro ta1 ta0))
  clear hla hlb hlc ta1 ta0 tb1 tb0 tc1 tc0 hlW HT HL
  go_wp2_with fail
  go_loopw [9] (fun v wr => ∃ j : Nat, v = .int .i64 j ∧ 1 ≤ j ∧ j ≤ W ∧ Hid (Bx w.heap.size (w.heap.size + 1) (w.heap.size + 1 + 1) pa ra pb rb pc rc w.heap.size w wr)) (fun v _ => W - (RowKit.intOf v).toNat)
  case atStart => exact ⟨1, rfl, Nat.le_refl _, by omega, HX3⟩
  case round =>
    obtain ⟨j, rfl, hj1, hjW, HX⟩ := hrel
    by_cases hlt : j < W
    · have hji : (j : Int) < (W : Int) := by omega
      go_wp2_with fail
      refine sumsD w.heap.size ma W j wr (Lib.hid (show _ = _ by rw [← HM.out.2.1]; exact HX.out.cells.1)) (Lib.hid (show _ = _ by rw [← HM.out.2.2]; exact HX.out.cells.2.1)) (Lib.hid HM.out.1) (Lib.hid (by omega)) (Lib.hid hj1) (Lib.hid hlt) _ _ _ _ _ _ _ _ _ _ _ _ _ _ _ _ _ _ _ _ _ _ _ _ _ _ _ _ _ _ _ _ _ _ _ _ _ _ _ _ _ _ _ _ _ _ _ _ _ _ _ _ _ _ _ _ _ _ _ _ _ _ _ _ _ _ _ _ _ _ _ _ _ _ _ _ _ _ _ _ _ _ _ _ _ _ _ _ _ _ _ _ _ _ _ _ _ _ _ _ _ _ _ _ _ _ _ _ _ _ _ _ ?_
      intro w5 hb5
      dsimp only
      have HX5 : Hid (Bx w.heap.size (w.heap.size + 1) (w.heap.size + 1 + 1) pa ra pb rb pc rc w.heap.size w w5) := Bx.on HX.out hb5 (Nat.le_refl _)
      clear hb5
      have q1 : wrap64 ((j : Int) + 1) = (j : Int) + 1 := by unfold wrap64; omega
      go_wp2_with fail
      go_roundw
      case rel => exact ⟨j + 1, rfl, by omega, hlt, HX5⟩
      case measure => show W - (((j : Int) + 1)).toNat < W - ((j : Int)).toNat; omega
    · obtain rfl : j = W := by omega
      have hji : ¬ (j : Int) < (j : Int) := by omega
      have HB := Lib.hid HX.out.2.2.2
      go_wp2_with (first
        | (go_at_call 6; (with_reducible refine (HK.out _).mono ?_); rintro e w6 ⟨rfl, hb6⟩))
      exact bodyPost_ret (v := .bool true) (by simp [results, Tryd.results4, go_sem]) rfl ⟨rfl, HB.out.trans (hb6.mono HB.out.size)⟩

end Go.Proofs.YtfalhemeiengcaaDoor
