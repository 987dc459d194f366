/-
  num.Slice at all ends.
-/
import Derived.Test.YtfalhemeiengcaaDoorBitsX
namespace Go.Proofs.YtfalhemeiengcaaDoor
open Go.RowKit

set_option maxRecDepth 100000 in
set_option maxHeartbeats 800000 in
theorem numSlice_all (n : Nat) (hi lo : Int) (w : World) (hn : n < B * B) (hlo : lo ≤ 9223372036854775807) : Calls Tryd.prog 19 #[numV n, .int .i64 hi, .int .i64 lo] w (RetNum w (sliceN n hi lo)) := by
  have hlt : n / 2 ^ sh lo < B * B := Nat.lt_of_le_of_lt (Nat.div_le_self _ _) hn
  have HS : Hid (∀ W, Calls Tryd.prog 37 #[numV n, .int .i64 lo] W (RetNum W (n / 2 ^ sh lo))) := fun W => numShr_any n lo W hn
  have HC : Hid (∀ W, Calls Tryd.prog 11 #[numV (n / 2 ^ sh lo), .int .i64 (min hi 127 - lo + 1)] W (RetNum W (n / 2 ^ sh lo % 2 ^ sh (min hi 127 - lo + 1)))) := fun W => numCut_any _ _ W hlt
  by_cases h0 : lo < 0 ∨ hi < lo
  · have e0 : sliceN n hi lo = 0 := by unfold sliceN; rw [if_pos h0]
    rw [e0]
    obtain ⟨y, z, he, -, -⟩ := numV_parts n
    rw [he]
    clear he HS HC hlt hn e0
    have HZ : Hid (numV 0 = .agg #[.int .u64 0, .int .u64 0]) := by show _ = _; kernel_rfl
    go_enter Tryd.func19, Tryd.ntmps19
    by_cases h1 : lo < 0
    · go_wp2_with fail
      exact bodyPost_ret (v := .agg #[.int .u64 0, .int .u64 0]) (by simp [results, Tryd.results19, go_sem]) rfl ⟨by rw [HZ.out], (by repeat (first | exact Below.refl _ _ | assumption | refine Below.drew ?_ | refine Below.alloc ?_ (by first | omega | (simp <;> omega)) _ | refine Below.setCell ?_ (by first | omega | (simp <;> omega)) _ | refine Below.trans ?_ (Below.mono (by assumption) (by first | omega | (simp <;> omega)))))⟩
    · have h2 : hi < lo := by omega
      go_wp2_with fail
      exact bodyPost_ret (v := .agg #[.int .u64 0, .int .u64 0]) (by simp [results, Tryd.results19, go_sem]) rfl ⟨by rw [HZ.out], (by repeat (first | exact Below.refl _ _ | assumption | refine Below.drew ?_ | refine Below.alloc ?_ (by first | omega | (simp <;> omega)) _ | refine Below.setCell ?_ (by first | omega | (simp <;> omega)) _ | refine Below.trans ?_ (Below.mono (by assumption) (by first | omega | (simp <;> omega)))))⟩
  · have e0 : sliceN n hi lo = n / 2 ^ sh lo % 2 ^ sh (min hi 127 - lo + 1) := by unfold sliceN; rw [if_neg h0]
    rw [e0]
    generalize n / 2 ^ sh lo % 2 ^ sh (min hi 127 - lo + 1) = r at *
    generalize n / 2 ^ sh lo = m at *
    obtain ⟨y, z, he, -, -⟩ := numV_parts n
    obtain ⟨y1, z1, he1, -, -⟩ := numV_parts m
    obtain ⟨y3, z3, he3, -, -⟩ := numV_parts r
    have HR := Lib.hid he3
    unfold RetNum at HC HS
    rw [he, he1] at HS
    rw [he1, he3] at HC
    rw [he]
    clear he he1 he3 hn hlt e0
    have h1 : ¬ lo < 0 := by omega
    have h2 : ¬ hi < lo := by omega
    rw [show min hi 127 = (if 127 < hi then 127 else hi) by split <;> omega] at HC
    clear h0
    go_enter Tryd.func19, Tryd.ntmps19
    go_wp2_with (first
      | (go_at_call 37; refine (HS.out _).mono ?_; rintro e w1 ⟨rfl, hb1⟩; obtain ⟨hc1, hf1⟩ := bcell hb1; have hz1 := hb1.size; simp at hz1; have L1 : w.heap.size + 1 < w1.heap.size := by omega)
      | (go_at_call 11; refine (HC.out _).mono ?_; rintro e w2 ⟨rfl, hb2⟩; obtain ⟨hc2, hf2⟩ := bcell hb2; have hz2 := hb2.size; have L2 : w.heap.size + 1 < w2.heap.size := by omega))
    all_goals exact bodyPost_ret (v := .agg #[.int .u64 (y3 : Int), .int .u64 (z3 : Int)]) (by simp [results, Tryd.results19, go_sem, hc1, hf1, hc2, hf2, L1, L2]) rfl ⟨by rw [HR.out], (by repeat (first | exact Below.refl _ _ | assumption | refine Below.drew ?_ | refine Below.alloc ?_ (by first | omega | (simp <;> omega)) _ | refine Below.setCell ?_ (by first | omega | (simp <;> omega)) _ | refine Below.trans ?_ (Below.mono (by assumption) (by first | omega | (simp <;> omega)))))⟩

end Go.Proofs.YtfalhemeiengcaaDoor
