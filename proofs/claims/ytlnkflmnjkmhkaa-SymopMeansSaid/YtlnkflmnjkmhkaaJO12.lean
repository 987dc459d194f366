/-
  Lemmas, joined: Eval3, EvalS, MeansP.
-/
import Derived.Test.YtlnkflmnjkmhkaaJO09
import Derived.Test.YtlnkflmnjkmhkaaJO11
import Derived.Test.YtlnkflmnjkmhkaaJO10
/-
  Contracts of symbv.Const, and of symbv.Eval and Is at a store that is there.
-/
namespace Go.Proofs.Ytlnkflmnjkmhkaa
open Go.RowKit

set_option maxRecDepth 100000 in
set_option maxHeartbeats 400000 in
theorem const_any (n : Nat) (k : Int) (w : World) (hn : n < B * B) :
    Calls Try.prog 19 #[numV n, .int .i64 k] w (RetVec w (constBits n (max 0 (min k 256)).toNat)) := by
  obtain ⟨i0, hi, hz0, hz1, hz2⟩ := info_parts Try.infoInt
  obtain ⟨M, hM⟩ : ∃ M, M = (max 0 (min k 256)).toNat := ⟨_, rfl⟩
  have hM1 : M ≤ 256 := by omega
  have HW : Hid (∀ W, Calls Try.prog 79 #[.int .i64 k] W fun e w' => e = .returned (.int .i64 (M : Int)) ∧ W = w') := by
    show ∀ _, _
    rw [hM]; exact width_any k
  rw [← hM]
  clear hM
  obtain ⟨y, z, he, -, -⟩ := numV_parts n
  have HN : Hid (∀ (i : Nat) W, Calls Try.prog 80 #[.agg #[.int .u64 (y : Int), .int .u64 (z : Int)], .int .i64 (i : Int)] W fun e w' => e = .returned (.bool (bitB n (i : Nat))) ∧ Below W.heap.size W w') := by
    show ∀ _ _, _
    rw [← he]; exact fun i W => numBit_any n i W hn
  clear hn
  rw [he]
  clear he
  go_enter Try.func19, Try.ntmps19
  go_wp2_with (first
    | (go_at_call 79; refine (HW.out _).mono ?_; rintro e w1 ⟨rfl, rfl⟩)
    | (at_make; refine wpList_make_full _ rfl _ _ 34 rfl (w.heap.size + 1) 3 i0 (.int .i64 0) 1 Try.underlying34 hi hz0 hz1 .i64 .i64 _ _ M rfl rfl rfl rfl (by rw [hz2]; omega) (by unfold maxLen; omega) (by simp) ?_; intro w0 hown0 hgrow0))
  rw [toList_madeCells_zero, ← constTo_zero n] at hown0
  have hsz : (w.alloc (.cells #[.int .u64 (y : Int), .int .u64 (z : Int)] 41)).heap.size = w.heap.size + 1 := by simp
  rw [hsz] at hown0
  clear hsz
  have hb0 : Below (w.heap.size + 1) (w.alloc (.cells #[.int .u64 (y : Int), .int .u64 (z : Int)] 41)) w0 := (Below.refl _ _).grown hgrow0 (by simp) (fun k h => by cases h)
  go_loopw [12] (fun i wr => ∃ k : Nat, k ≤ M ∧ i = .int .i64 k ∧ wr.ownsRow (w.heap.size + 1) 3 1 (.slice (some ⟨w.heap.size + 1, 0, none⟩) M M) M (constTo n M k) ∧ Below (w.heap.size + 1) (w.alloc (.cells #[.int .u64 (y : Int), .int .u64 (z : Int)] 41)) wr)
    (fun i _ => M - (intOf i).toNat)
  case atStart => exact ⟨0, Nat.zero_le _, rfl, hown0, hb0⟩
  case round =>
    obtain ⟨k, hk, rfl, hown, hnx⟩ := hrel
    have hsize := hnx.size
    simp at hsize
    by_cases hlt : k < M
    · have hcy : wr.cell? ⟨w.heap.size, 0, none⟩ = some (.int .u64 (y : Int)) := by rw [hnx.cell (p := ⟨w.heap.size, 0, none⟩) (by simp)]; simp [go_sem]
      have hcz : wr.cell? ⟨w.heap.size, 1, none⟩ = some (.int .u64 (z : Int)) := by rw [hnx.cell (p := ⟨w.heap.size, 1, none⟩) (by simp)]; simp [go_sem]
      by_cases hbit : bitB n (k : Nat) = true
      · have HS := Lib.hid (constTo_yes n M k hlt hbit)
        go_wp2_with fail
        refine (HN.out k _).mono ?_
        rintro e w1 ⟨rfl, hb1⟩
        have hown1 := own_below hown hb1
        have z1 : ∃ x, w1.cell? ⟨w.heap.size + 1, k, none⟩ = some x := by
          rw [hown1.cellAt k (by omega)]; exact ⟨_, List.getElem?_eq_getElem (by simp [constTo]; omega)⟩
        obtain ⟨x, z1⟩ := z1
        have z2 := hown1.frozenAt k
        have Z := Lib.hid (hown1.stored k (.int .i64 1)).1
        have hz := hb1.size
        go_wp2_with fail
        go_roundw
        case rel => exact ⟨k + 1, by omega, by go_num, HS.out ▸ Z.out, (hnx.trans (hb1.mono (by omega))).setCell (by simp) _⟩
        case measure => simp [intOf]; omega
      · have hbit' : bitB n (k : Nat) = false := by simpa using hbit
        have HS := Lib.hid (constTo_no n M k hbit')
        clear hbit
        go_wp2_with fail
        refine (HN.out k _).mono ?_
        rintro e w1 ⟨rfl, hb1⟩
        have hown1 := Lib.hid (own_below hown hb1)
        have hz := hb1.size
        go_wp2_with fail
        go_roundw
        case rel => exact ⟨k + 1, by omega, by go_num, HS.out ▸ hown1.out, hnx.trans (hb1.mono (by omega))⟩
        case measure => simp [intOf]; omega
    · obtain rfl : k = M := by omega
      go_wp2_with fail
      go_ret
      exact ⟨_, rfl, IVec.of_owns (n := k) (constBits_len _ _) (constTo_end n k ▸ hown), ((Below.refl _ _).alloc (Nat.le_refl _) _).trans (hnx.mono (by omega))⟩

def bitAt (k : Nat) : Nat := 1 * 2 ^ sh (k : Int) % (B * B) % 2 ^ sh 128
def evalN (hold : Nat → Bool) : Nat → Nat
  | 0 => 0
  | k + 1 => if hold k then evalN hold k ||| bitAt k else evalN hold k
theorem bitAt_lt (k : Nat) : bitAt k < B * B := by
  have e : sh 128 = 128 := rfl
  unfold bitAt
  rw [e, ← BB_pow]
  exact Nat.mod_lt _ (by unfold B; omega)
theorem evalN_lt (hold : Nat → Bool) : ∀ k, evalN hold k < B * B
  | 0 => by unfold evalN B; omega
  | k + 1 => by
    unfold evalN
    split
    · rw [BB_pow]; exact Nat.or_lt_two_pow (BB_pow ▸ evalN_lt hold k) (BB_pow ▸ bitAt_lt k)
    · exact evalN_lt hold k

theorem numOf_one (w : World) : Calls Try.prog 93 #[.int .u64 1] w (RetNum w 1) := numOf_any 1 (by unfold B; omega) w

set_option maxRecDepth 100000 in
set_option maxHeartbeats 800000 in
theorem eval_any (s va bits : Value) (xs : List Int) (hold : Nat → Bool) (w : World) (ha : IVec w va xs) (hxl : xs.length ≤ 1000000)
    (hH : ∀ k, k < xs.length → ∀ W, Below w.heap.size w W → Calls Try.prog 90 #[s, .int .i64 (xs.getD k 0), bits] W fun e w' => e = .returned (.bool (hold k)) ∧ W = w') :
    Calls Try.prog 40 #[s, va, bits] w (RetNum w (evalN hold xs.length)) := by
  obtain ⟨pa, ca, rfl, ha3, ha4, ha5⟩ := ha.shape
  clear ha
  have HA := Lib.hid ha5; clear ha5
  have HH := Lib.hid hH; clear hH
  go_enter Try.func40, Try.ntmps40
  go_wp2_with fail
  go_loopw [11] (fun i wr => ∃ k : Nat, k ≤ xs.length ∧ i = .int .i64 k ∧ Below w.heap.size w wr ∧ w.heap.size < wr.heap.size ∧ wr.frozen? ⟨w.heap.size, 0, none⟩ = false ∧ wr.frozen? ⟨w.heap.size, 1, none⟩ = false ∧
      ∃ u v : Nat, Hid (numV (evalN hold k) = .agg #[.int .u64 (u : Int), .int .u64 (v : Int)]) ∧ wr.cell? ⟨w.heap.size, 0, none⟩ = some (.int .u64 (u : Int)) ∧ wr.cell? ⟨w.heap.size, 1, none⟩ = some (.int .u64 (v : Int)))
    (fun i _ => xs.length - (intOf i).toNat)
  case atStart => exact ⟨0, Nat.zero_le _, rfl, (by repeat (first | exact Below.refl _ _ | assumption | refine Below.drew ?_ | refine Below.alloc ?_ (by first | omega | (simp <;> omega)) _ | refine Below.setCell ?_ (by first | omega | (simp <;> omega)) _ | refine Below.trans ?_ (Below.mono (by assumption) (by first | omega | (simp <;> omega))))), by simp, by simp [go_sem], by simp [go_sem], 0, 0, zero_eq_numV.symm, by simp [go_sem], by simp [go_sem]⟩
  case round =>
    obtain ⟨k, hk, rfl, hnx, hsz, hf0, hf1, u, v, HE, hc0, hc1⟩ := hrel
    by_cases hlt : k < xs.length
    · obtain ⟨ba, oa, rfl, ha2, ha5⟩ := HA.out (by omega)
      have ga := (hnx.cell (p := ⟨ba, oa + k, none⟩) ha2).trans (ha5 k hlt)
      clear ha5
      have HX : Hid (xs.getD k 0 = xs[k]) := by show _ = _; simp [hlt]
      have HC := HH.out k hlt wr hnx
      rw [HX.out] at HC
      by_cases hh : hold k = true
      · have HN : Hid (evalN hold (k + 1) = evalN hold k ||| bitAt k) := by show _ = _; simp [evalN, hh]
        rw [hh] at HC
        clear hh
        obtain ⟨u2, v2, he2, -, -⟩ := numV_parts (evalN hold k ||| bitAt k)
        have HE2 := Lib.hid he2; clear he2
        have HL : Hid (∀ W, Calls Try.prog 91 #[.agg #[.int .u64 (u : Int), .int .u64 (v : Int)], numV (bitAt k)] W fun e w' => e = .returned (.agg #[.int .u64 (u2 : Int), .int .u64 (v2 : Int)]) ∧ Below W.heap.size W w') := by
          show ∀ _, _
          rw [← HE.out, ← HE2.out]
          exact fun W => numOr_any _ _ W (evalN_lt hold k) (bitAt_lt k)
        have HO : Hid (∀ W, Calls Try.prog 92 #[numV 1, .int .i64 (k : Int), .int .i64 128] W (RetNum W (bitAt k))) := fun W => numShl_any 1 k 128 W (by unfold B; omega)
        go_wp2_with fail
        refine HC.mono ?_
        rintro e w1 ⟨rfl, rfl⟩
        clear HC
        go_wp2_with fail
        go_region_with (first
          | (go_at_call 93; refine (numOf_one _).mono ?_; rintro e w1 ⟨rfl, hb1⟩; obtain ⟨ec1, ef1⟩ := bcell hb1; have hz1 := hb1.size; simp at hz1; have L1 : w.heap.size < w1.heap.size := (by omega); have q10 : w1.cell? ⟨w.heap.size, 0, none⟩ = some (.int .u64 (u : Int)) := (ec1 _ _ hsz).trans hc0; have q11 : w1.cell? ⟨w.heap.size, 1, none⟩ = some (.int .u64 (v : Int)) := (ec1 _ _ hsz).trans hc1; have r10 : w1.frozen? ⟨w.heap.size, 0, none⟩ = false := (ef1 _ _ hsz).trans hf0; have r11 : w1.frozen? ⟨w.heap.size, 1, none⟩ = false := (ef1 _ _ hsz).trans hf1; clear ec1 ef1)
          | (go_at_call 92; refine (HO.out _).mono ?_; rintro e w2 ⟨rfl, hb2⟩; obtain ⟨ec2, ef2⟩ := bcell hb2; have hz2 := hb2.size; have L2 : w.heap.size < w2.heap.size := (by omega); have q20 : w2.cell? ⟨w.heap.size, 0, none⟩ = some (.int .u64 (u : Int)) := (ec2 _ _ L1).trans q10; have q21 : w2.cell? ⟨w.heap.size, 1, none⟩ = some (.int .u64 (v : Int)) := (ec2 _ _ L1).trans q11; have r20 : w2.frozen? ⟨w.heap.size, 0, none⟩ = false := (ef2 _ _ L1).trans r10; have r21 : w2.frozen? ⟨w.heap.size, 1, none⟩ = false := (ef2 _ _ L1).trans r11; clear ec2 ef2)
          | (go_at_call 91; refine (HL.out _).mono ?_; rintro e w3 ⟨rfl, hb3⟩; obtain ⟨ec3, ef3⟩ := bcell hb3; have hz3 := hb3.size; have L3 : w.heap.size < w3.heap.size := (by omega); have q30 : w3.cell? ⟨w.heap.size, 0, none⟩ = some (.int .u64 (u : Int)) := (ec3 _ _ L2).trans q20; have q31 : w3.cell? ⟨w.heap.size, 1, none⟩ = some (.int .u64 (v : Int)) := (ec3 _ _ L2).trans q21; have r30 : w3.frozen? ⟨w.heap.size, 0, none⟩ = false := (ef3 _ _ L2).trans r20; have r31 : w3.frozen? ⟨w.heap.size, 1, none⟩ = false := (ef3 _ _ L2).trans r21; clear ec3 ef3))
        all_goals go_wp2_with fail
        all_goals
          go_roundw
          case rel => exact ⟨k + 1, by omega, by go_num, (by repeat (first | exact Below.refl _ _ | assumption | refine Below.drew ?_ | refine Below.alloc ?_ (by first | omega | (simp <;> omega)) _ | refine Below.setCell ?_ (by first | omega | (simp <;> omega)) _ | refine Below.trans ?_ (Below.mono (by assumption) (by first | omega | (simp <;> omega))))), by simp; omega, by simp [go_sem, r30], by simp [go_sem, r31], u2, v2, by rw [HN.out]; exact HE2, by simp [go_sem, q30, q31], by simp [go_sem, q30, q31]⟩
          case measure => simp [intOf]; omega
      · have hh' : hold k = false := by simpa using hh
        have HN : Hid (evalN hold (k + 1) = evalN hold k) := by show _ = _; simp [evalN, hh']
        rw [hh'] at HC
        clear hh hh'
        go_wp2_with fail
        refine HC.mono ?_
        rintro e w1 ⟨rfl, rfl⟩
        clear HC
        go_wp2_with fail
        go_roundw
        case rel => exact ⟨k + 1, by omega, by go_num, hnx, hsz, hf0, hf1, u, v, by rw [HN.out]; exact HE, hc0, hc1⟩
        case measure => simp [intOf]; omega
    · obtain rfl : k = xs.length := by omega
      go_wp2_with fail
      exact bodyPost_ret (v := .agg #[.int .u64 (u : Int), .int .u64 (v : Int)]) (by simp [results, Try.results40, go_sem, hc0, hc1]) rfl ⟨by rw [← HE.out], (by repeat (first | exact Below.refl _ _ | assumption | refine Below.drew ?_ | refine Below.alloc ?_ (by first | omega | (simp <;> omega)) _ | refine Below.setCell ?_ (by first | omega | (simp <;> omega)) _ | refine Below.trans ?_ (Below.mono (by assumption) (by first | omega | (simp <;> omega)))))⟩

end Go.Proofs.Ytlnkflmnjkmhkaa

/-
  Contract of symbv.Eval where Holds makes memory; at a store that is there.
-/
namespace Go.Proofs.Ytlnkflmnjkmhkaa
open Go.RowKit Go.Maps

set_option maxRecDepth 100000 in
set_option maxHeartbeats 800000 in
theorem eval_bel (s va bits : Value) (xs : List Int) (hold : Nat → Bool) (w : World) (ha : IVec w va xs) (hxl : xs.length ≤ 1000000)
    (hH : ∀ k, k < xs.length → ∀ W, Below w.heap.size w W → Calls Try.prog 90 #[s, .int .i64 (xs.getD k 0), bits] W fun e w' => e = .returned (.bool (hold k)) ∧ Below W.heap.size W w') :
    Calls Try.prog 40 #[s, va, bits] w (RetNum w (evalN hold xs.length)) := by
  obtain ⟨pa, ca, rfl, ha3, ha4, ha5⟩ := ha.shape
  clear ha
  have HA := Lib.hid ha5; clear ha5
  have HH := Lib.hid hH; clear hH
  go_enter Try.func40, Try.ntmps40
  go_wp2_with fail
  go_loopw [11] (fun i wr => ∃ k : Nat, k ≤ xs.length ∧ i = .int .i64 k ∧ Below w.heap.size w wr ∧ w.heap.size < wr.heap.size ∧ wr.frozen? ⟨w.heap.size, 0, none⟩ = false ∧ wr.frozen? ⟨w.heap.size, 1, none⟩ = false ∧
      ∃ u v : Nat, Hid (numV (evalN hold k) = .agg #[.int .u64 (u : Int), .int .u64 (v : Int)]) ∧ wr.cell? ⟨w.heap.size, 0, none⟩ = some (.int .u64 (u : Int)) ∧ wr.cell? ⟨w.heap.size, 1, none⟩ = some (.int .u64 (v : Int)))
    (fun i _ => xs.length - (intOf i).toNat)
  case atStart => exact ⟨0, Nat.zero_le _, rfl, (by repeat (first | exact Below.refl _ _ | assumption | refine Below.drew ?_ | refine Below.alloc ?_ (by first | omega | (simp <;> omega)) _ | refine Below.setCell ?_ (by first | omega | (simp <;> omega)) _ | refine Below.trans ?_ (Below.mono (by assumption) (by first | omega | (simp <;> omega))))), by simp, by simp [go_sem], by simp [go_sem], 0, 0, zero_eq_numV.symm, by simp [go_sem], by simp [go_sem]⟩
  case round =>
    obtain ⟨k, hk, rfl, hnx, hsz, hf0, hf1, u, v, HE, hc0, hc1⟩ := hrel
    by_cases hlt : k < xs.length
    · obtain ⟨ba, oa, rfl, ha2, ha5⟩ := HA.out (by omega)
      have ga := (hnx.cell (p := ⟨ba, oa + k, none⟩) ha2).trans (ha5 k hlt)
      clear ha5
      have HX : Hid (xs.getD k 0 = xs[k]) := by show _ = _; simp [hlt]
      have HC := HH.out k hlt wr hnx
      rw [HX.out] at HC
      by_cases hh : hold k = true
      · have HN : Hid (evalN hold (k + 1) = evalN hold k ||| bitAt k) := by show _ = _; simp [evalN, hh]
        rw [hh] at HC
        clear hh
        obtain ⟨u2, v2, he2, -, -⟩ := numV_parts (evalN hold k ||| bitAt k)
        have HE2 := Lib.hid he2; clear he2
        have HL : Hid (∀ W, Calls Try.prog 91 #[.agg #[.int .u64 (u : Int), .int .u64 (v : Int)], numV (bitAt k)] W fun e w' => e = .returned (.agg #[.int .u64 (u2 : Int), .int .u64 (v2 : Int)]) ∧ Below W.heap.size W w') := by
          show ∀ _, _
          rw [← HE.out, ← HE2.out]
          exact fun W => numOr_any _ _ W (evalN_lt hold k) (bitAt_lt k)
        have HO : Hid (∀ W, Calls Try.prog 92 #[numV 1, .int .i64 (k : Int), .int .i64 128] W (RetNum W (bitAt k))) := fun W => numShl_any 1 k 128 W (by unfold B; omega)
        go_wp2_with fail
        refine HC.mono ?_
        rintro e w0 ⟨rfl, hb0⟩
        obtain ⟨ec0, ef0⟩ := bcell hb0
        have hnx' := hnx.trans (hb0.mono hnx.size)
        have hc0' := (ec0 _ _ hsz).trans hc0
        have hc1' := (ec0 _ _ hsz).trans hc1
        have hf0' := (ef0 _ _ hsz).trans hf0
        have hf1' := (ef0 _ _ hsz).trans hf1
        have hsz' := Nat.lt_of_lt_of_le hsz hb0.size
        clear HC ga hnx hc0 hc1 hf0 hf1 hsz ec0 ef0 hb0
        have hnx := hnx'
        have hc0 := hc0'
        have hc1 := hc1'
        have hf0 := hf0'
        have hf1 := hf1'
        have hsz := hsz'
        clear hnx' hc0' hc1' hf0' hf1' hsz'
        go_wp2_with fail
        go_region_with (first
          | (go_at_call 93; refine (numOf_one _).mono ?_; rintro e w1 ⟨rfl, hb1⟩; obtain ⟨ec1, ef1⟩ := bcell hb1; have hz1 := hb1.size; simp at hz1; have L1 : w.heap.size < w1.heap.size := (by omega); have q10 : w1.cell? ⟨w.heap.size, 0, none⟩ = some (.int .u64 (u : Int)) := (ec1 _ _ hsz).trans hc0; have q11 : w1.cell? ⟨w.heap.size, 1, none⟩ = some (.int .u64 (v : Int)) := (ec1 _ _ hsz).trans hc1; have r10 : w1.frozen? ⟨w.heap.size, 0, none⟩ = false := (ef1 _ _ hsz).trans hf0; have r11 : w1.frozen? ⟨w.heap.size, 1, none⟩ = false := (ef1 _ _ hsz).trans hf1; clear ec1 ef1)
          | (go_at_call 92; refine (HO.out _).mono ?_; rintro e w2 ⟨rfl, hb2⟩; obtain ⟨ec2, ef2⟩ := bcell hb2; have hz2 := hb2.size; have L2 : w.heap.size < w2.heap.size := (by omega); have q20 : w2.cell? ⟨w.heap.size, 0, none⟩ = some (.int .u64 (u : Int)) := (ec2 _ _ L1).trans q10; have q21 : w2.cell? ⟨w.heap.size, 1, none⟩ = some (.int .u64 (v : Int)) := (ec2 _ _ L1).trans q11; have r20 : w2.frozen? ⟨w.heap.size, 0, none⟩ = false := (ef2 _ _ L1).trans r10; have r21 : w2.frozen? ⟨w.heap.size, 1, none⟩ = false := (ef2 _ _ L1).trans r11; clear ec2 ef2)
          | (go_at_call 91; refine (HL.out _).mono ?_; rintro e w3 ⟨rfl, hb3⟩; obtain ⟨ec3, ef3⟩ := bcell hb3; have hz3 := hb3.size; have L3 : w.heap.size < w3.heap.size := (by omega); have q30 : w3.cell? ⟨w.heap.size, 0, none⟩ = some (.int .u64 (u : Int)) := (ec3 _ _ L2).trans q20; have q31 : w3.cell? ⟨w.heap.size, 1, none⟩ = some (.int .u64 (v : Int)) := (ec3 _ _ L2).trans q21; have r30 : w3.frozen? ⟨w.heap.size, 0, none⟩ = false := (ef3 _ _ L2).trans r20; have r31 : w3.frozen? ⟨w.heap.size, 1, none⟩ = false := (ef3 _ _ L2).trans r21; clear ec3 ef3))
        all_goals go_wp2_with fail
        all_goals
          go_roundw
          case rel => exact ⟨k + 1, by omega, by go_num, (by repeat (first | exact Below.refl _ _ | assumption | refine Below.drew ?_ | refine Below.alloc ?_ (by first | omega | (simp <;> omega)) _ | refine Below.setCell ?_ (by first | omega | (simp <;> omega)) _ | refine Below.trans ?_ (Below.mono (by assumption) (by first | omega | (simp <;> omega))))), by simp; omega, by simp [go_sem, r30], by simp [go_sem, r31], u2, v2, by rw [HN.out]; exact HE2, by simp [go_sem, q30, q31], by simp [go_sem, q30, q31]⟩
          case measure => simp [intOf]; omega
      · have hh' : hold k = false := by simpa using hh
        have HN : Hid (evalN hold (k + 1) = evalN hold k) := by show _ = _; simp [evalN, hh']
        rw [hh'] at HC
        clear hh hh'
        go_wp2_with fail
        refine HC.mono ?_
        rintro e w0 ⟨rfl, hb0⟩
        obtain ⟨ec0, ef0⟩ := bcell hb0
        have hnx' := hnx.trans (hb0.mono hnx.size)
        have hc0' := (ec0 _ _ hsz).trans hc0
        have hc1' := (ec0 _ _ hsz).trans hc1
        have hf0' := (ef0 _ _ hsz).trans hf0
        have hf1' := (ef0 _ _ hsz).trans hf1
        have hsz' := Nat.lt_of_lt_of_le hsz hb0.size
        clear HC ga hnx hc0 hc1 hf0 hf1 hsz ec0 ef0 hb0
        have hnx := hnx'
        have hc0 := hc0'
        have hc1 := hc1'
        have hf0 := hf0'
        have hf1 := hf1'
        have hsz := hsz'
        clear hnx' hc0' hc1' hf0' hf1' hsz'
        go_wp2_with fail
        go_roundw
        case rel => exact ⟨k + 1, by omega, by go_num, hnx, hsz, hf0, hf1, u, v, by rw [HN.out]; exact HE, hc0, hc1⟩
        case measure => simp [intOf]; omega
    · obtain rfl : k = xs.length := by omega
      go_wp2_with fail
      exact bodyPost_ret (v := .agg #[.int .u64 (u : Int), .int .u64 (v : Int)]) (by simp [results, Try.results40, go_sem, hc0, hc1]) rfl ⟨by rw [← HE.out], (by repeat (first | exact Below.refl _ _ | assumption | refine Below.drew ?_ | refine Below.alloc ?_ (by first | omega | (simp <;> omega)) _ | refine Below.setCell ?_ (by first | omega | (simp <;> omega)) _ | refine Below.trans ?_ (Below.mono (by assumption) (by first | omega | (simp <;> omega)))))⟩

/-- The number of a vector under bits. -/
def evalV (l : List T3) (q : Int → Bool) (xs : List Int) : Nat := evalN (fun k => valP l q (rightP l (xs.getD k 0))) xs.length

theorem eval_sto (b : Nat) (O : Nat → Prop) (s : BS) (va vb : Value) (xs : List Int) (bs : List Bool) (w : World) (hs : Sto w b O s) (ha : IVec w va xs) (hxl : xs.length ≤ 1000000) (hbv : BVec w vb bs) (hbl : bs.length ≤ 1000000) :
    Calls Try.prog 40 #[.pointer (some ⟨b, 0, none⟩), va, vb] w (RetNum w (evalV s.nodes (qOf bs) xs)) :=
  eval_bel _ va vb xs _ w ha hxl fun k _ W hW => holds_sto b O s (xs.getD k 0) vb bs W (hs.below hW) (hbv.below hW) hbl

end Go.Proofs.Ytlnkflmnjkmhkaa

/-
  The plain law of what is made at a store that is not full: the truth of each diagram, and how many nodes there are.
-/
namespace Go.Proofs.Ytlnkflmnjkmhkaa
open Go.RowKit Go.Maps

/-- A store that is not full, of at most N nodes, of variables below 8. -/
structure GoodS (C N : Nat) (s : BS) : Prop where
  full : s.full = false
  ord : Ord s.nodes
  vars : Vars s.nodes 8
  cap : s.cap = C
  len : s.nodes.length ≤ N

theorem rightP_of_is {l : List T3} {a : Int} (h : Is l a) : rightP l a = a := by
  unfold rightP
  unfold Is at h
  rw [if_pos h]

/-- What a call of Ite comes to. -/
theorem iteF_good {C N : Nat} {s : BS} (h : GoodS C N s) (hN : N + 255 < C) (c a d : Int) : GoodS C (N + 255) (iteF s c a d).1 ∧ Grew s (iteF s c a d).1 ∧ Is (iteF s c a d).1.nodes (iteF s c a d).2 ∧
    ∀ q, valP (iteF s c a d).1.nodes q (iteF s c a d).2 = if valP s.nodes q (rightP s.nodes c) then valP s.nodes q (rightP s.nodes a) else valP s.nodes q (rightP s.nodes d) := by
  have hc := rightP_is s.nodes c
  have ha := rightP_is s.nodes a
  have hd := rightP_is s.nodes d
  obtain ⟨X, hX⟩ := iteP_some 65 s (rightP s.nodes c) (rightP s.nodes a) (rightP s.nodes d) h.ord hc ha hd (by
    have h1 := (topP_le h.ord (rightP s.nodes c)).2
    have h2 := (topP_le h.ord (rightP s.nodes a)).2
    have h3 := (topP_le h.ord (rightP s.nodes d)).2
    simp only [min3]
    omega)
  have e : iteF s c a d = (X.1, X.2.getD 0) := by unfold iteF; rw [if_neg (by rw [h.full]; simp), hX]
  obtain ⟨g, k⟩ := iteP_ok _ _ _ _ _ _ h.ord hc ha hd hX
  obtain ⟨l1, l2, l3⟩ := iteP_len 8 (by omega) 65 s _ _ _ X 0 h.ord h.vars hc ha hd (by
    have h1 := (topP_le h.ord (rightP s.nodes c)).2
    have h2 := (topP_le h.ord (rightP s.nodes a)).2
    have h3 := (topP_le h.ord (rightP s.nodes d)).2
    simp only [min3]
    omega) hX
  have hl := h.len
  have hcap := h.cap
  rw [show 2 ^ (8 - 0) = 256 from rfl] at l2
  obtain ⟨r, hr⟩ : ∃ r, X.2 = some r := by
    cases hx : X.2 with
    | some r => exact ⟨r, rfl⟩
    | none => have := l3 hx; omega
  obtain ⟨k1, k2, k3, k4⟩ := k r hr
  rw [e, hr]
  exact ⟨⟨k1.trans h.full, g.ord, l1, g.cap.trans hcap, by show X.1.nodes.length ≤ _; omega⟩, g, k2, fun q => iteP_val q 65 s _ _ _ X h.ord hc ha hd hX r hr⟩

theorem GoodS.mono {C N M : Nat} {s : BS} (h : GoodS C N s) (hM : N ≤ M) : GoodS C M s := ⟨h.full, h.ord, h.vars, h.cap, Nat.le_trans h.len hM⟩

/-- What a step of two diagrams may be: it makes at most A nodes, and the diagram of op. -/
def StepOk (base : BS) (C A : Nat) (op : (Int → Bool) → Bool → Bool → Bool) (g : BS → Int → Int → BS × Int) : Prop := ∀ (N : Nat) (s : BS) (x y : Int), Grew base s → GoodS C N s → N + A < C → Is s.nodes x → Is s.nodes y →
  GoodS C (N + A) (g s x y).1 ∧ Grew s (g s x y).1 ∧ Is (g s x y).1.nodes (g s x y).2 ∧ ∀ q, valP (g s x y).1.nodes q (g s x y).2 = op q (valP s.nodes q x) (valP s.nodes q y)

theorem is_zero (l : List T3) : Is l 0 := by unfold Is; omega
theorem is_one (l : List T3) : Is l 1 := by unfold Is; omega
theorem val_zero (l : List T3) (q : Int → Bool) : valP l q 0 = false := by rw [valP_two (by omega)]; rfl
theorem val_one (l : List T3) (q : Int → Bool) : valP l q 1 = true := by rw [valP_two (by omega)]; rfl

theorem and_step (base : BS) (C : Nat) : StepOk base C 255 (fun _ x y => x && y) andF := fun N s x y _ h hN hx hy => by
  obtain ⟨h1, h2, h3, h4⟩ := iteF_good h hN x y 0
  refine ⟨h1, h2, h3, fun q => ?_⟩
  unfold andF
  rw [h4 q, rightP_of_is hx, rightP_of_is hy, rightP_of_is (is_zero _), val_zero]
  cases valP s.nodes q x <;> simp
theorem or_step (base : BS) (C : Nat) : StepOk base C 255 (fun _ x y => x || y) orF := fun N s x y _ h hN hx hy => by
  obtain ⟨h1, h2, h3, h4⟩ := iteF_good h hN x 1 y
  refine ⟨h1, h2, h3, fun q => ?_⟩
  unfold orF
  rw [h4 q, rightP_of_is hx, rightP_of_is hy, rightP_of_is (is_one _), val_one]
  cases valP s.nodes q x <;> simp
theorem not_good {C N : Nat} {s : BS} (h : GoodS C N s) (hN : N + 255 < C) (x : Int) (hx : Is s.nodes x) : GoodS C (N + 255) (notF s x).1 ∧ Grew s (notF s x).1 ∧ Is (notF s x).1.nodes (notF s x).2 ∧ ∀ q, valP (notF s x).1.nodes q (notF s x).2 = !valP s.nodes q x := by
  obtain ⟨h1, h2, h3, h4⟩ := iteF_good h hN x 0 1
  refine ⟨h1, h2, h3, fun q => ?_⟩
  unfold notF
  rw [h4 q, rightP_of_is hx, rightP_of_is (is_zero _), rightP_of_is (is_one _), val_zero, val_one]
  cases valP s.nodes q x <;> simp
theorem xor_step (base : BS) (C : Nat) : StepOk base C 510 (fun _ x y => x != y) xorF := fun N s x y _ h hN hx hy => by
  obtain ⟨n1, n2, n3, n4⟩ := not_good h (by omega) y hy
  obtain ⟨h1, h2, h3, h4⟩ := iteF_good n1 (by omega) x (notF s y).2 y
  refine ⟨h1, n2.trans h2, h3, fun q => ?_⟩
  unfold xorF
  rw [h4 q, rightP_of_is (n2.is hx).1, rightP_of_is n3, rightP_of_is (n2.is hy).1, n4 q, n2.val h.ord q hx, n2.val h.ord q hy]
  cases valP s.nodes q x <;> cases valP s.nodes q y <;> rfl

/-- All of a list are diagrams. -/
def AllIs (l : List T3) (xs : List Int) : Prop := ∀ i, Is l (xs.getD i 0)
theorem Grew.all {s s' : BS} (g : Grew s s') {xs : List Int} (h : AllIs s.nodes xs) : AllIs s'.nodes xs := fun i => (g.is (h i)).1

theorem getD_snoc (xs : List Int) (x : Int) (i : Nat) : (xs ++ [x]).getD i 0 = if i < xs.length then xs.getD i 0 else if i = xs.length then x else 0 := by
  rw [List.getD_eq_getElem?_getD, List.getElem?_append]
  split
  · rw [List.getD_eq_getElem?_getD]
  · rename_i h
    split
    · rename_i e; subst e; simp
    · rw [List.getElem?_eq_none (by simp; omega)]; rfl

/-- Element by element. -/
theorem zip_good {C A : Nat} {op : (Int → Bool) → Bool → Bool → Bool} {g : BS → Int → Int → BS × Int} {N : Nat} {s : BS} (hg : StepOk s C A op g) (h : GoodS C N s) {xs ys : List Int} (hx : AllIs s.nodes xs) (hy : AllIs s.nodes ys) :
    ∀ n, N + n * A < C → GoodS C (N + n * A) (zipS g xs ys n s).1 ∧ Grew s (zipS g xs ys n s).1 ∧ AllIs (zipS g xs ys n s).1.nodes (zipS g xs ys n s).2 ∧
      ∀ q i, i < n → valP (zipS g xs ys n s).1.nodes q ((zipS g xs ys n s).2.getD i 0) = op q (valP s.nodes q (xs.getD i 0)) (valP s.nodes q (ys.getD i 0))
  | 0, _ => ⟨h.mono (by omega), Grew.refl h.ord, fun i => by simp [zipS]; exact is_zero _, fun q i hi => by omega⟩
  | n + 1, hN => by
    rw [Nat.add_mul, Nat.one_mul] at hN
    obtain ⟨h1, h2, h3, h4⟩ := zip_good hg h hx hy n (by omega)
    obtain ⟨k1, k2, k3, k4⟩ := hg _ _ (xs.getD n 0) (ys.getD n 0) h2 h1 (by omega) (h2.is (hx n)).1 (h2.is (hy n)).1
    have hl := zipS_len g xs ys n s
    rw [zipS]
    refine ⟨k1.mono (by rw [Nat.add_mul, Nat.one_mul]; omega), h2.trans k2, fun i => ?_, fun q i hi => ?_⟩
    · simp only
      rw [getD_snoc]
      split
      · exact (k2.is (h3 i)).1
      · split
        · exact k3
        · exact is_zero _
    · simp only
      rw [getD_snoc, hl]
      by_cases e : i < n
      · rw [if_pos e, k2.val h1.ord q (h3 i), h4 q i e]
      · obtain rfl : i = n := by omega
        rw [if_neg e, if_pos rfl, k4 q, h2.val h.ord q (hx i), h2.val h.ord q (hy i)]

theorem map_good {C A : Nat} (hA : A = 255) {N : Nat} {s : BS} (h : GoodS C N s) {xs : List Int} (hx : AllIs s.nodes xs) :
    ∀ n, N + n * A < C → GoodS C (N + n * A) (mapS notF xs n s).1 ∧ Grew s (mapS notF xs n s).1 ∧ AllIs (mapS notF xs n s).1.nodes (mapS notF xs n s).2 ∧
      ∀ q i, i < n → valP (mapS notF xs n s).1.nodes q ((mapS notF xs n s).2.getD i 0) = !valP s.nodes q (xs.getD i 0) := by
  intro n
  induction n with
  | zero => exact fun _ => ⟨h.mono (by omega), Grew.refl h.ord, fun i => by simp [mapS]; exact is_zero _, fun q i hi => by omega⟩
  | succ n ih =>
    intro hN
    rw [Nat.add_mul, Nat.one_mul] at hN
    obtain ⟨h1, h2, h3, h4⟩ := ih (by omega)
    obtain ⟨k1, k2, k3, k4⟩ := not_good h1 (by rw [← hA]; omega) (xs.getD n 0) (h2.is (hx n)).1
    have hl := mapS_len notF xs n s
    rw [mapS]
    rw [← hA] at k1
    refine ⟨k1.mono (by rw [Nat.add_mul, Nat.one_mul]; omega), h2.trans k2, fun i => ?_, fun q i hi => ?_⟩
    · simp only
      rw [getD_snoc]
      split
      · exact (k2.is (h3 i)).1
      · split
        · exact k3
        · exact is_zero _
    · simp only
      rw [getD_snoc, hl]
      by_cases e : i < n
      · rw [if_pos e, k2.val h1.ord q (h3 i), h4 q i e]
      · obtain rfl : i = n := by omega
        rw [if_neg e, if_pos rfl, k4 q, h2.val h.ord q (hx i)]

/-- Variables that are made. -/
theorem varF_good {C N : Nat} {s : BS} (h : GoodS C N s) (hN : N + 1 < C) (v : Int) (hv0 : 0 ≤ v) (hv1 : v < 8) : GoodS C (N + 1) (varF s v).1 ∧ Grew s (varF s v).1 ∧ Is (varF s v).1.nodes (varF s v).2 ∧ ∀ q, valP (varF s v).1.nodes q (varF s v).2 = q v := by
  have e : varF s v = ((node1 s ⟨v, 0, 1⟩).1, (node1 s ⟨v, 0, 1⟩).2.getD 0) := by
    unfold varF
    rw [if_neg (by rw [h.full]; simp; omega)]
  have t0 : topP s.nodes 0 = 64 := by unfold topP; simp
  have t1 : topP s.nodes 1 = 64 := by unfold topP; simp
  obtain ⟨g1, g2, g3, g4⟩ := node1_ok (t := ⟨v, 0, 1⟩) h.ord ⟨hv0, by show v < 64; omega⟩ (is_zero _) (is_one _) (by show v < topP s.nodes 0; omega) (by show v < topP s.nodes 1; omega)
  obtain ⟨l1, l2⟩ := node1_len s ⟨v, 0, 1⟩
  have hl := h.len
  have hcap := h.cap
  obtain ⟨r, hr⟩ : ∃ r, (node1 s ⟨v, 0, 1⟩).2 = some r := by
    cases hx : (node1 s ⟨v, 0, 1⟩).2 with
    | some r => exact ⟨r, rfl⟩
    | none => have := (l2 hx).1; omega
  obtain ⟨k1, k2, k3, k4⟩ := g4 r hr
  have nv := fun q => node1_val (s := s) (t := ⟨v, 0, 1⟩) h.ord ⟨hv0, by show v < 64; omega⟩ (is_zero _) (is_one _) (by show v < topP s.nodes 0; omega) (by show v < topP s.nodes 1; omega) q hr
  rw [e, hr]
  refine ⟨⟨k3.trans h.full, g2, node1_vars h.vars hv1, g3.trans hcap, by show (node1 s ⟨v, 0, 1⟩).1.nodes.length ≤ _; omega⟩, ⟨g1, g2, g3⟩, k1, fun q => ?_⟩
  show valP (node1 s ⟨v, 0, 1⟩).1.nodes q r = q v
  rw [nv q, val_zero, val_one]
  cases q v <;> rfl

theorem vars_good {C N : Nat} {s : BS} (h : GoodS C N s) (first : Nat) : ∀ n, first + n ≤ 8 → N + n < C → GoodS C (N + n) (varsS first n s).1 ∧ Grew s (varsS first n s).1 ∧ AllIs (varsS first n s).1.nodes (varsS first n s).2 ∧
    ∀ q i, i < n → valP (varsS first n s).1.nodes q ((varsS first n s).2.getD i 0) = q ((first + i : Nat) : Int)
  | 0, _, _ => ⟨h, Grew.refl h.ord, fun i => by simp [varsS]; exact is_zero _, fun q i hi => by omega⟩
  | n + 1, h8, hN => by
    obtain ⟨h1, h2, h3, h4⟩ := vars_good h first n (by omega) (by omega)
    have ew : wrap64 ((first : Int) + (n : Int)) = ((first + n : Nat) : Int) := by unfold wrap64; omega
    obtain ⟨k1, k2, k3, k4⟩ := varF_good h1 (by omega) ((first + n : Nat) : Int) (by omega) (by omega)
    have hl := varsS_len (first : Int) n s
    rw [varsS, ew]
    refine ⟨k1, h2.trans k2, fun i => ?_, fun q i hi => ?_⟩
    · simp only
      rw [getD_snoc]
      split
      · exact (k2.is (h3 i)).1
      · split
        · exact k3
        · exact is_zero _
    · simp only
      rw [getD_snoc, hl]
      by_cases e : i < n
      · rw [if_pos e, k2.val h1.ord q (h3 i), h4 q i e]
      · obtain rfl : i = n := by omega
        rw [if_neg e, if_pos rfl, k4 q]

/-- The bits of a vector's number. -/
theorem bitAt_eq (k : Nat) (hk : k < 128) : bitAt k = 2 ^ k := by
  unfold bitAt
  have e1 : sh (k : Int) = k := by unfold sh; omega
  have e2 : sh 128 = 128 := by unfold sh; omega
  have h : 2 ^ k < 2 ^ 128 := Nat.pow_lt_pow_right (by omega) hk
  rw [e1, e2, Nat.one_mul, show B * B = 2 ^ 128 from by rw [B_pow, ← Nat.pow_add], Nat.mod_eq_of_lt h, Nat.mod_eq_of_lt h]
theorem evalN_bit (hold : Nat → Bool) : ∀ n, n ≤ 128 → ∀ i, (evalN hold n).testBit i = (decide (i < n) && hold i)
  | 0, _, i => by simp [evalN]
  | n + 1, hn, i => by
    have ih := evalN_bit hold n (by omega) i
    rw [evalN]
    by_cases hh : hold n = true
    · rw [if_pos hh, Nat.testBit_or, ih, bitAt_eq n (by omega), Nat.testBit_two_pow]
      by_cases e : n = i
      · subst e; simp [hh]
      · have e1 : decide (i < n + 1) = decide (i < n) := by simp; omega
        simp [e, e1]
    · rw [if_neg hh, ih]
      by_cases e : n = i
      · subst e; simp [hh]
      · have e1 : decide (i < n + 1) = decide (i < n) := by simp; omega
        rw [e1]
theorem evalV_bit {l : List T3} {xs : List Int} (q : Int → Bool) (h : AllIs l xs) (hn : xs.length ≤ 128) (i : Nat) : (evalV l q xs).testBit i = (decide (i < xs.length) && valP l q (xs.getD i 0)) := by
  unfold evalV
  rw [evalN_bit _ _ hn, rightP_of_is (h i)]

end Go.Proofs.Ytlnkflmnjkmhkaa
