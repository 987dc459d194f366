/-
  Contracts of symbv.Const, and of symbv.Eval and Is at a store that is there.
-/
import Derived.Test.YtlihbbeodclncaaEval2
namespace Go.Proofs.Ytlihbbeodclncaa
open Go.RowKit

set_option maxHeartbeats 400000 in
theorem const_any (n : Nat) (k : Int) (w : World) (hn : n < B * B) :
    Calls Try.prog 43 #[numV n, .int .i64 k] w (RetVec w (constBits n (max 0 (min k 256)).toNat)) := by
  obtain ⟨i0, hi, hz0, hz1, hz2⟩ := info_parts Try.infoInt
  obtain ⟨M, hM⟩ : ∃ M, M = (max 0 (min k 256)).toNat := ⟨_, rfl⟩
  have hM1 : M ≤ 256 := by omega
  have HW : Hid (∀ W, Calls Try.prog 59 #[.int .i64 k] W fun e w' => e = .returned (.int .i64 (M : Int)) ∧ W = w') := by
    show ∀ _, _
    rw [hM]; exact width_any k
  rw [← hM]
  clear hM
  obtain ⟨y, z, he, -, -⟩ := numV_parts n
  have HN : Hid (∀ (i : Nat) W, Calls Try.prog 42 #[.agg #[.int .u64 (y : Int), .int .u64 (z : Int)], .int .i64 (i : Int)] W fun e w' => e = .returned (.bool (bitB n (i : Nat))) ∧ Below W.heap.size W w') := by
    show ∀ _ _, _
    rw [← he]; exact fun i W => numBit_any n i W hn
  clear hn
  rw [he]
  clear he
  go_enter Try.func43, Try.ntmps43
  go_wp2_with (first
    | (go_at_call 59; refine (HW.out _).mono ?_; rintro e w1 ⟨rfl, rfl⟩)
    | (at_make; refine wpList_make_full _ rfl _ _ 23 rfl (w.heap.size + 1) 3 i0 (.int .i64 0) 1 Try.underlying23 hi hz0 hz1 .i64 .i64 _ _ M rfl rfl rfl rfl (by rw [hz2]; omega) (by unfold maxLen; omega) (by simp) ?_; intro w0 hown0 hgrow0))
  rw [toList_madeCells_zero, ← constTo_zero n] at hown0
  have hsz : (w.alloc (.cells #[.int .u64 (y : Int), .int .u64 (z : Int)] 26)).heap.size = w.heap.size + 1 := by simp
  rw [hsz] at hown0
  clear hsz
  have hb0 : Below (w.heap.size + 1) (w.alloc (.cells #[.int .u64 (y : Int), .int .u64 (z : Int)] 26)) w0 := (Below.refl _ _).grown hgrow0 (by simp) (fun k h => by cases h)
  go_loopw [12] (fun i wr => ∃ k : Nat, k ≤ M ∧ i = .int .i64 k ∧ wr.ownsRow (w.heap.size + 1) 3 1 (.slice (some ⟨w.heap.size + 1, 0, none⟩) M M) M (constTo n M k) ∧ Below (w.heap.size + 1) (w.alloc (.cells #[.int .u64 (y : Int), .int .u64 (z : Int)] 26)) wr)
    (fun i _ => M - (intOf i).toNat)
  case atStart => exact ⟨0, Nat.zero_le _, rfl, hown0, hb0⟩
  case round =>
    obtain ⟨k, hk, rfl, hown, hnx⟩ := hrel
    have hsize := hnx.size
    simp at hsize
    by_cases hlt : k < M
    · have hcy : wr.cell? ⟨w.heap.size, 0, none⟩ = some (.int .u64 (y : Int)) := by rw [hnx.cell (p := ⟨w.heap.size, 0, none⟩) (by simp)]; simp [go_sem]
      have hcz : wr.cell? ⟨w.heap.size, 1, none⟩ = some (.int .u64 (z : Int)) := by rw [hnx.cell (p := ⟨w.heap.size, 1, none⟩) (by simp)]; simp [go_sem]
      by_cases hbit : bitB n (k : Nat) = true
      · have HS := Lib.hid (constTo_yes n M k hlt hbit)
        go_wp2_with fail
        refine (HN.out k _).mono ?_
        rintro e w1 ⟨rfl, hb1⟩
        have hown1 := own_below hown hb1
        have z1 : ∃ x, w1.cell? ⟨w.heap.size + 1, k, none⟩ = some x := by
          rw [hown1.cellAt k (by omega)]; exact ⟨_, List.getElem?_eq_getElem (by simp [constTo]; omega)⟩
        obtain ⟨x, z1⟩ := z1
        have z2 := hown1.frozenAt k
        have Z := Lib.hid (hown1.stored k (.int .i64 1)).1
        have hz := hb1.size
        go_wp2_with fail
        go_roundw
        case rel => exact ⟨k + 1, by omega, by go_num, HS.out ▸ Z.out, (hnx.trans (hb1.mono (by omega))).setCell (by simp) _⟩
        case measure => simp [intOf]; omega
      · have hbit' : bitB n (k : Nat) = false := by simpa using hbit
        have HS := Lib.hid (constTo_no n M k hbit')
        clear hbit
        go_wp2_with fail
        refine (HN.out k _).mono ?_
        rintro e w1 ⟨rfl, hb1⟩
        have hown1 := Lib.hid (own_below hown hb1)
        have hz := hb1.size
        go_wp2_with fail
        go_roundw
        case rel => exact ⟨k + 1, by omega, by go_num, HS.out ▸ hown1.out, hnx.trans (hb1.mono (by omega))⟩
        case measure => simp [intOf]; omega
    · obtain rfl : k = M := by omega
      go_wp2_with fail
      go_ret
      exact ⟨_, rfl, IVec.of_owns (n := k) (constBits_len _ _) (constTo_end n k ▸ hown), ((Below.refl _ _).alloc (Nat.le_refl _) _).trans (hnx.mono (by omega))⟩

def bitAt (k : Nat) : Nat := 1 * 2 ^ sh (k : Int) % (B * B) % 2 ^ sh 128
def evalN (hold : Nat → Bool) : Nat → Nat
  | 0 => 0
  | k + 1 => if hold k then evalN hold k ||| bitAt k else evalN hold k
theorem bitAt_lt (k : Nat) : bitAt k < B * B := by
  have e : sh 128 = 128 := rfl
  unfold bitAt
  rw [e, ← BB_pow]
  exact Nat.mod_lt _ (by unfold B; omega)
theorem evalN_lt (hold : Nat → Bool) : ∀ k, evalN hold k < B * B
  | 0 => by unfold evalN B; omega
  | k + 1 => by
    unfold evalN
    split
    · rw [BB_pow]; exact Nat.or_lt_two_pow (BB_pow ▸ evalN_lt hold k) (BB_pow ▸ bitAt_lt k)
    · exact evalN_lt hold k

theorem numOf_one (w : World) : Calls Try.prog 50 #[.int .u64 1] w (RetNum w 1) := numOf_any 1 (by unfold B; omega) w

set_option maxHeartbeats 800000 in
theorem eval_any (s va bits : Value) (xs : List Int) (hold : Nat → Bool) (w : World) (ha : IVec w va xs) (hxl : xs.length ≤ 1000000)
    (hH : ∀ k, k < xs.length → ∀ W, Below w.heap.size w W → Calls Try.prog 47 #[s, .int .i64 (xs.getD k 0), bits] W fun e w' => e = .returned (.bool (hold k)) ∧ W = w') :
    Calls Try.prog 24 #[s, va, bits] w (RetNum w (evalN hold xs.length)) := by
  obtain ⟨pa, ca, rfl, ha3, ha4, ha5⟩ := ha.shape
  clear ha
  have HA := Lib.hid ha5; clear ha5
  have HH := Lib.hid hH; clear hH
  go_enter Try.func24, Try.ntmps24
  go_wp2_with fail
  go_loopw [11] (fun i wr => ∃ k : Nat, k ≤ xs.length ∧ i = .int .i64 k ∧ Below w.heap.size w wr ∧ w.heap.size < wr.heap.size ∧ wr.frozen? ⟨w.heap.size, 0, none⟩ = false ∧ wr.frozen? ⟨w.heap.size, 1, none⟩ = false ∧
      ∃ u v : Nat, Hid (numV (evalN hold k) = .agg #[.int .u64 (u : Int), .int .u64 (v : Int)]) ∧ wr.cell? ⟨w.heap.size, 0, none⟩ = some (.int .u64 (u : Int)) ∧ wr.cell? ⟨w.heap.size, 1, none⟩ = some (.int .u64 (v : Int)))
    (fun i _ => xs.length - (intOf i).toNat)
  case atStart => exact ⟨0, Nat.zero_le _, rfl, (by repeat (first | exact Below.refl _ _ | assumption | refine Below.drew ?_ | refine Below.alloc ?_ (by first | omega | (simp <;> omega)) _ | refine Below.setCell ?_ (by first | omega | (simp <;> omega)) _ | refine Below.trans ?_ (Below.mono (by assumption) (by first | omega | (simp <;> omega))))), by simp, by simp [go_sem], by simp [go_sem], 0, 0, zero_eq_numV.symm, by simp [go_sem], by simp [go_sem]⟩
  case round =>
    obtain ⟨k, hk, rfl, hnx, hsz, hf0, hf1, u, v, HE, hc0, hc1⟩ := hrel
    by_cases hlt : k < xs.length
    · obtain ⟨ba, oa, rfl, ha2, ha5⟩ := HA.out (by omega)
      have ga := (hnx.cell (p := ⟨ba, oa + k, none⟩) ha2).trans (ha5 k hlt)
      clear ha5
      have HX : Hid (xs.getD k 0 = xs[k]) := by show _ = _; simp [hlt]
      have HC := HH.out k hlt wr hnx
      rw [HX.out] at HC
      by_cases hh : hold k = true
      · have HN : Hid (evalN hold (k + 1) = evalN hold k ||| bitAt k) := by show _ = _; simp [evalN, hh]
        rw [hh] at HC
        clear hh
        obtain ⟨u2, v2, he2, -, -⟩ := numV_parts (evalN hold k ||| bitAt k)
        have HE2 := Lib.hid he2; clear he2
        have HL : Hid (∀ W, Calls Try.prog 48 #[.agg #[.int .u64 (u : Int), .int .u64 (v : Int)], numV (bitAt k)] W fun e w' => e = .returned (.agg #[.int .u64 (u2 : Int), .int .u64 (v2 : Int)]) ∧ Below W.heap.size W w') := by
          show ∀ _, _
          rw [← HE.out, ← HE2.out]
          exact fun W => numOr_any _ _ W (evalN_lt hold k) (bitAt_lt k)
        have HO : Hid (∀ W, Calls Try.prog 49 #[numV 1, .int .i64 (k : Int), .int .i64 128] W (RetNum W (bitAt k))) := fun W => numShl_any 1 k 128 W (by unfold B; omega)
        go_wp2_with fail
        refine HC.mono ?_
        rintro e w1 ⟨rfl, rfl⟩
        clear HC
        go_wp2_with fail
        go_region_with (first
          | (go_at_call 50; refine (numOf_one _).mono ?_; rintro e w1 ⟨rfl, hb1⟩; obtain ⟨ec1, ef1⟩ := bcell hb1; have hz1 := hb1.size; simp at hz1; have L1 : w.heap.size < w1.heap.size := (by omega); have q10 : w1.cell? ⟨w.heap.size, 0, none⟩ = some (.int .u64 (u : Int)) := (ec1 _ _ hsz).trans hc0; have q11 : w1.cell? ⟨w.heap.size, 1, none⟩ = some (.int .u64 (v : Int)) := (ec1 _ _ hsz).trans hc1; have r10 : w1.frozen? ⟨w.heap.size, 0, none⟩ = false := (ef1 _ _ hsz).trans hf0; have r11 : w1.frozen? ⟨w.heap.size, 1, none⟩ = false := (ef1 _ _ hsz).trans hf1; clear ec1 ef1)
          | (go_at_call 49; refine (HO.out _).mono ?_; rintro e w2 ⟨rfl, hb2⟩; obtain ⟨ec2, ef2⟩ := bcell hb2; have hz2 := hb2.size; have L2 : w.heap.size < w2.heap.size := (by omega); have q20 : w2.cell? ⟨w.heap.size, 0, none⟩ = some (.int .u64 (u : Int)) := (ec2 _ _ L1).trans q10; have q21 : w2.cell? ⟨w.heap.size, 1, none⟩ = some (.int .u64 (v : Int)) := (ec2 _ _ L1).trans q11; have r20 : w2.frozen? ⟨w.heap.size, 0, none⟩ = false := (ef2 _ _ L1).trans r10; have r21 : w2.frozen? ⟨w.heap.size, 1, none⟩ = false := (ef2 _ _ L1).trans r11; clear ec2 ef2)
          | (go_at_call 48; refine (HL.out _).mono ?_; rintro e w3 ⟨rfl, hb3⟩; obtain ⟨ec3, ef3⟩ := bcell hb3; have hz3 := hb3.size; have L3 : w.heap.size < w3.heap.size := (by omega); have q30 : w3.cell? ⟨w.heap.size, 0, none⟩ = some (.int .u64 (u : Int)) := (ec3 _ _ L2).trans q20; have q31 : w3.cell? ⟨w.heap.size, 1, none⟩ = some (.int .u64 (v : Int)) := (ec3 _ _ L2).trans q21; have r30 : w3.frozen? ⟨w.heap.size, 0, none⟩ = false := (ef3 _ _ L2).trans r20; have r31 : w3.frozen? ⟨w.heap.size, 1, none⟩ = false := (ef3 _ _ L2).trans r21; clear ec3 ef3))
        all_goals go_wp2_with fail
        all_goals
          go_roundw
          case rel => exact ⟨k + 1, by omega, by go_num, (by repeat (first | exact Below.refl _ _ | assumption | refine Below.drew ?_ | refine Below.alloc ?_ (by first | omega | (simp <;> omega)) _ | refine Below.setCell ?_ (by first | omega | (simp <;> omega)) _ | refine Below.trans ?_ (Below.mono (by assumption) (by first | omega | (simp <;> omega))))), by simp; omega, by simp [go_sem, r30], by simp [go_sem, r31], u2, v2, by rw [HN.out]; exact HE2, by simp [go_sem, q30, q31], by simp [go_sem, q30, q31]⟩
          case measure => simp [intOf]; omega
      · have hh' : hold k = false := by simpa using hh
        have HN : Hid (evalN hold (k + 1) = evalN hold k) := by show _ = _; simp [evalN, hh']
        rw [hh'] at HC
        clear hh hh'
        go_wp2_with fail
        refine HC.mono ?_
        rintro e w1 ⟨rfl, rfl⟩
        clear HC
        go_wp2_with fail
        go_roundw
        case rel => exact ⟨k + 1, by omega, by go_num, hnx, hsz, hf0, hf1, u, v, by rw [HN.out]; exact HE, hc0, hc1⟩
        case measure => simp [intOf]; omega
    · obtain rfl : k = xs.length := by omega
      go_wp2_with fail
      exact bodyPost_ret (v := .agg #[.int .u64 (u : Int), .int .u64 (v : Int)]) (by simp [results, Try.results24, go_sem, hc0, hc1]) rfl ⟨by rw [← HE.out], (by repeat (first | exact Below.refl _ _ | assumption | refine Below.drew ?_ | refine Below.alloc ?_ (by first | omega | (simp <;> omega)) _ | refine Below.setCell ?_ (by first | omega | (simp <;> omega)) _ | refine Below.trans ?_ (Below.mono (by assumption) (by first | omega | (simp <;> omega)))))⟩

end Go.Proofs.Ytlihbbeodclncaa
