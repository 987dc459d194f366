/-
  Lemmas, joined: Eval3, Known17, Known17b, RefSub.
-/
import Derived.Test.YtlnkflmnjkmhkaaJR08
import Derived.Test.YtlnkflmnjkmhkaaJR17
import Derived.Test.YtlnkflmnjkmhkaaJR18
import Derived.Deep.RegionHeld3
/-
  Contracts of symbv.Const, and of symbv.Eval and Is at a store that is there.
-/
namespace Go.Proofs.Ytlnkflmnjkmhkaa
open Go.RowKit

set_option maxRecDepth 100000 in
set_option maxHeartbeats 400000 in
theorem const_any (n : Nat) (k : Int) (w : World) (hn : n < B * B) :
    Calls Try.prog 19 #[numV n, .int .i64 k] w (RetVec w (constBits n (max 0 (min k 256)).toNat)) := by
  obtain ⟨i0, hi, hz0, hz1, hz2⟩ := info_parts Try.infoInt
  obtain ⟨M, hM⟩ : ∃ M, M = (max 0 (min k 256)).toNat := ⟨_, rfl⟩
  have hM1 : M ≤ 256 := by omega
  have HW : Hid (∀ W, Calls Try.prog 79 #[.int .i64 k] W fun e w' => e = .returned (.int .i64 (M : Int)) ∧ W = w') := by
    show ∀ _, _
    rw [hM]; exact width_any k
  rw [← hM]
  clear hM
  obtain ⟨y, z, he, -, -⟩ := numV_parts n
  have HN : Hid (∀ (i : Nat) W, Calls Try.prog 80 #[.agg #[.int .u64 (y : Int), .int .u64 (z : Int)], .int .i64 (i : Int)] W fun e w' => e = .returned (.bool (bitB n (i : Nat))) ∧ Below W.heap.size W w') := by
    show ∀ _ _, _
    rw [← he]; exact fun i W => numBit_any n i W hn
  clear hn
  rw [he]
  clear he
  go_enter Try.func19, Try.ntmps19
  go_wp2_with (first
    | (go_at_call 79; refine (HW.out _).mono ?_; rintro e w1 ⟨rfl, rfl⟩)
    | (at_make; refine wpList_make_full _ rfl _ _ 34 rfl (w.heap.size + 1) 3 i0 (.int .i64 0) 1 Try.underlying34 hi hz0 hz1 .i64 .i64 _ _ M rfl rfl rfl rfl (by rw [hz2]; omega) (by unfold maxLen; omega) (by simp) ?_; intro w0 hown0 hgrow0))
  rw [toList_madeCells_zero, ← constTo_zero n] at hown0
  have hsz : (w.alloc (.cells #[.int .u64 (y : Int), .int .u64 (z : Int)] 41)).heap.size = w.heap.size + 1 := by simp
  rw [hsz] at hown0
  clear hsz
  have hb0 : Below (w.heap.size + 1) (w.alloc (.cells #[.int .u64 (y : Int), .int .u64 (z : Int)] 41)) w0 := (Below.refl _ _).grown hgrow0 (by simp) (fun k h => by cases h)
  go_loopw [12] (fun i wr => ∃ k : Nat, k ≤ M ∧ i = .int .i64 k ∧ wr.ownsRow (w.heap.size + 1) 3 1 (.slice (some ⟨w.heap.size + 1, 0, none⟩) M M) M (constTo n M k) ∧ Below (w.heap.size + 1) (w.alloc (.cells #[.int .u64 (y : Int), .int .u64 (z : Int)] 41)) wr)
    (fun i _ => M - (intOf i).toNat)
  case atStart => exact ⟨0, Nat.zero_le _, rfl, hown0, hb0⟩
  case round =>
    obtain ⟨k, hk, rfl, hown, hnx⟩ := hrel
    have hsize := hnx.size
    simp at hsize
    by_cases hlt : k < M
    · have hcy : wr.cell? ⟨w.heap.size, 0, none⟩ = some (.int .u64 (y : Int)) := by rw [hnx.cell (p := ⟨w.heap.size, 0, none⟩) (by simp)]; simp [go_sem]
      have hcz : wr.cell? ⟨w.heap.size, 1, none⟩ = some (.int .u64 (z : Int)) := by rw [hnx.cell (p := ⟨w.heap.size, 1, none⟩) (by simp)]; simp [go_sem]
      by_cases hbit : bitB n (k : Nat) = true
      · have HS := Lib.hid (constTo_yes n M k hlt hbit)
        go_wp2_with fail
        refine (HN.out k _).mono ?_
        rintro e w1 ⟨rfl, hb1⟩
        have hown1 := own_below hown hb1
        have z1 : ∃ x, w1.cell? ⟨w.heap.size + 1, k, none⟩ = some x := by
          rw [hown1.cellAt k (by omega)]; exact ⟨_, List.getElem?_eq_getElem (by simp [constTo]; omega)⟩
        obtain ⟨x, z1⟩ := z1
        have z2 := hown1.frozenAt k
        have Z := Lib.hid (hown1.stored k (.int .i64 1)).1
        have hz := hb1.size
        go_wp2_with fail
        go_roundw
        case rel => exact ⟨k + 1, by omega, by go_num, HS.out ▸ Z.out, (hnx.trans (hb1.mono (by omega))).setCell (by simp) _⟩
        case measure => simp [intOf]; omega
      · have hbit' : bitB n (k : Nat) = false := by simpa using hbit
        have HS := Lib.hid (constTo_no n M k hbit')
        clear hbit
        go_wp2_with fail
        refine (HN.out k _).mono ?_
        rintro e w1 ⟨rfl, hb1⟩
        have hown1 := Lib.hid (own_below hown hb1)
        have hz := hb1.size
        go_wp2_with fail
        go_roundw
        case rel => exact ⟨k + 1, by omega, by go_num, HS.out ▸ hown1.out, hnx.trans (hb1.mono (by omega))⟩
        case measure => simp [intOf]; omega
    · obtain rfl : k = M := by omega
      go_wp2_with fail
      go_ret
      exact ⟨_, rfl, IVec.of_owns (n := k) (constBits_len _ _) (constTo_end n k ▸ hown), ((Below.refl _ _).alloc (Nat.le_refl _) _).trans (hnx.mono (by omega))⟩

def bitAt (k : Nat) : Nat := 1 * 2 ^ sh (k : Int) % (B * B) % 2 ^ sh 128
def evalN (hold : Nat → Bool) : Nat → Nat
  | 0 => 0
  | k + 1 => if hold k then evalN hold k ||| bitAt k else evalN hold k
theorem bitAt_lt (k : Nat) : bitAt k < B * B := by
  have e : sh 128 = 128 := rfl
  unfold bitAt
  rw [e, ← BB_pow]
  exact Nat.mod_lt _ (by unfold B; omega)
theorem evalN_lt (hold : Nat → Bool) : ∀ k, evalN hold k < B * B
  | 0 => by unfold evalN B; omega
  | k + 1 => by
    unfold evalN
    split
    · rw [BB_pow]; exact Nat.or_lt_two_pow (BB_pow ▸ evalN_lt hold k) (BB_pow ▸ bitAt_lt k)
    · exact evalN_lt hold k

theorem numOf_one (w : World) : Calls Try.prog 93 #[.int .u64 1] w (RetNum w 1) := numOf_any 1 (by unfold B; omega) w

set_option maxRecDepth 100000 in
set_option maxHeartbeats 800000 in
theorem eval_any (s va bits : Value) (xs : List Int) (hold : Nat → Bool) (w : World) (ha : IVec w va xs) (hxl : xs.length ≤ 1000000)
    (hH : ∀ k, k < xs.length → ∀ W, Below w.heap.size w W → Calls Try.prog 90 #[s, .int .i64 (xs.getD k 0), bits] W fun e w' => e = .returned (.bool (hold k)) ∧ W = w') :
    Calls Try.prog 40 #[s, va, bits] w (RetNum w (evalN hold xs.length)) := by
  obtain ⟨pa, ca, rfl, ha3, ha4, ha5⟩ := ha.shape
  clear ha
  have HA := Lib.hid ha5; clear ha5
  have HH := Lib.hid hH; clear hH
  go_enter Try.func40, Try.ntmps40
  go_wp2_with fail
  go_loopw [11] (fun i wr => ∃ k : Nat, k ≤ xs.length ∧ i = .int .i64 k ∧ Below w.heap.size w wr ∧ w.heap.size < wr.heap.size ∧ wr.frozen? ⟨w.heap.size, 0, none⟩ = false ∧ wr.frozen? ⟨w.heap.size, 1, none⟩ = false ∧
      ∃ u v : Nat, Hid (numV (evalN hold k) = .agg #[.int .u64 (u : Int), .int .u64 (v : Int)]) ∧ wr.cell? ⟨w.heap.size, 0, none⟩ = some (.int .u64 (u : Int)) ∧ wr.cell? ⟨w.heap.size, 1, none⟩ = some (.int .u64 (v : Int)))
    (fun i _ => xs.length - (intOf i).toNat)
  case atStart => exact ⟨0, Nat.zero_le _, rfl, (by repeat (first | exact Below.refl _ _ | assumption | refine Below.drew ?_ | refine Below.alloc ?_ (by first | omega | (simp <;> omega)) _ | refine Below.setCell ?_ (by first | omega | (simp <;> omega)) _ | refine Below.trans ?_ (Below.mono (by assumption) (by first | omega | (simp <;> omega))))), by simp, by simp [go_sem], by simp [go_sem], 0, 0, zero_eq_numV.symm, by simp [go_sem], by simp [go_sem]⟩
  case round =>
    obtain ⟨k, hk, rfl, hnx, hsz, hf0, hf1, u, v, HE, hc0, hc1⟩ := hrel
    by_cases hlt : k < xs.length
    · obtain ⟨ba, oa, rfl, ha2, ha5⟩ := HA.out (by omega)
      have ga := (hnx.cell (p := ⟨ba, oa + k, none⟩) ha2).trans (ha5 k hlt)
      clear ha5
      have HX : Hid (xs.getD k 0 = xs[k]) := by show _ = _; simp [hlt]
      have HC := HH.out k hlt wr hnx
      rw [HX.out] at HC
      by_cases hh : hold k = true
      · have HN : Hid (evalN hold (k + 1) = evalN hold k ||| bitAt k) := by show _ = _; simp [evalN, hh]
        rw [hh] at HC
        clear hh
        obtain ⟨u2, v2, he2, -, -⟩ := numV_parts (evalN hold k ||| bitAt k)
        have HE2 := Lib.hid he2; clear he2
        have HL : Hid (∀ W, Calls Try.prog 91 #[.agg #[.int .u64 (u : Int), .int .u64 (v : Int)], numV (bitAt k)] W fun e w' => e = .returned (.agg #[.int .u64 (u2 : Int), .int .u64 (v2 : Int)]) ∧ Below W.heap.size W w') := by
          show ∀ _, _
          rw [← HE.out, ← HE2.out]
          exact fun W => numOr_any _ _ W (evalN_lt hold k) (bitAt_lt k)
        have HO : Hid (∀ W, Calls Try.prog 92 #[numV 1, .int .i64 (k : Int), .int .i64 128] W (RetNum W (bitAt k))) := fun W => numShl_any 1 k 128 W (by unfold B; omega)
        go_wp2_with fail
        refine HC.mono ?_
        rintro e w1 ⟨rfl, rfl⟩
        clear HC
        go_wp2_with fail
        go_region_with (first
          | (go_at_call 93; refine (numOf_one _).mono ?_; rintro e w1 ⟨rfl, hb1⟩; obtain ⟨ec1, ef1⟩ := bcell hb1; have hz1 := hb1.size; simp at hz1; have L1 : w.heap.size < w1.heap.size := (by omega); have q10 : w1.cell? ⟨w.heap.size, 0, none⟩ = some (.int .u64 (u : Int)) := (ec1 _ _ hsz).trans hc0; have q11 : w1.cell? ⟨w.heap.size, 1, none⟩ = some (.int .u64 (v : Int)) := (ec1 _ _ hsz).trans hc1; have r10 : w1.frozen? ⟨w.heap.size, 0, none⟩ = false := (ef1 _ _ hsz).trans hf0; have r11 : w1.frozen? ⟨w.heap.size, 1, none⟩ = false := (ef1 _ _ hsz).trans hf1; clear ec1 ef1)
          | (go_at_call 92; refine (HO.out _).mono ?_; rintro e w2 ⟨rfl, hb2⟩; obtain ⟨ec2, ef2⟩ := bcell hb2; have hz2 := hb2.size; have L2 : w.heap.size < w2.heap.size := (by omega); have q20 : w2.cell? ⟨w.heap.size, 0, none⟩ = some (.int .u64 (u : Int)) := (ec2 _ _ L1).trans q10; have q21 : w2.cell? ⟨w.heap.size, 1, none⟩ = some (.int .u64 (v : Int)) := (ec2 _ _ L1).trans q11; have r20 : w2.frozen? ⟨w.heap.size, 0, none⟩ = false := (ef2 _ _ L1).trans r10; have r21 : w2.frozen? ⟨w.heap.size, 1, none⟩ = false := (ef2 _ _ L1).trans r11; clear ec2 ef2)
          | (go_at_call 91; refine (HL.out _).mono ?_; rintro e w3 ⟨rfl, hb3⟩; obtain ⟨ec3, ef3⟩ := bcell hb3; have hz3 := hb3.size; have L3 : w.heap.size < w3.heap.size := (by omega); have q30 : w3.cell? ⟨w.heap.size, 0, none⟩ = some (.int .u64 (u : Int)) := (ec3 _ _ L2).trans q20; have q31 : w3.cell? ⟨w.heap.size, 1, none⟩ = some (.int .u64 (v : Int)) := (ec3 _ _ L2).trans q21; have r30 : w3.frozen? ⟨w.heap.size, 0, none⟩ = false := (ef3 _ _ L2).trans r20; have r31 : w3.frozen? ⟨w.heap.size, 1, none⟩ = false := (ef3 _ _ L2).trans r21; clear ec3 ef3))
        all_goals go_wp2_with fail
        all_goals
          go_roundw
          case rel => exact ⟨k + 1, by omega, by go_num, (by repeat (first | exact Below.refl _ _ | assumption | refine Below.drew ?_ | refine Below.alloc ?_ (by first | omega | (simp <;> omega)) _ | refine Below.setCell ?_ (by first | omega | (simp <;> omega)) _ | refine Below.trans ?_ (Below.mono (by assumption) (by first | omega | (simp <;> omega))))), by simp; omega, by simp [go_sem, r30], by simp [go_sem, r31], u2, v2, by rw [HN.out]; exact HE2, by simp [go_sem, q30, q31], by simp [go_sem, q30, q31]⟩
          case measure => simp [intOf]; omega
      · have hh' : hold k = false := by simpa using hh
        have HN : Hid (evalN hold (k + 1) = evalN hold k) := by show _ = _; simp [evalN, hh']
        rw [hh'] at HC
        clear hh hh'
        go_wp2_with fail
        refine HC.mono ?_
        rintro e w1 ⟨rfl, rfl⟩
        clear HC
        go_wp2_with fail
        go_roundw
        case rel => exact ⟨k + 1, by omega, by go_num, hnx, hsz, hf0, hf1, u, v, by rw [HN.out]; exact HE, hc0, hc1⟩
        case measure => simp [intOf]; omega
    · obtain rfl : k = xs.length := by omega
      go_wp2_with fail
      exact bodyPost_ret (v := .agg #[.int .u64 (u : Int), .int .u64 (v : Int)]) (by simp [results, Try.results40, go_sem, hc0, hc1]) rfl ⟨by rw [← HE.out], (by repeat (first | exact Below.refl _ _ | assumption | refine Below.drew ?_ | refine Below.alloc ?_ (by first | omega | (simp <;> omega)) _ | refine Below.setCell ?_ (by first | omega | (simp <;> omega)) _ | refine Below.trans ?_ (Below.mono (by assumption) (by first | omega | (simp <;> omega)))))⟩

end Go.Proofs.Ytlnkflmnjkmhkaa

/-
  Contracts of symbv.Is and quillonref17.Same; the page's examples of layer 17 answer true.
-/
namespace Go.Proofs.Ytlnkflmnjkmhkaa
open Go.RowKit

set_option maxRecDepth 100000 in
set_option maxHeartbeats 800000 in
theorem is_two (b : Nat) (va : Value) (xs : List Int) (c : Int) (pn : Option Addr) (n cp : Nat) (w : World) (ha : IVec w va xs) (hxl : xs.length ≤ 128)
    (hx : ∀ k, k < xs.length → 0 ≤ xs.getD k 0 ∧ xs.getD k 0 ≤ 1) (hbs : b < w.heap.size)
    (h0 : w.cell? ⟨b, 0, none⟩ = some (.int .i64 c)) (hc : (c == 0) = false) (h1 : w.cell? ⟨b, 1, none⟩ = some (.slice pn n cp)) (hn : n ≤ 1000000000) :
    Calls Try.prog 45 #[.pointer (some ⟨b, 0, none⟩), va] w fun e w' => e = .returned (.tuple #[numV (evalN (fun k => xs.getD k 0 == 1) xs.length), .bool true]) ∧ Below w.heap.size w w' := by
  have HE : Hid (∀ W, Below w.heap.size w W → Calls Try.prog 40 #[.pointer (some ⟨b, 0, none⟩), va, .slice none 0 0] W (RetNum W (evalN (fun k => xs.getD k 0 == 1) xs.length))) := by
    intro W hW
    refine eval_any _ va _ xs _ W (ha.below hW) (by omega) fun k hk W2 hW2 => ?_
    have hB : Below w.heap.size w W2 := hW.trans (hW2.mono hW.size)
    obtain ⟨x1, x2⟩ := hx k hk
    exact holds_two b c _ pn n cp _ W2 (by rw [hB.cell (p := ⟨b, 0, none⟩) hbs]; exact h0) hc (by rw [hB.cell (p := ⟨b, 1, none⟩) hbs]; exact h1) x1 x2 hn
  obtain ⟨pa, ca, rfl, ha3, ha4, ha5⟩ := ha.shape
  clear ha
  have HA := Lib.hid ha5; clear ha5
  have HX := Lib.hid hx; clear hx
  clear h0 hc h1 hn
  go_enter Try.func45, Try.ntmps45
  go_wp2_with fail
  have hB : Below w.heap.size w (w.alloc (.cells #[.int .u64 0, .int .u64 0] 41)) := (by repeat (first | exact Below.refl _ _ | assumption | refine Below.drew ?_ | refine Below.alloc ?_ (by first | omega | (simp <;> omega)) _ | refine Below.setCell ?_ (by first | omega | (simp <;> omega)) _ | refine Below.trans ?_ (Below.mono (by assumption) (by first | omega | (simp <;> omega)))))
  go_loop [10] (fun i => ∃ k : Nat, k ≤ xs.length ∧ i = .int .i64 k) (fun i => xs.length - (intOf i).toNat)
  case atStart => exact ⟨0, Nat.zero_le _, rfl⟩
  case round =>
    obtain ⟨k, hk, rfl⟩ := hrel
    by_cases hlt : k < xs.length
    · obtain ⟨ba, oa, rfl, ha2, ha5⟩ := HA.out (by omega)
      have ga := ha5 k hlt
      clear ha5
      have hx := HX.out k hlt
      rcases (show xs.getD k 0 = 0 ∨ xs.getD k 0 = 1 by omega) with hz | hz
      · rw [hz] at ga
        clear hx hz
        go_wp2_with fail
        go_round
        case rel => exact ⟨k + 1, by omega, by go_num⟩
        case measure => simp [intOf]; omega
      · rw [hz] at ga
        clear hx hz
        go_wp2_with fail
        go_round
        case rel => exact ⟨k + 1, by omega, by go_num⟩
        case measure => simp [intOf]; omega
    · obtain rfl : k = xs.length := by omega
      obtain ⟨u, v, he, -, -⟩ := numV_parts (evalN (fun k => xs.getD k 0 == 1) xs.length)
      have HM := Lib.hid he; clear he
      go_wp2_with fail
      refine (HE.out _ hB).mono ?_
      rintro e w1 ⟨rfl, hb⟩
      rw [HM.out]
      obtain ⟨ec, ef⟩ := bcell hb
      go_wp2_with fail
      exact bodyPost_ret (v := .tuple #[.agg #[.int .u64 (u : Int), .int .u64 (v : Int)], .bool true]) (by simp [results, Try.results45, go_sem, ec, ef]) rfl ⟨by rw [HM.out], (by repeat (first | exact Below.refl _ _ | assumption | refine Below.drew ?_ | refine Below.alloc ?_ (by first | omega | (simp <;> omega)) _ | refine Below.setCell ?_ (by first | omega | (simp <;> omega)) _ | refine Below.trans ?_ (Below.mono (by assumption) (by first | omega | (simp <;> omega)))))⟩

set_option maxRecDepth 100000 in
set_option maxHeartbeats 800000 in
theorem same_any (va vb : Value) (xs ys : List Int) (w : World) (ha : IVec w va xs) (hb : IVec w vb ys) (hl : xs.length = ys.length) (hxl : xs.length ≤ 1000000) (he : xs = ys) :
    Calls Try.prog 11 #[va, vb] w fun e w' => e = .returned (.bool true) ∧ Below w.heap.size w w' := by
  subst he
  obtain ⟨pa, ca, rfl, ha3, ha4, ha5⟩ := ha.shape
  obtain ⟨pb, cb, rfl, hb3, hb4, hb5⟩ := hb.shape
  clear ha hb hl
  have HA := Lib.hid ha5; clear ha5
  have HB := Lib.hid hb5; clear hb5
  go_enter Try.func11, Try.ntmps11
  go_wp2_with fail
  go_loopw [5] (fun i wr => ∃ k : Nat, k ≤ xs.length ∧ i = .int .i64 k ∧ Below w.heap.size w wr) (fun i _ => xs.length - (intOf i).toNat)
  case atStart => exact ⟨0, Nat.zero_le _, rfl, Below.refl _ _⟩
  case round =>
    obtain ⟨k, hk, rfl, hnx⟩ := hrel
    by_cases hlt : k < xs.length
    · obtain ⟨ba, oa, rfl, ha2, ha5⟩ := HA.out (by omega)
      have ga := (hnx.cell (p := ⟨ba, oa + k, none⟩) ha2).trans (ha5 k hlt)
      obtain ⟨bb, ob, rfl, hb2, hb5⟩ := HB.out (by omega)
      have gb := (hnx.cell (p := ⟨bb, ob + k, none⟩) hb2).trans (hb5 k hlt)
      clear ha5 hb5
      go_wp2_with fail
      go_quiet (fail)
      go_wp2_with fail
      go_roundw
      case rel => exact ⟨k + 1, by omega, by go_num, below_drewN hnx _⟩
      case measure => simp [intOf]; omega
    · obtain rfl : k = xs.length := by omega
      go_wp2_with fail
      go_ret
      exact ⟨rfl, hnx⟩

end Go.Proofs.Ytlnkflmnjkmhkaa

/-
  The page's examples of layer 17 answer true.
-/
namespace Go.Proofs.Ytlnkflmnjkmhkaa
open Go.RowKit

theorem refOf_val (n : Nat) (hn : n < B) : Value.agg #[.int .u64 0, .int .u64 (n : Int)] = numV n := numOf_val n hn

set_option maxRecDepth 100000 in
set_option maxHeartbeats 400000 in
theorem refOf_any (n : Nat) (hn : n < B) (w : World) :
    Calls Try.prog 30 #[.int .u64 (n : Int)] w (RetNum w n) := by
  have H := Lib.hid (numOf_val n hn); clear hn
  go_enter Try.func30, Try.ntmps30
  go_wp2
  exact bodyPost_ret (v := .agg #[.int .u64 0, .int .u64 (n : Int)]) (by simp [results, Try.results30, go_sem]) rfl ⟨by rw [H.out], (by repeat (first | exact Below.refl _ _ | assumption | refine Below.drew ?_ | refine Below.alloc ?_ (by first | omega | (simp <;> omega)) _ | refine Below.setCell ?_ (by first | omega | (simp <;> omega)) _ | refine Below.trans ?_ (Below.mono (by assumption) (by first | omega | (simp <;> omega)))))⟩

theorem refOf_five (w : World) : Calls Try.prog 30 #[.int .u64 5] w (RetNum w 5) := refOf_any 5 (by unfold B; omega) w

theorem IVec.lit3 (W : World) (a b c : Int) (t : TypeId) : IVec (W.alloc (.cells #[.int .i64 a, .int .i64 b, .int .i64 c] t)) (.slice (some ⟨W.heap.size, 0, none⟩) 3 3) [a, b, c] := by
  refine ⟨some ⟨W.heap.size, 0, none⟩, 3, rfl, by simp, by unfold maxLen; omega, fun _ => ⟨W.heap.size, 0, rfl, by simp, fun i hi => ?_⟩⟩
  simp at hi
  match i, hi with
  | 0, _ => simp [go_sem]
  | 1, _ => simp [go_sem]
  | 2, _ => simp [go_sem]

theorem constBits_five : constBits 5 (max 0 (min (3 : Int) 256)).toNat = [1, 0, 1] := by decide +kernel
theorem eval_five : evalN (fun k => [(1 : Int), 0, 1].getD k 0 == 1) [(1 : Int), 0, 1].length = 5 := by decide +kernel
theorem five_val : numV 5 = .agg #[.int .u64 0, .int .u64 5] := by kernel_rfl

set_option maxRecDepth 100000 in
set_option maxHeartbeats 800000 in
theorem known17_true (w : World) : Calls Try.prog 41 #[] w fun e w' => e = .returned (.bool true) ∧ Below w.heap.size w w' := by
  have HN : Hid (∀ W, Calls Try.prog 8 #[.int .i64 2] W fun e w' => e = .returned (.tuple #[.pointer (some ⟨W.heap.size + 2, 0, none⟩), .int .i64 0]) ∧ newWorld W 2 = w') := fun W => new_ok 2 W (by omega) (by omega)
  have HC : Hid (∀ W, Calls Try.prog 19 #[numV 5, .int .i64 3] W (RetVec W [1, 0, 1])) := fun W => constBits_five ▸ const_any 5 3 W (by unfold B; omega)
  have H5 := Lib.hid five_val
  go_enter Try.func41, Try.ntmps41
  go_wp2_with fail
  refine (HN.out _).mono ?_
  rintro e w1 ⟨rfl, hw1⟩
  have hB1 : Below w.heap.size w w1 := by rw [← hw1]; unfold newWorld; exact (by repeat (first | exact Below.refl _ _ | assumption | refine Below.drew ?_ | refine Below.alloc ?_ (by first | omega | (simp <;> omega)) _ | refine Below.setCell ?_ (by first | omega | (simp <;> omega)) _ | refine Below.trans ?_ (Below.mono (by assumption) (by first | omega | (simp <;> omega)))))
  have c0 : w1.cell? ⟨w.heap.size + 2, 0, none⟩ = some (.int .i64 2) := by rw [← hw1]; simp [newWorld, newCells, go_sem]
  have c1 : w1.cell? ⟨w.heap.size + 2, 1, none⟩ = some (.slice none 0 0) := by rw [← hw1]; simp [newWorld, newCells, go_sem]
  have hs1 : w.heap.size + 2 < w1.heap.size := by rw [← hw1]; simp [newWorld]
  clear hw1
  go_wp2_with fail
  refine (refOf_five _).mono ?_
  rintro e w2 ⟨rfl, hb2⟩
  go_wp2_with fail
  refine (HC.out _).mono ?_
  rintro e w3 ⟨v, rfl, hv, hb3⟩
  have hB3 : Below w1.heap.size w1 w3 := hb2.trans (hb3.mono hb2.size)
  have hs3 : w1.heap.size ≤ w3.heap.size := hB3.size
  go_wp2_with fail
  refine (is_two (w.heap.size + 2) v [1, 0, 1] 2 none 0 0 _ hv (by simp) ?_ (by omega) ?_ rfl ?_ (by omega)).mono ?_
  · intro k hk
    simp at hk
    match k, hk with
    | 0, _ => simp
    | 1, _ => simp
    | 2, _ => simp
  · rw [hB3.cell (p := ⟨w.heap.size + 2, 0, none⟩) hs1]; exact c0
  · rw [hB3.cell (p := ⟨w.heap.size + 2, 1, none⟩) hs1]; exact c1
  rintro e w4 ⟨rfl, hb4⟩
  rw [eval_five, H5.out]
  have hs4 := hb4.size
  clear c0 c1
  go_wp2_with fail
  have hv5 : IVec (w4.alloc (.cells #[.int .u64 0, .int .u64 5] 41)) v [1, 0, 1] := (hv.below hb4).below (by repeat (first | exact Below.refl _ _ | assumption | refine Below.drew ?_ | refine Below.alloc ?_ (by first | omega | (simp <;> omega)) _ | refine Below.setCell ?_ (by first | omega | (simp <;> omega)) _ | refine Below.trans ?_ (Below.mono (by assumption) (by first | omega | (simp <;> omega)))))
  have hB5 : Below w.heap.size w (w4.alloc (.cells #[.int .u64 0, .int .u64 5] 41)) := (hB1.trans ((hB3.trans (hb4.mono hs3)).mono hB1.size)).alloc (by omega) _
  have HV := Lib.hid hv5; clear hv5
  have HB := Lib.hid hB5; clear hB5
  clear hB1 hB3 hb4 hb2 hb3 hv
  generalize hX : w4.alloc (.cells #[.int .u64 0, .int .u64 5] 41) = X at HV HB ⊢
  have x0 : X.cell? ⟨w4.heap.size, 0, none⟩ = some (.int .u64 0) := by rw [← hX]; simp [go_sem]
  have x1 : X.cell? ⟨w4.heap.size, 1, none⟩ = some (.int .u64 5) := by rw [← hX]; simp [go_sem]
  have hsx : w4.heap.size < X.heap.size := by rw [← hX]; simp
  clear hX
  go_region_with (first
    | (go_at_call 11; refine (same_any _ _ [1, 0, 1] [1, 0, 1] _ (HV.out.below ?_) (IVec.below (IVec.lit3 X 1 0 1 3) ((Below.refl _ _).drew)) rfl (by simp) rfl).mono ?_; exact (by repeat (first | exact Below.refl _ _ | assumption | refine Below.drew ?_ | refine Below.alloc ?_ (by first | omega | (simp <;> omega)) _ | refine Below.setCell ?_ (by first | omega | (simp <;> omega)) _ | refine Below.trans ?_ (Below.mono (by assumption) (by first | omega | (simp <;> omega))))); rintro e w6 ⟨rfl, hb6⟩; have hX6 : Below X.heap.size X w6 := (((Below.refl X.heap.size X).alloc (Nat.le_refl _) _).drew).trans (hb6.mono (by simp)); have x60 : w6.cell? ⟨w4.heap.size, 0, none⟩ = some (.int .u64 0) := (hX6.cell hsx).trans x0; have x61 : w6.cell? ⟨w4.heap.size, 1, none⟩ = some (.int .u64 5) := (hX6.cell hsx).trans x1; clear hb6)
    | (go_at_call 30; refine (refOf_five _).mono ?_; rintro e w7 ⟨rfl, hb7⟩; rw [H5.out]; have x70 : w7.cell? ⟨w4.heap.size, 0, none⟩ = some (.int .u64 0) := (hb7.cell (Nat.lt_of_lt_of_le hsx hX6.size)).trans x60; have x71 : w7.cell? ⟨w4.heap.size, 1, none⟩ = some (.int .u64 5) := (hb7.cell (Nat.lt_of_lt_of_le hsx hX6.size)).trans x61; have hX7 : Below X.heap.size X w7 := hX6.trans (hb7.mono hX6.size); clear hb7))
  all_goals go_wp2_with fail
  all_goals go_ret
  all_goals exact ⟨rfl, HB.out.trans (hX7.mono HB.out.size)⟩

end Go.Proofs.Ytlnkflmnjkmhkaa

/-
  Contracts of quillonref01.Sub and Bit.
-/
namespace Go.Proofs.Ytlnkflmnjkmhkaa
open Go.RowKit

/-- A difference of 128 bits, cut. -/
def subN (a b : Nat) (c : Int) : Nat := (a + (2 ^ 128 - b)) % 2 ^ 128 % 2 ^ sh c
theorem sh128 : sh 128 = 128 := by unfold sh; omega

theorem not_num {b : Nat} (hb : b < 2 ^ 128) : (b % 2 ^ sh 128) ^^^ (2 ^ sh 128 - 1) = 2 ^ 128 - 1 - b := by
  rw [sh128, Nat.mod_eq_of_lt hb]
  apply Nat.eq_of_testBit_eq
  intro i
  rw [Nat.testBit_xor, Nat.testBit_two_pow_sub_one, show 2 ^ 128 - 1 - b = 2 ^ 128 - (b + 1) by omega, Nat.testBit_two_pow_sub_succ hb]
  by_cases h : i < 128
  · simp [h]
  · have := Nat.testBit_lt_two_pow (Nat.lt_of_lt_of_le hb (Nat.pow_le_pow_right (by omega) (by omega : 128 ≤ i)))
    simp [h, this]

theorem sub_num {a b : Nat} (c : Int) (ha : a < 2 ^ 128) (hb : b < 2 ^ 128) : ((a + ((b % 2 ^ sh 128) ^^^ (2 ^ sh 128 - 1))) % 2 ^ 128 % 2 ^ sh 128 + 1) % 2 ^ 128 % 2 ^ sh c = subN a b c := by
  rw [not_num hb, sh128, Nat.mod_mod]
  unfold subN
  congr 1
  rw [Nat.mod_add_mod]
  congr 1
  omega

theorem heldE {w W w1 : World} {v0 v1 v2 v3 : Value} (hb : Below W.heap.size W w1) (h : Below w.heap.size w W ∧ W.cell? ⟨w.heap.size, 0, none⟩ = some v0 ∧ W.cell? ⟨w.heap.size, 1, none⟩ = some v1 ∧ W.cell? ⟨w.heap.size + 1, 0, none⟩ = some v2 ∧ W.cell? ⟨w.heap.size + 1, 1, none⟩ = some v3 ∧ (∃ x, W.cell? ⟨w.heap.size + 1 + 1, 0, none⟩ = some x) ∧ (∃ x, W.cell? ⟨w.heap.size + 1 + 1, 1, none⟩ = some x) ∧ W.frozen? ⟨w.heap.size + 1 + 1, 0, none⟩ = false ∧ W.frozen? ⟨w.heap.size + 1 + 1, 1, none⟩ = false) :
    Below w.heap.size w w1 ∧ w1.cell? ⟨w.heap.size, 0, none⟩ = some v0 ∧ w1.cell? ⟨w.heap.size, 1, none⟩ = some v1 ∧ w1.cell? ⟨w.heap.size + 1, 0, none⟩ = some v2 ∧ w1.cell? ⟨w.heap.size + 1, 1, none⟩ = some v3 ∧ (∃ x, w1.cell? ⟨w.heap.size + 1 + 1, 0, none⟩ = some x) ∧ (∃ x, w1.cell? ⟨w.heap.size + 1 + 1, 1, none⟩ = some x) ∧ w1.frozen? ⟨w.heap.size + 1 + 1, 0, none⟩ = false ∧ w1.frozen? ⟨w.heap.size + 1 + 1, 1, none⟩ = false := by
  obtain ⟨q, q0, q1, q2, q3, ⟨x4, q4⟩, ⟨x5, q5⟩, q6, q7⟩ := h
  exact ⟨q.trans (hb.mono q.size), (hb.cell (cell_there q0).1).trans q0, (hb.cell (cell_there q1).1).trans q1, (hb.cell (cell_there q2).1).trans q2, (hb.cell (cell_there q3).1).trans q3, ⟨x4, (hb.cell (cell_there q4).1).trans q4⟩, ⟨x5, (hb.cell (cell_there q5).1).trans q5⟩, (hb.frozen (cell_there q4).1).trans q6, (hb.frozen (cell_there q5).1).trans q7⟩
theorem heldSet {w W : World} {v0 v1 v2 v3 : Value} (a b : Value) (h : Below w.heap.size w W ∧ W.cell? ⟨w.heap.size, 0, none⟩ = some v0 ∧ W.cell? ⟨w.heap.size, 1, none⟩ = some v1 ∧ W.cell? ⟨w.heap.size + 1, 0, none⟩ = some v2 ∧ W.cell? ⟨w.heap.size + 1, 1, none⟩ = some v3 ∧ (∃ x, W.cell? ⟨w.heap.size + 1 + 1, 0, none⟩ = some x) ∧ (∃ x, W.cell? ⟨w.heap.size + 1 + 1, 1, none⟩ = some x) ∧ W.frozen? ⟨w.heap.size + 1 + 1, 0, none⟩ = false ∧ W.frozen? ⟨w.heap.size + 1 + 1, 1, none⟩ = false) :
    Below w.heap.size w ((W.setCell ⟨w.heap.size + 1 + 1, 0, none⟩ a).setCell ⟨w.heap.size + 1 + 1, 1, none⟩ b) ∧ ((W.setCell ⟨w.heap.size + 1 + 1, 0, none⟩ a).setCell ⟨w.heap.size + 1 + 1, 1, none⟩ b).cell? ⟨w.heap.size, 0, none⟩ = some v0 ∧ ((W.setCell ⟨w.heap.size + 1 + 1, 0, none⟩ a).setCell ⟨w.heap.size + 1 + 1, 1, none⟩ b).cell? ⟨w.heap.size, 1, none⟩ = some v1 ∧ ((W.setCell ⟨w.heap.size + 1 + 1, 0, none⟩ a).setCell ⟨w.heap.size + 1 + 1, 1, none⟩ b).cell? ⟨w.heap.size + 1, 0, none⟩ = some v2 ∧ ((W.setCell ⟨w.heap.size + 1 + 1, 0, none⟩ a).setCell ⟨w.heap.size + 1 + 1, 1, none⟩ b).cell? ⟨w.heap.size + 1, 1, none⟩ = some v3 ∧ (∃ x, ((W.setCell ⟨w.heap.size + 1 + 1, 0, none⟩ a).setCell ⟨w.heap.size + 1 + 1, 1, none⟩ b).cell? ⟨w.heap.size + 1 + 1, 0, none⟩ = some x) ∧ (∃ x, ((W.setCell ⟨w.heap.size + 1 + 1, 0, none⟩ a).setCell ⟨w.heap.size + 1 + 1, 1, none⟩ b).cell? ⟨w.heap.size + 1 + 1, 1, none⟩ = some x) ∧ ((W.setCell ⟨w.heap.size + 1 + 1, 0, none⟩ a).setCell ⟨w.heap.size + 1 + 1, 1, none⟩ b).frozen? ⟨w.heap.size + 1 + 1, 0, none⟩ = false ∧ ((W.setCell ⟨w.heap.size + 1 + 1, 0, none⟩ a).setCell ⟨w.heap.size + 1 + 1, 1, none⟩ b).frozen? ⟨w.heap.size + 1 + 1, 1, none⟩ = false := by
  obtain ⟨q, q0, q1, q2, q3, ⟨x4, q4⟩, ⟨x5, q5⟩, q6, q7⟩ := h
  have e : ∀ p : Addr, p.block ≠ w.heap.size + 1 + 1 → ((W.setCell ⟨w.heap.size + 1 + 1, 0, none⟩ a).setCell ⟨w.heap.size + 1 + 1, 1, none⟩ b).cell? p = W.cell? p := fun p hp => by
    rw [World.cell?_setCell_other _ _ _ _ (by rintro rfl; exact hp rfl), World.cell?_setCell_other _ _ _ _ (by rintro rfl; exact hp rfl)]
  refine ⟨(q.setCell (by show w.heap.size ≤ w.heap.size + 1 + 1; omega) _).setCell (by show w.heap.size ≤ w.heap.size + 1 + 1; omega) _, (e _ (by show w.heap.size ≠ w.heap.size + 1 + 1; omega)).trans q0, (e _ (by show w.heap.size ≠ w.heap.size + 1 + 1; omega)).trans q1, (e _ (by show w.heap.size + 1 ≠ w.heap.size + 1 + 1; omega)).trans q2, (e _ (by show w.heap.size + 1 ≠ w.heap.size + 1 + 1; omega)).trans q3, ⟨a, ?_⟩, ⟨b, ?_⟩, ?_, ?_⟩
  · rw [World.cell?_setCell_other _ _ _ _ (by simp)]
    exact World.cell?_setCell_same _ _ _ q4
  · exact World.cell?_setCell_same _ _ _ (by rw [World.cell?_setCell_other _ _ _ _ (by simp)]; exact q5)
  · rw [World.frozen?_setCell, World.frozen?_setCell]; exact q6
  · rw [World.frozen?_setCell, World.frozen?_setCell]; exact q7

set_option maxRecDepth 100000 in
set_option maxHeartbeats 4000000 in
theorem refSub_any (a b : Nat) (c : Int) (ha : a < B * B) (hb : b < B * B) (w : World) :
    Calls Try.prog 57 #[numV a, numV b, .int .i64 c] w (RetNum w (subN a b c)) := by
  have l1 : (b % 2 ^ sh 128) ^^^ (2 ^ sh 128 - 1) < B * B := by rw [BB_pow2] at hb ⊢; rw [not_num hb]; omega
  have l2 : (a + ((b % 2 ^ sh 128) ^^^ (2 ^ sh 128 - 1))) % 2 ^ 128 % 2 ^ sh 128 < B * B := by rw [BB_pow2]; exact Nat.lt_of_le_of_lt (Nat.mod_le _ _) (Nat.mod_lt _ (Nat.two_pow_pos _))
  have hnot : ∀ W, Calls Try.prog 35 #[numV b, .int .i64 128] W (RetNum W ((b % 2 ^ sh 128) ^^^ (2 ^ sh 128 - 1))) := fun W => refNot_any b 128 hb W
  have hadd : ∀ W, Calls Try.prog 56 #[numV a, numV ((b % 2 ^ sh 128) ^^^ (2 ^ sh 128 - 1)), .int .i64 128] W (RetNum W ((a + ((b % 2 ^ sh 128) ^^^ (2 ^ sh 128 - 1))) % 2 ^ 128 % 2 ^ sh 128)) := fun W => refAdd_any _ _ 128 ha l1 W
  have hof : ∀ W, Calls Try.prog 30 #[.int .u64 1] W (RetNum W 1) := fun W => refOf_any 1 (by unfold B; omega) W
  have hadd2 : ∀ W, Calls Try.prog 56 #[numV ((a + ((b % 2 ^ sh 128) ^^^ (2 ^ sh 128 - 1))) % 2 ^ 128 % 2 ^ sh 128), numV 1, .int .i64 c] W (RetNum W (subN a b c)) := fun W => by
    have h := refAdd_any _ 1 c l2 (by rw [BB_pow2]; omega) W
    rw [sub_num c (by rw [← BB_pow2]; exact ha) (by rw [← BB_pow2]; exact hb)] at h
    exact h
  obtain ⟨h1, k1, e1, -, -⟩ := numV_parts a
  obtain ⟨h2, k2, e2, -, -⟩ := numV_parts b
  obtain ⟨h3, k3, e3, -, -⟩ := numV_parts ((b % 2 ^ sh 128) ^^^ (2 ^ sh 128 - 1))
  obtain ⟨h4, k4, e4, -, -⟩ := numV_parts ((a + ((b % 2 ^ sh 128) ^^^ (2 ^ sh 128 - 1))) % 2 ^ 128 % 2 ^ sh 128)
  obtain ⟨h5, k5, e5, -, -⟩ := numV_parts 1
  obtain ⟨h6, k6, e6, -, -⟩ := numV_parts (subN a b c)
  have HE6 := Lib.hid e6
  unfold RetNum at hnot hadd hof hadd2
  rw [e2, e3] at hnot
  rw [e1, e3, e4] at hadd
  rw [e5] at hof
  rw [e4, e5, e6] at hadd2
  rw [e1, e2]
  have HNOT := Lib.hid hnot
  have HADD := Lib.hid hadd
  have HOF := Lib.hid hof
  have HADD2 := Lib.hid hadd2
  clear hnot hadd hof hadd2 e1 e2 e3 e4 e5 e6 l1 l2 ha hb
  go_enter Try.func57, Try.ntmps57
  go_wp2_with fail
  obtain ⟨W0, hW0⟩ : ∃ W0, W0 = ((w.alloc (.cells #[.int .u64 (h1 : Int), .int .u64 (k1 : Int)] 41)).alloc (.cells #[.int .u64 (h2 : Int), .int .u64 (k2 : Int)] 41)).alloc (.cells #[.int .u64 0, .int .u64 0] 41) := ⟨_, rfl⟩
  have hbW : Below w.heap.size w W0 := by rw [hW0]; exact (by repeat (first | exact Below.refl _ _ | assumption | refine Below.drew ?_ | refine Below.alloc ?_ (by first | omega | (simp <;> omega)) _ | refine Below.setCell ?_ (by first | omega | (simp <;> omega)) _ | refine Below.trans ?_ (Below.mono (by assumption) (by first | omega | (simp <;> omega)))))
  have z0 : w.heap.size < W0.heap.size := by rw [hW0]; simp <;> omega
  have z1 : w.heap.size + 1 < W0.heap.size := by rw [hW0]; simp
  have z2 : w.heap.size + 1 + 1 < W0.heap.size := by rw [hW0]; simp
  have c0 : W0.cell? ⟨w.heap.size, 0, none⟩ = some (.int .u64 (h1 : Int)) := by rw [hW0]; simp [go_sem]
  have c1 : W0.cell? ⟨w.heap.size, 1, none⟩ = some (.int .u64 (k1 : Int)) := by rw [hW0]; simp [go_sem]
  have c2 : W0.cell? ⟨w.heap.size + 1, 0, none⟩ = some (.int .u64 (h2 : Int)) := by rw [hW0]; simp [go_sem]
  have c3 : W0.cell? ⟨w.heap.size + 1, 1, none⟩ = some (.int .u64 (k2 : Int)) := by rw [hW0]; simp [go_sem]
  have c4 : W0.cell? ⟨w.heap.size + 1 + 1, 0, none⟩ = some (.int .u64 0) := by rw [hW0]; simp [go_sem]
  have c5 : W0.cell? ⟨w.heap.size + 1 + 1, 1, none⟩ = some (.int .u64 0) := by rw [hW0]; simp [go_sem]
  have f4 : W0.frozen? ⟨w.heap.size + 1 + 1, 0, none⟩ = false := by rw [hW0]; simp [go_sem]
  have f5 : W0.frozen? ⟨w.heap.size + 1 + 1, 1, none⟩ = false := by rw [hW0]; simp [go_sem]
  have cr : W0.heap[w.heap.size + 1 + 1]? = some (.cells #[.int .u64 0, .int .u64 0] 41 (0, 0)) := by
    rw [hW0]
    have := heap_new ((w.alloc (.cells #[.int .u64 (h1 : Int), .int .u64 (k1 : Int)] 41)).alloc (.cells #[.int .u64 (h2 : Int), .int .u64 (k2 : Int)] 41)) (.cells #[.int .u64 0, .int .u64 0] 41)
    simp only [World.size_alloc] at this
    exact this
  rw [← hW0]
  have HBW0 := Lib.hid hbW
  have HCR := Lib.hid cr
  clear hW0 hbW cr
  go_region_held3 (fun w' => Below w.heap.size w w' ∧ w'.cell? ⟨w.heap.size, 0, none⟩ = some (.int .u64 (h1 : Int)) ∧ w'.cell? ⟨w.heap.size, 1, none⟩ = some (.int .u64 (k1 : Int)) ∧ w'.cell? ⟨w.heap.size + 1, 0, none⟩ = some (.int .u64 (h2 : Int)) ∧ w'.cell? ⟨w.heap.size + 1, 1, none⟩ = some (.int .u64 (k2 : Int)) ∧ (∃ x, w'.cell? ⟨w.heap.size + 1 + 1, 0, none⟩ = some x) ∧ (∃ x, w'.cell? ⟨w.heap.size + 1 + 1, 1, none⟩ = some x) ∧ w'.frozen? ⟨w.heap.size + 1 + 1, 0, none⟩ = false ∧ w'.frozen? ⟨w.heap.size + 1 + 1, 1, none⟩ = false)
    (first | exact ⟨below_drewN HBW0.out 1, c0, c1, c2, c3, ⟨_, c4⟩, ⟨_, c5⟩, f4, f5⟩ | exact heldE hb1 (by assumption) | exact heldSet _ _ (by assumption))
    (first
      | (go_at_call 35; refine (HNOT.out _).mono ?_; rintro e w1 ⟨rfl, hb1⟩)
      | (go_at_call 30; refine (HOF.out _).mono ?_; rintro e w1 ⟨rfl, hb1⟩)
      | (go_at_call 56; (with_reducible refine (HADD.out _).mono ?_); rintro e w1 ⟨rfl, hb1⟩)
      | (go_at_call 56; (with_reducible refine (HADD2.out _).mono ?_); rintro e w1 ⟨rfl, hb1⟩; obtain ⟨-, -, -, -, -, ⟨x4, g4⟩, ⟨x5, g5⟩, g6, g7⟩ := heldE hb1 (by assumption)))
  rename_i hS
  have HBF := Lib.hid hS.1
  clear hS
  have y5 : (w1.setCell ⟨w.heap.size + 1 + 1, 0, none⟩ (.int .u64 (h6 : Int))).cell? ⟨w.heap.size + 1 + 1, 1, none⟩ = some x5 := by rw [World.cell?_setCell_other _ _ _ _ (by simp)]; exact g5
  have y0 : ((w1.setCell ⟨w.heap.size + 1 + 1, 0, none⟩ (.int .u64 (h6 : Int))).setCell ⟨w.heap.size + 1 + 1, 1, none⟩ (.int .u64 (k6 : Int))).cell? ⟨w.heap.size + 1 + 1, 0, none⟩ = some (.int .u64 (h6 : Int)) := by
    rw [World.cell?_setCell_other _ _ _ _ (by simp)]
    exact World.cell?_setCell_same _ _ _ g4
  have y1 : ((w1.setCell ⟨w.heap.size + 1 + 1, 0, none⟩ (.int .u64 (h6 : Int))).setCell ⟨w.heap.size + 1 + 1, 1, none⟩ (.int .u64 (k6 : Int))).cell? ⟨w.heap.size + 1 + 1, 1, none⟩ = some (.int .u64 (k6 : Int)) := World.cell?_setCell_same _ _ _ y5
  clear y5 g4 g5 g6 g7 c0 c1 c2 c3 c4 c5 f4 f5
  generalize (w1.setCell ⟨w.heap.size + 1 + 1, 0, none⟩ (.int .u64 (h6 : Int))).setCell ⟨w.heap.size + 1 + 1, 1, none⟩ (.int .u64 (k6 : Int)) = WF at *
  go_wp2_with fail
  exact bodyPost_ret (v := .agg #[.int .u64 (h6 : Int), .int .u64 (k6 : Int)]) (by simp [results, Try.results57, go_sem, y0, y1]) rfl ⟨by rw [HE6.out], HBF.out⟩

set_option maxRecDepth 100000 in
set_option maxHeartbeats 1000000 in
theorem refBit_any (n : Nat) (i : Int) (hn : n < B * B) (w : World) :
    Calls Try.prog 134 #[numV n, .int .i64 i] w fun e w' => e = .returned (.bool (bitB n i)) ∧ Below w.heap.size w w' := by
  obtain ⟨f, hf⟩ : ∃ f, f = n.testBit := ⟨_, rfl⟩
  have HA : Hid (∀ W, Calls Try.prog 88 #[numV n] W fun e w' => e = .returned (.agg (rowA f)) ∧ Below W.heap.size W w') := fun W => by rw [hf]; exact refBits_any n hn W
  have HF := Lib.hid hf
  obtain ⟨h1, l1, e1, -, -⟩ := numV_parts n
  rw [e1] at HA ⊢
  clear e1 hf
  go_enter Try.func134, Try.ntmps134
  go_wp2_with fail
  refine (HA.out _).mono ?_
  rintro e w1 ⟨rfl, hb1⟩
  have HB1 : Hid (Below w.heap.size w w1) := ((Below.refl w.heap.size w).alloc (Nat.le_refl _) _).trans (hb1.mono (by simp))
  have hs1 := HB1.out.size
  have HNW := Lib.hid (heap_new w1 (.cells Try.zeroCells120 120))
  obtain ⟨n1, n2⟩ := newRow (w := w1) f
  have HN1 := Lib.hid n1
  have HB2 : Hid (Below w.heap.size w ((w1.alloc (.cells Try.zeroCells120 120)).setRow w1.heap.size (rowA f))) := HB1.out.trans (n2.mono hs1)
  have HZS : Hid ((Try.zeroCells120).size = 128) := by
    show _ = _
    have hZ : Try.zeroCells120 = rowA fun _ => false := by kernel_rfl
    rw [hZ]; exact rowA_size _
  clear hb1 HA n1 n2
  by_cases h0 : i < 0
  · have HE : Hid (bitB n i = false) := by show _ = _; unfold bitB; simp; omega
    have h0' : decide (0 ≤ i) = false := by simp; omega
    go_wp2_with (refine wpList_store_row rfl 120 (.tmp 5) (.tmp 7) rfl w1.heap.size (rowA f) rfl rfl 120 _ HNW.out (by rw [rowA_size]; exact infoRow) (by rw [rowA_size]; exact HZS.out) (rowA_one _) ?_)
    go_ret
    exact ⟨by rw [HE.out]; rfl, HB2.out⟩
  · by_cases h1 : 128 ≤ i
    · have HE : Hid (bitB n i = false) := by show _ = _; unfold bitB; simp; omega
      go_wp2_with (refine wpList_store_row rfl 120 (.tmp 5) (.tmp 7) rfl w1.heap.size (rowA f) rfl rfl 120 _ HNW.out (by rw [rowA_size]; exact infoRow) (by rw [rowA_size]; exact HZS.out) (rowA_one _) ?_)
      go_ret
      exact ⟨by rw [HE.out]; rfl, HB2.out⟩
    · obtain ⟨j, rfl⟩ : ∃ j : Nat, i = (j : Int) := ⟨i.toNat, by omega⟩
      have hj : j < 128 := by omega
      have hcell : ((w1.alloc (.cells Try.zeroCells120 120)).setRow w1.heap.size (rowA f)).cell? ⟨w1.heap.size, j, none⟩ = some (.bool (f j)) := by rw [cell_of_row _ _ j _ _ _ HN1.out]; exact rowA_at _ j hj
      have HE : Hid (bitB n (j : Int) = f j) := by show _ = _; unfold bitB; rw [HF.out]; simp; omega
      go_wp2_with (refine wpList_store_row rfl 120 (.tmp 5) (.tmp 7) rfl w1.heap.size (rowA f) rfl rfl 120 _ HNW.out (by rw [rowA_size]; exact infoRow) (by rw [rowA_size]; exact HZS.out) (rowA_one _) ?_)
      go_ret
      exact ⟨by rw [HE.out]; rfl, HB2.out⟩

end Go.Proofs.Ytlnkflmnjkmhkaa
