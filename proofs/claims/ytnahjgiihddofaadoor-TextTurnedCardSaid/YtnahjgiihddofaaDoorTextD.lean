/-
  Layer 2: the document's digits.
-/
import Derived.Test.YtnahjgiihddofaaDoorTextK
import Derived.Laws.IdiomStrings
import Derived.Lib.ItoaLen
namespace Go.Proofs.YtnahjgiihddofaaDoor
open Go.RowKit Go.Lib

/-- A number's digits, as a string. -/
def digB (n : Nat) : ByteArray := ⟨(decDigits n).toArray⟩
theorem digB_small {n : Nat} (h : n < 10) : digB n = ⟨#[UInt8.ofNat (48 + n)]⟩ := by unfold digB; rw [dec_digits, if_pos h]
theorem digB_more {n : Nat} (h : ¬ n < 10) : digB n = digB (n / 10) ++ digB (n % 10) := by
  unfold digB
  conv => lhs; rw [dec_digits, if_neg h]
  apply ByteArray.ext
  simp

theorem digB_size {n : Nat} (h : n < 18446744073709551616) : (digB n).size ≤ 20 := by
  have e : (digB n).size = (decDigits n).length := by simp [digB, ByteArray.size]
  rw [e, decDigits_length]
  exact nDigits_le20 n h

set_option maxRecDepth 100000 in
set_option maxHeartbeats 1000000 in
theorem digits_any : ∀ (n : Nat) (w : World), n < 18446744073709551616 → Calls Tryd.prog 29 #[.int .u64 (n : Int)] w fun r w' => r = .returned (.string (digB n)) ∧ Below w.heap.size w w' := by
  intro n
  induction n using Nat.strongRecOn with
  | _ n ih =>
    intro w hn
    by_cases h : n < 10
    · have hi : (n : Int) < 10 := by omega
      have hu : IntKind.u64.wrap (48 + (n : Int)) = ((48 + n : Nat) : Int) := by
        show (48 + (n : Int)) % 18446744073709551616 = _
        omega
      have hv : IntKind.u8.wrap ((48 + n : Nat) : Int) = ((48 + n : Nat) : Int) := by
        show ((48 + n : Nat) : Int) % 256 = _
        omega
      have hb8 : ((UInt8.ofNat (48 + n)).toNat : Int) = 48 + (n : Int) := by
        rw [UInt8.toNat_ofNat']
        omega
      have hconv : (convert 45 9 (.slice (some ⟨w.heap.size, 0, none⟩) 1 1)).run Tryd.prog (w.alloc (.cells #[.int .u8 (48 + (n : Int))] 5)) = .ok (.string (digB n)) (w.alloc (.cells #[.int .u8 (48 + (n : Int))] 5)) := by
        rw [digB_small h]
        refine run_convert_bytes_back _ _ _ 5 ⟨w.heap.size, 0, none⟩ 1 [UInt8.ofNat (48 + n)] Tryd.underlying45 Tryd.underlying5 Tryd.underlying9 ?_
        intro j hj
        have : j = 0 := by simpa using hj
        subst this
        show (w.alloc _).cell? ((⟨w.heap.size, 0, none⟩ : Addr).add 0) = some (.int .u8 ((UInt8.ofNat (48 + n)).toNat : Int))
        rw [hb8]
        simp [Addr.add, go_sem]
      clear hn hb8
      go_enter Tryd.func29, Tryd.ntmps29
      go_wp2_with fail
      exact bodyPost_ret (v := .string (digB n)) (by simp [results, Tryd.results29, go_sem]) rfl ⟨rfl, (by repeat (first | exact Below.refl _ _ | assumption | refine Below.drew ?_ | refine Below.alloc ?_ (by first | omega | (simp <;> omega)) _ | refine Below.setCell ?_ (by first | omega | (simp <;> omega)) _ | refine Below.trans ?_ (Below.mono (by assumption) (by first | omega | (simp <;> omega)))))⟩
    · have hi : ¬ (n : Int) < 10 := by omega
      obtain ⟨qa, hqa⟩ : ∃ m, n / 10 = m := ⟨_, rfl⟩
      obtain ⟨qb, hqb⟩ : ∃ m, n % 10 = m := ⟨_, rfl⟩
      have h1 := ih qa (by omega)
      have h2 := ih qb (by omega)
      have H1 : Hid (∀ W, Calls Tryd.prog 29 #[.int .u64 (qa : Int)] W fun r w' => r = .returned (.string (digB qa)) ∧ Below W.heap.size W w') := fun W => h1 W (by omega)
      have H2 : Hid (∀ W, Calls Tryd.prog 29 #[.int .u64 (qb : Int)] W fun r w' => r = .returned (.string (digB qb)) ∧ Below W.heap.size W w') := fun W => h2 W (by omega)
      have q1 : IntKind.u64.wrap ((n : Int) / 10) = (qa : Int) := by
        show ((n : Int) / 10) % 18446744073709551616 = _
        omega
      have q2 : IntKind.u64.wrap ((n : Int) % 10) = (qb : Int) := by
        show ((n : Int) % 10) % 18446744073709551616 = _
        omega
      have q3 : (n : Int) % 10 = (qb : Int) := by omega
      have hB := digB_more h
      rw [hqa, hqb] at hB
      have HB := Lib.hid hB
      have hsa := digB_size (n := qa) (by omega)
      have hsb := digB_size (n := qb) (by omega)
      have hsz : ¬ (9223372036854775807 < (digB qa).size + (digB qb).size) := by omega
      clear hsa hsb
      clear hn h1 h2 ih h hqa hqb hB
      go_enter Tryd.func29, Tryd.ntmps29
      go_wp2_with (first
        | (go_at_call 29; (with_reducible refine (H1.out _).mono ?_); rintro r w1 ⟨rfl, hb⟩)
        | (go_at_call 29; (with_reducible refine (H2.out _).mono ?_); rintro r w2 ⟨rfl, hb2⟩))
      exact bodyPost_ret (v := .string (digB qa ++ digB qb)) (by simp [results, Tryd.results29, go_sem]) rfl ⟨by rw [HB.out], hb.trans (hb2.mono hb.size)⟩

/-- A number's text. -/
def decB (n : Int) : ByteArray := ⟨(itoa n).toArray⟩
theorem decB_neg {n : Int} (h : n < 0) : decB n = ⟨#[45]⟩ ++ digB n.natAbs := by
  unfold decB itoa digB
  rw [if_pos h]
  apply ByteArray.ext
  simp
theorem decB_pos {n : Int} (h : ¬ n < 0) : decB n = digB n.toNat := by
  unfold decB itoa digB
  rw [if_neg h]

set_option maxRecDepth 100000 in
set_option maxHeartbeats 1000000 in
theorem dec_any (n : Int) (h0 : -9223372036854775808 ≤ n) (h1 : n ≤ 9223372036854775807) (w : World) : Calls Tryd.prog 21 #[.int .i64 n] w fun r w' => r = .returned (.string (decB n)) ∧ Below w.heap.size w w' := by
  by_cases h : n < 0
  · obtain ⟨m, hm⟩ : ∃ m, n.natAbs = m := ⟨_, rfl⟩
    have H1 : Hid (∀ W, Calls Tryd.prog 29 #[.int .u64 (m : Int)] W fun r w' => r = .returned (.string (digB m)) ∧ Below W.heap.size W w') := fun W => digits_any m W (by omega)
    have HB := Lib.hid (hm ▸ decB_neg h)
    have q1 : IntKind.u64.wrap (-(IntKind.u64.wrap n)) = (m : Int) := by
      show (-(n % 18446744073709551616)) % 18446744073709551616 = _
      omega
    have hsm := digB_size (n := m) (by omega)
    have hsz : ¬ (9223372036854775807 < (⟨#[45]⟩ : ByteArray).size + (digB m).size) := by show ¬ (9223372036854775807 < 1 + (digB m).size); omega
    have hsz1 : ¬ (9223372036854775807 < 1 + (digB m).size) := by omega
    clear h0 h1 hm hsm
    go_enter Tryd.func21, Tryd.ntmps21
    go_wp2_with (first
        | (go_at_call 29; (with_reducible refine (H1.out _).mono ?_); rintro r w1 ⟨rfl, hb⟩))
    exact bodyPost_ret (v := .string (⟨#[45]⟩ ++ digB m)) (by simp [results, Tryd.results21, go_sem]) rfl ⟨by rw [HB.out], hb⟩
  · obtain ⟨m, rfl⟩ := Int.eq_ofNat_of_zero_le (by omega : 0 ≤ n)
    have H1 : Hid (∀ W, Calls Tryd.prog 29 #[.int .u64 (m : Int)] W fun r w' => r = .returned (.string (digB m)) ∧ Below W.heap.size W w') := fun W => digits_any m W (by omega)
    have HB : Hid (decB (m : Int) = digB m) := decB_pos h
    have q1 : IntKind.u64.wrap (m : Int) = (m : Int) := by
      show (m : Int) % 18446744073709551616 = _
      omega
    clear h0 h1
    go_enter Tryd.func21, Tryd.ntmps21
    go_wp2_with (first
        | (go_at_call 29; (with_reducible refine (H1.out _).mono ?_); rintro r w1 ⟨rfl, hb⟩))
    exact bodyPost_ret (v := .string (digB m)) (by simp [results, Tryd.results21, go_sem]) rfl ⟨by rw [HB.out], hb⟩

end Go.Proofs.YtnahjgiihddofaaDoor
