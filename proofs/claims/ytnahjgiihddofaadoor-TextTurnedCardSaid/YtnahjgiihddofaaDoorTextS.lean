/-
  Layer 2: what is said of faults.
-/
import Derived.Test.YtnahjgiihddofaaDoorTextF
import Derived.Test.YtnahjgiihddofaaDoorHeldT
import Derived.Deep.RegionHeld3
import Derived.Lib.AppendIntMem
namespace Go.Proofs.YtnahjgiihddofaaDoor
open Go.RowKit Go.Lib

def sayB (e l c : Int) : ByteArray := if e = 0 then ⟨#[111, 107]⟩ else ⟨#[108, 105, 110, 101, 32]⟩ ++ decB l ++ ⟨#[32, 99, 111, 108, 117, 109, 110, 32]⟩ ++ decB c ++ ⟨#[58, 32]⟩ ++ wordB e
theorem decB_size {n : Int} (h0 : -9223372036854775808 ≤ n) (h1 : n ≤ 9223372036854775807) : (decB n).size ≤ 21 := by
  have e : (decB n).size = (itoa n).length := by simp [decB, ByteArray.size]
  rw [e]
  exact itoa_length_le n h0 h1
theorem wordB_size (e : Int) : (wordB e).size ≤ 5 := by
  by_cases h : 0 ≤ e ∧ e < 16
  · obtain ⟨n, rfl⟩ := Int.eq_ofNat_of_zero_le h.1
    have hn : n < 16 := by omega
    rw [wordB_in hn]
    match n, hn with
    | 0, _ => decide
    | 1, _ => decide
    | 2, _ => decide
    | 3, _ => decide
    | 4, _ => decide
    | 5, _ => decide
    | 6, _ => decide
    | 7, _ => decide
    | 8, _ => decide
    | 9, _ => decide
    | 10, _ => decide
    | 11, _ => decide
    | 12, _ => decide
    | 13, _ => decide
    | 14, _ => decide
    | 15, _ => decide
    | n + 16, hn => omega
  · rw [wordB_out h]; decide

theorem itoa_any (n : Int) (h0 : -9223372036854775808 ≤ n) (h1 : n ≤ 9223372036854775807) (w : World) (ht : TabIs Tryd.prog w "internal/strconv.uint64pow10" .u64 pow10Tab) :
    Calls Tryd.prog 20 #[.int .i64 n] w fun r w' => r = .returned (.string (decB n)) ∧ Below w.heap.size w w' := by
  refine (Tryd.strconv_Itoa n h0 h1 w ht).mono ?_
  rintro e w' ⟨rfl, k, os, rfl⟩
  exact ⟨rfl, below_grow w.heap.size w (Nat.le_refl _) k os⟩

set_option maxRecDepth 100000 in
set_option maxHeartbeats 8000000 in
theorem say_any (e l c : Int) (w : World) (hl0 : -9223372036854775808 ≤ l) (hl1 : l ≤ 9223372036854775807) (hc0 : -9223372036854775808 ≤ c) (hc1 : c ≤ 9223372036854775807) (HT : Hid (TabBelow Tryd.prog w.heap.size w "internal/strconv.uint64pow10" .u64 pow10Tab)) :
    Calls Tryd.prog 12 #[.agg #[.int .i64 e, .int .i64 l, .int .i64 c]] w fun r w' => r = .returned (.string (sayB e l c)) ∧ Below w.heap.size w w' := by
  have HL : Hid (∀ W, Below w.heap.size w W → Calls Tryd.prog 20 #[.int .i64 l] W fun r w' => r = .returned (.string (decB l)) ∧ Below W.heap.size W w') := fun W hb => itoa_any l hl0 hl1 W (HT.out W hb)
  have HC : Hid (∀ W, Below w.heap.size w W → Calls Tryd.prog 20 #[.int .i64 c] W fun r w' => r = .returned (.string (decB c)) ∧ Below W.heap.size W w') := fun W hb => itoa_any c hc0 hc1 W (HT.out W hb)
  have HW : Hid (∀ W, Calls Tryd.prog 14 #[.int .i64 e] W fun r w' => r = .returned (.string (wordB e)) ∧ Below W.heap.size W w') := fun W => word_any e W
  have z1 := decB_size hl0 hl1
  have z2 := decB_size hc0 hc1
  have z3 := wordB_size e
  by_cases he : e = 0
  · have HS : Hid (sayB e l c = ⟨#[111, 107]⟩) := (by show _ = _; unfold sayB; rw [if_pos he])
    clear HL HC HW z1 z2 z3 hl0 hl1 hc0 hc1
    go_enter Tryd.func12, Tryd.ntmps12
    go_wp2_with fail
    exact bodyPost_ret (v := .string ⟨#[111, 107]⟩) (by simp [results, Tryd.results12, go_sem]) rfl ⟨by rw [HS.out], (by repeat (first | exact Below.refl _ _ | assumption | refine Below.drew ?_ | refine Below.alloc ?_ (by first | omega | (simp <;> omega)) _ | refine Below.setCell ?_ (by first | omega | (simp <;> omega)) _ | refine Below.trans ?_ (Below.mono (by assumption) (by first | omega | (simp <;> omega)))))⟩
  · have HS : Hid (sayB e l c = ⟨#[108, 105, 110, 101, 32]⟩ ++ decB l ++ ⟨#[32, 99, 111, 108, 117, 109, 110, 32]⟩ ++ decB c ++ ⟨#[58, 32]⟩ ++ wordB e) := (by show _ = _; unfold sayB; rw [if_neg he])
    generalize decB l = dl at *
    generalize decB c = dc at *
    generalize wordB e = we at *
    have y0 : ¬ (9223372036854775807 < 5 + dl.size) := by omega
    have y1 : ¬ (9223372036854775807 < 5 + dl.size + 8) := by omega
    have y2 : ¬ (9223372036854775807 < 5 + dl.size + 8 + dc.size) := by omega
    have y3 : ¬ (9223372036854775807 < 5 + dl.size + 8 + dc.size + 2) := by omega
    have y4 : ¬ (9223372036854775807 < 5 + dl.size + 8 + dc.size + 2 + we.size) := by omega
    clear hl0 hl1 hc0 hc1 z1 z2 z3
    go_enter Tryd.func12, Tryd.ntmps12
    go_wp2_with fail
    have hbx : Below w.heap.size w (w.alloc (.cells #[.int .i64 e, .int .i64 l, .int .i64 c] 29)) := (Below.refl _ _).alloc (Nat.le_refl _) _
    have hx : Hid (Below w.heap.size w (w.alloc (.cells #[.int .i64 e, .int .i64 l, .int .i64 c] 29)).drew ∧ (w.alloc (.cells #[.int .i64 e, .int .i64 l, .int .i64 c] 29)).drew.cell? ⟨w.heap.size, 0, none⟩ = some (.int .i64 e) ∧ (w.alloc (.cells #[.int .i64 e, .int .i64 l, .int .i64 c] 29)).drew.cell? ⟨w.heap.size, 1, none⟩ = some (.int .i64 l) ∧ (w.alloc (.cells #[.int .i64 e, .int .i64 l, .int .i64 c] 29)).drew.cell? ⟨w.heap.size, 2, none⟩ = some (.int .i64 c)) :=
      ⟨below_drewN hbx 1, by simp [go_sem], by simp [go_sem], by simp [go_sem]⟩
    go_region_held3 (fun Wk => Below (w.heap.size) (w) Wk ∧ Wk.cell? ⟨w.heap.size, 0, none⟩ = some (.int .i64 e) ∧ Wk.cell? ⟨w.heap.size, 1, none⟩ = some (.int .i64 l) ∧ Wk.cell? ⟨w.heap.size, 2, none⟩ = some (.int .i64 c))
      (first | exact hx.out | exact held_3_0 hb1 (by assumption) | assumption)
      (first
      | (go_at_call 20; (with_reducible refine (HL.out _ (And.left (by assumption))).mono ?_); rintro r w1 ⟨rfl, hb1⟩)
      | (go_at_call 20; (with_reducible refine (HC.out _ (And.left (by assumption))).mono ?_); rintro r w1 ⟨rfl, hb1⟩)
      | (go_at_call 14; (with_reducible refine (HW.out _).mono ?_); rintro r w1 ⟨rfl, hb1⟩))
    rename_i hS
    have HB := Lib.hid hS.1
    clear hS
    go_wp2_with fail
    exact bodyPost_ret (v := .string (⟨#[108, 105, 110, 101, 32]⟩ ++ dl ++ ⟨#[32, 99, 111, 108, 117, 109, 110, 32]⟩ ++ dc ++ ⟨#[58, 32]⟩ ++ we)) (by simp [results, Tryd.results12, go_sem]) rfl ⟨by rw [HS.out], HB.out⟩

set_option maxRecDepth 100000 in
set_option maxHeartbeats 8000000 in
theorem refSay_any (e l c : Int) (w : World) (hl0 : -9223372036854775808 ≤ l) (hl1 : l ≤ 9223372036854775807) (hc0 : -9223372036854775808 ≤ c) (hc1 : c ≤ 9223372036854775807) :
    Calls Tryd.prog 13 #[.agg #[.int .i64 e, .int .i64 l, .int .i64 c]] w fun r w' => r = .returned (.string (sayB e l c)) ∧ Below w.heap.size w w' := by
  have HL : Hid (∀ W, Below w.heap.size w W → Calls Tryd.prog 21 #[.int .i64 l] W fun r w' => r = .returned (.string (decB l)) ∧ Below W.heap.size W w') := fun W hb => dec_any l hl0 hl1 W
  have HC : Hid (∀ W, Below w.heap.size w W → Calls Tryd.prog 21 #[.int .i64 c] W fun r w' => r = .returned (.string (decB c)) ∧ Below W.heap.size W w') := fun W hb => dec_any c hc0 hc1 W
  have HW : Hid (∀ W, Calls Tryd.prog 15 #[.int .i64 e] W fun r w' => r = .returned (.string (wordB e)) ∧ Below W.heap.size W w') := fun W => refWord_any e W
  have z1 := decB_size hl0 hl1
  have z2 := decB_size hc0 hc1
  have z3 := wordB_size e
  by_cases he : e = 0
  · have HS : Hid (sayB e l c = ⟨#[111, 107]⟩) := (by show _ = _; unfold sayB; rw [if_pos he])
    clear HL HC HW z1 z2 z3 hl0 hl1 hc0 hc1
    go_enter Tryd.func13, Tryd.ntmps13
    go_wp2_with fail
    exact bodyPost_ret (v := .string ⟨#[111, 107]⟩) (by simp [results, Tryd.results13, go_sem]) rfl ⟨by rw [HS.out], (by repeat (first | exact Below.refl _ _ | assumption | refine Below.drew ?_ | refine Below.alloc ?_ (by first | omega | (simp <;> omega)) _ | refine Below.setCell ?_ (by first | omega | (simp <;> omega)) _ | refine Below.trans ?_ (Below.mono (by assumption) (by first | omega | (simp <;> omega)))))⟩
  · have HS : Hid (sayB e l c = ⟨#[108, 105, 110, 101, 32]⟩ ++ decB l ++ ⟨#[32, 99, 111, 108, 117, 109, 110, 32]⟩ ++ decB c ++ ⟨#[58, 32]⟩ ++ wordB e) := (by show _ = _; unfold sayB; rw [if_neg he])
    generalize decB l = dl at *
    generalize decB c = dc at *
    generalize wordB e = we at *
    have y0 : ¬ (9223372036854775807 < 5 + dl.size) := by omega
    have y1 : ¬ (9223372036854775807 < 5 + dl.size + 8) := by omega
    have y2 : ¬ (9223372036854775807 < 5 + dl.size + 8 + dc.size) := by omega
    have y3 : ¬ (9223372036854775807 < 5 + dl.size + 8 + dc.size + 2) := by omega
    have y4 : ¬ (9223372036854775807 < 5 + dl.size + 8 + dc.size + 2 + we.size) := by omega
    clear hl0 hl1 hc0 hc1 z1 z2 z3
    go_enter Tryd.func13, Tryd.ntmps13
    go_wp2_with fail
    have hbx : Below w.heap.size w (w.alloc (.cells #[.int .i64 e, .int .i64 l, .int .i64 c] 29)) := (Below.refl _ _).alloc (Nat.le_refl _) _
    have hx : Hid (Below w.heap.size w (w.alloc (.cells #[.int .i64 e, .int .i64 l, .int .i64 c] 29)).drew ∧ (w.alloc (.cells #[.int .i64 e, .int .i64 l, .int .i64 c] 29)).drew.cell? ⟨w.heap.size, 0, none⟩ = some (.int .i64 e) ∧ (w.alloc (.cells #[.int .i64 e, .int .i64 l, .int .i64 c] 29)).drew.cell? ⟨w.heap.size, 1, none⟩ = some (.int .i64 l) ∧ (w.alloc (.cells #[.int .i64 e, .int .i64 l, .int .i64 c] 29)).drew.cell? ⟨w.heap.size, 2, none⟩ = some (.int .i64 c)) :=
      ⟨below_drewN hbx 1, by simp [go_sem], by simp [go_sem], by simp [go_sem]⟩
    go_region_held3 (fun Wk => Below (w.heap.size) (w) Wk ∧ Wk.cell? ⟨w.heap.size, 0, none⟩ = some (.int .i64 e) ∧ Wk.cell? ⟨w.heap.size, 1, none⟩ = some (.int .i64 l) ∧ Wk.cell? ⟨w.heap.size, 2, none⟩ = some (.int .i64 c))
      (first | exact hx.out | exact held_3_0 hb1 (by assumption) | assumption)
      (first
      | (go_at_call 21; (with_reducible refine (HL.out _ (And.left (by assumption))).mono ?_); rintro r w1 ⟨rfl, hb1⟩)
      | (go_at_call 21; (with_reducible refine (HC.out _ (And.left (by assumption))).mono ?_); rintro r w1 ⟨rfl, hb1⟩)
      | (go_at_call 15; (with_reducible refine (HW.out _).mono ?_); rintro r w1 ⟨rfl, hb1⟩))
    rename_i hS
    have HB := Lib.hid hS.1
    clear hS
    go_wp2_with fail
    exact bodyPost_ret (v := .string (⟨#[108, 105, 110, 101, 32]⟩ ++ dl ++ ⟨#[32, 99, 111, 108, 117, 109, 110, 32]⟩ ++ dc ++ ⟨#[58, 32]⟩ ++ we)) (by simp [results, Tryd.results13, go_sem]) rfl ⟨by rw [HS.out], HB.out⟩

end Go.Proofs.YtnahjgiihddofaaDoor
