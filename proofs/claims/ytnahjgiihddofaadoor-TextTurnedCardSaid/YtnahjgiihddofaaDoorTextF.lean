/-
  Layer 2: faults and what is said of them.
-/
import Derived.Test.YtnahjgiihddofaaDoorTextD
namespace Go.Proofs.YtnahjgiihddofaaDoor
open Go.RowKit Go.Lib

def faultV (s : ByteArray) (k e : Int) : Value := if e = 0 then .agg #[.int .i64 0, .int .i64 0, .int .i64 0] else .agg #[.int .i64 e, .int .i64 ((whereP s.data.toList k).1 : Int), .int .i64 ((whereP s.data.toList k).2 : Int)]

set_option maxRecDepth 100000 in
set_option maxHeartbeats 1000000 in
theorem fault_any (s : ByteArray) (k e : Int) (w : World) (hs : s.size ≤ 400) :
    Calls Tryd.prog 10 #[.string s, .int .i64 k, .int .i64 e] w fun r w' => r = .returned (faultV s k e) ∧ Below w.heap.size w w' := by
  obtain ⟨⟨a, b⟩, hp⟩ : ∃ p, whereP s.data.toList k = p := ⟨_, rfl⟩
  have HC : Hid (∀ W, Calls Tryd.prog 8 #[.string s, .int .i64 k] W fun r w' => r = .returned (.agg #[.int .i64 (a : Int), .int .i64 (b : Int)]) ∧ Below W.heap.size W w') := fun W => by
    have := where_any s k W hs
    rw [hp] at this
    exact this
  have HV : Hid (faultV s k e = if e = 0 then .agg #[.int .i64 0, .int .i64 0, .int .i64 0] else .agg #[.int .i64 e, .int .i64 (a : Int), .int .i64 (b : Int)]) := by
    show _ = _
    unfold faultV; rw [hp]
  clear hp
  go_enter Tryd.func10, Tryd.ntmps10
  by_cases h : e = 0
  · go_wp2_with fail
    exact bodyPost_ret (v := .agg #[.int .i64 0, .int .i64 0, .int .i64 0]) (by simp [results, Tryd.results10, go_sem]) rfl ⟨by rw [HV.out, if_pos h], (by repeat (first | exact Below.refl _ _ | assumption | refine Below.drew ?_ | refine Below.alloc ?_ (by first | omega | (simp <;> omega)) _ | refine Below.setCell ?_ (by first | omega | (simp <;> omega)) _ | refine Below.trans ?_ (Below.mono (by assumption) (by first | omega | (simp <;> omega)))))⟩
  · go_wp2_with (first
      | (go_at_call 8; (with_reducible refine (HC.out _).mono ?_); rintro r w1 ⟨rfl, hb⟩; have h3 := (hb.block w.heap.size (by simp)).trans (heap_one w _); have x0 : w1.cell? ⟨w.heap.size, 0, none⟩ = some (.int .i64 0) := (by simp [World.cell?, h3]); have x1 : w1.cell? ⟨w.heap.size, 1, none⟩ = some (.int .i64 0) := (by simp [World.cell?, h3]); have x2 : w1.cell? ⟨w.heap.size, 2, none⟩ = some (.int .i64 0) := (by simp [World.cell?, h3]); have xf : ∀ j, w1.frozen? ⟨w.heap.size, j, none⟩ = false := (fun j => by simp [World.frozen?, h3]); have hb1 : Below w.heap.size w w1 := ((Below.refl _ _).alloc (Nat.le_refl _) _).trans (hb.mono (by simp)); clear h3 hb))
    refine bodyPost_ret (v := .agg #[.int .i64 e, .int .i64 (a : Int), .int .i64 (b : Int)]) (by simp [results, Tryd.results10, go_sem, x0, x1, x2]) rfl ⟨by rw [HV.out, if_neg h], ?_⟩
    exact ((hb1.setCell (by show w.heap.size ≤ w.heap.size; omega) _).setCell (by show w.heap.size ≤ w.heap.size; omega) _).setCell (by show w.heap.size ≤ w.heap.size; omega) _

set_option maxRecDepth 100000 in
set_option maxHeartbeats 1000000 in
theorem refFault_any (s : ByteArray) (k e : Int) (w : World) (hs : s.size ≤ 400) :
    Calls Tryd.prog 11 #[.string s, .int .i64 k, .int .i64 e] w fun r w' => r = .returned (faultV s k e) ∧ Below w.heap.size w w' := by
  obtain ⟨⟨a, b⟩, hp⟩ : ∃ p, whereP s.data.toList k = p := ⟨_, rfl⟩
  have HC : Hid (∀ W, Calls Tryd.prog 9 #[.string s, .int .i64 k] W fun r w' => r = .returned (.agg #[.int .i64 (a : Int), .int .i64 (b : Int)]) ∧ Below W.heap.size W w') := fun W => by
    have := refWhere_any s k W hs
    rw [hp] at this
    exact this
  have HV : Hid (faultV s k e = if e = 0 then .agg #[.int .i64 0, .int .i64 0, .int .i64 0] else .agg #[.int .i64 e, .int .i64 (a : Int), .int .i64 (b : Int)]) := by
    show _ = _
    unfold faultV; rw [hp]
  clear hp
  go_enter Tryd.func11, Tryd.ntmps11
  by_cases h : e = 0
  · go_wp2_with fail
    exact bodyPost_ret (v := .agg #[.int .i64 0, .int .i64 0, .int .i64 0]) (by simp [results, Tryd.results11, go_sem]) rfl ⟨by rw [HV.out, if_pos h], (by repeat (first | exact Below.refl _ _ | assumption | refine Below.drew ?_ | refine Below.alloc ?_ (by first | omega | (simp <;> omega)) _ | refine Below.setCell ?_ (by first | omega | (simp <;> omega)) _ | refine Below.trans ?_ (Below.mono (by assumption) (by first | omega | (simp <;> omega)))))⟩
  · go_wp2_with (first
      | (go_at_call 9; (with_reducible refine (HC.out _).mono ?_); rintro r w1 ⟨rfl, hb⟩; have h3 := (hb.block w.heap.size (by simp)).trans (heap_one w _); have x0 : w1.cell? ⟨w.heap.size, 0, none⟩ = some (.int .i64 0) := (by simp [World.cell?, h3]); have x1 : w1.cell? ⟨w.heap.size, 1, none⟩ = some (.int .i64 0) := (by simp [World.cell?, h3]); have x2 : w1.cell? ⟨w.heap.size, 2, none⟩ = some (.int .i64 0) := (by simp [World.cell?, h3]); have xf : ∀ j, w1.frozen? ⟨w.heap.size, j, none⟩ = false := (fun j => by simp [World.frozen?, h3]); have hb1 : Below w.heap.size w w1 := ((Below.refl _ _).alloc (Nat.le_refl _) _).trans (hb.mono (by simp)); clear h3 hb))
    refine bodyPost_ret (v := .agg #[.int .i64 e, .int .i64 (a : Int), .int .i64 (b : Int)]) (by simp [results, Tryd.results11, go_sem, x0, x1, x2]) rfl ⟨by rw [HV.out, if_neg h], ?_⟩
    exact ((hb1.setCell (by show w.heap.size ≤ w.heap.size; omega) _).setCell (by show w.heap.size ≤ w.heap.size; omega) _).setCell (by show w.heap.size ≤ w.heap.size; omega) _

end Go.Proofs.YtnahjgiihddofaaDoor
