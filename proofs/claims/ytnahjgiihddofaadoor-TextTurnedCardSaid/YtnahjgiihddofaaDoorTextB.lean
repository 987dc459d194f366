/-
  Layer 2: the document's At.
-/
import Derived.Test.YtnahjgiihddofaaDoorTextA
namespace Go.Proofs.YtnahjgiihddofaaDoor
open Go.RowKit Go.Lib

theorem eq_place (x y z u : Int) (W : World) : (Go.binOp .eql 23 (.agg #[.int .i64 x, .int .i64 y]) (.agg #[.int .i64 z, .int .i64 u])).run Tryd.prog W = .ok (.bool (decide (x = z) && decide (y = u))) W := by
  by_cases h1 : x = z <;> by_cases h2 : y = u <;> simp [go_sem, h1, h2]

def RAt (w : World) (l : List UInt8) (line col : Int) (j : Nat) (wr : World) : Prop :=
  (∀ t : Nat, t < j → ¬ IsAt l t line col) ∧ wr.heap[w.heap.size]? = some (.cells #[.int .i64 line, .int .i64 col] 23 (0, 0)) ∧ Below w.heap.size w wr

set_option maxRecDepth 100000 in
set_option maxHeartbeats 2000000 in
theorem refAt_any (s : ByteArray) (line col : Int) (w : World) (hs : s.size ≤ 400) :
    Calls Tryd.prog 7 #[.string s, .agg #[.int .i64 line, .int .i64 col]] w (AtPost s line col w) := by
  go_enter Tryd.func7, Tryd.ntmps7
  go_wp2_with fail
  go_loopw [6] (fun i wr => ∃ j : Nat, i = .int .i64 j ∧ j ≤ s.size + 1 ∧ Hid (RAt w s.data.toList line col j wr)) (fun i _ => s.size + 1 - (RowKit.intOf i).toNat)
  case atStart => exact ⟨0, rfl, Nat.zero_le _, fun t h => by omega, heap_one _ _, (by repeat (first | exact Below.refl _ _ | assumption | refine Below.drew ?_ | refine Below.alloc ?_ (by first | omega | (simp <;> omega)) _ | refine Below.setCell ?_ (by first | omega | (simp <;> omega)) _ | refine Below.trans ?_ (Below.mono (by assumption) (by first | omega | (simp <;> omega)))))⟩
  case round =>
    obtain ⟨j, rfl, hj, HR⟩ := hrel
    by_cases hlt : j ≤ s.size
    · have hle : (j : Int) ≤ (s.size : Int) := by omega
      obtain ⟨⟨a, b⟩, hp⟩ : ∃ p, whereP s.data.toList (j : Int) = p := ⟨_, rfl⟩
      have HC : Hid (∀ W, Calls Tryd.prog 9 #[.string s, .int .i64 (j : Int)] W fun r w' => r = .returned (.agg #[.int .i64 (a : Int), .int .i64 (b : Int)]) ∧ Below W.heap.size W w') := fun W => by
        have := refWhere_any s (j : Int) W hs
        rw [hp] at this
        exact this
      have hjl : j ≤ s.data.toList.length := by rw [size_list]; exact hlt
      rw [whereP_at hjl] at hp
      have hD : IsAt s.data.toList j line col ↔ ((a : Int) = line ∧ (b : Int) = col) := by unfold IsAt; rw [hp]
      have HD := Lib.hid hD
      have c0 : wr.cell? ⟨w.heap.size, 0, none⟩ = some (.int .i64 line) := by simp [World.cell?, HR.out.2.1]
      have c1 : wr.cell? ⟨w.heap.size, 1, none⟩ = some (.int .i64 col) := by simp [World.cell?, HR.out.2.1]
      have hx : Hid (Below w.heap.size w wr.drew ∧ wr.drew.cell? ⟨w.heap.size, 0, none⟩ = some (.int .i64 line) ∧ wr.drew.cell? ⟨w.heap.size, 1, none⟩ = some (.int .i64 col)) := ⟨below_drewN HR.out.2.2 1, c0, c1⟩
      have heq := eq_place a b line col
      clear hp hD
      by_cases hc : (a : Int) = line ∧ (b : Int) = col
      · have hb : (decide ((a : Int) = line) && decide ((b : Int) = col)) = true := by simp [hc.1, hc.2]
        rw [hb] at heq
        have HA : Hid (AtR s.data.toList line col j true) := .inl ⟨j, hjl, HD.out.2 hc, rfl, rfl⟩
        clear hc hb
        go_wp2_with fail
        go_region_held3 (fun Wk => Below (w.heap.size) (w) Wk ∧ Wk.cell? ⟨w.heap.size, 0, none⟩ = some (.int .i64 line) ∧ Wk.cell? ⟨w.heap.size, 1, none⟩ = some (.int .i64 col))
          (first | exact hx.out | exact held_2_0 hb1 (by assumption) | assumption)
          (first
          | (go_at_call 9; (with_reducible refine (HC.out _).mono ?_); rintro r w1 ⟨rfl, hb1⟩))
        rename_i hS
        have HB := Lib.hid hS.1
        clear hS
        go_wp2_with fail
        exact bodyPost_ret (v := .tuple #[.int .i64 (j : Int), .bool true]) (by simp [results, Tryd.results7, go_sem]) rfl ⟨_, _, rfl, HA.out, HB.out⟩
      · have hb : (decide ((a : Int) = line) && decide ((b : Int) = col)) = false := by
          cases q : decide ((a : Int) = line) && decide ((b : Int) = col)
          · rfl
          · simp at q; exact absurd q hc
        rw [hb] at heq
        have HN : Hid (¬ IsAt s.data.toList j line col) := fun h => hc (HD.out.1 h)
        clear hc hb
        go_wp2_with fail
        go_region_held3 (fun Wk => Below (w.heap.size) (w) Wk ∧ Wk.cell? ⟨w.heap.size, 0, none⟩ = some (.int .i64 line) ∧ Wk.cell? ⟨w.heap.size, 1, none⟩ = some (.int .i64 col))
          (first | exact hx.out | exact held_2_0 hb1 (by assumption) | assumption)
          (first
          | (go_at_call 9; (with_reducible refine (HC.out _).mono ?_); rintro r w1 ⟨rfl, hb1⟩; have HB1 := Lib.hid hb1))
        rename_i hS
        have HR2 : Hid (RAt w s.data.toList line col (j + 1) w1) := ⟨fun t ht => by by_cases q : t = j; rw [q]; exact HN.out; exact HR.out.1 t (by omega), by
          have := HB1.out.block w.heap.size (by have := lt_of_block HR.out.2.1; simpa using this)
          rw [this]; exact HR.out.2.1, hS.1⟩
        clear hS
        go_wp2_with fail
        exact ⟨⟨j + 1, rfl, by omega, HR2⟩, by show s.size + 1 - (((j : Int) + 1)).toNat < s.size + 1 - ((j : Int)).toNat; omega⟩
    · have hle : ¬ (j : Int) ≤ (s.size : Int) := by omega
      have HA : Hid (AtR s.data.toList line col 0 false) := .inr ⟨fun i hi => HR.out.1 i (by rw [size_list] at hi; omega), rfl, rfl⟩
      go_wp2_with fail
      exact bodyPost_ret (v := .tuple #[.int .i64 0, .bool false]) (by simp [results, Tryd.results7, go_sem]) rfl ⟨_, _, rfl, HA.out, HR.out.2.2⟩

end Go.Proofs.YtnahjgiihddofaaDoor
