/-
  Layer 2: the law TextTurned, walked.
-/
import Derived.Test.YtnahjgiihddofaaDoorTextL
namespace Go.Proofs.YtnahjgiihddofaaDoor
open Go.RowKit Go.Lib

def lastP (l : List UInt8) (j : Nat) : Nat × Nat := if j = 0 then (0, 0) else posP (l.take (j - 1))
theorem lastP_lt {l : List UInt8} {j : Nat} (h : j ≤ l.length) : LexLt (lastP l j) (posP (l.take j)) := by
  unfold lastP
  by_cases e : j = 0
  · rw [if_pos e]
    have := posP_pos (l.take j)
    unfold LexLt
    simp only
    omega
  · rw [if_neg e]; exact posP_lt (by omega) h
theorem lastP_next (l : List UInt8) (j : Nat) : lastP l (j + 1) = posP (l.take j) := by unfold lastP; rw [if_neg (by omega)]; rfl
theorem lastP_le (l : List UInt8) (j : Nat) : (lastP l j).1 ≤ l.length + 1 ∧ (lastP l j).2 ≤ l.length + 1 := by
  unfold lastP
  split
  · exact ⟨Nat.zero_le _, Nat.zero_le _⟩
  · have := posP_le (l.take (j - 1))
    rw [List.length_take] at this
    omega

def TAt (w : World) (l : List UInt8) (j : Nat) (wr : World) : Prop :=
  wr.heap[w.heap.size]? = some (.cells #[.int .i64 ((lastP l j).1 : Int), .int .i64 ((lastP l j).2 : Int)] 23 (0, 0)) ∧ Below w.heap.size w wr

set_option maxRecDepth 100000 in
set_option maxHeartbeats 16000000 in
theorem turned_any (s : ByteArray) (w : World) (HT : Hid (TabOk w)) :
    Calls Tryd.prog 4 #[.string s] w fun r w' => r = .returned (.bool true) ∧ Below w.heap.size w w' := by
  have HK : Hid (∀ W, Below w.heap.size w W → Calls Tryd.prog 5 #[] W fun r w' => r = .returned (.bool true) ∧ Below W.heap.size W w') := fun W hb => known_any W (HT.out.on hb)
  by_cases hs : s.size ≤ 400
  · have hs' : ¬ (400 : Int) < (s.size : Int) := by omega
    have q1 : wrap64 ((s.size : Int) + 1) = (s.size : Int) + 1 := w64 (by omega) (by omega)
    have q5 : wrap64 ((s.size : Int) + 5) = (s.size : Int) + 5 := w64 (by omega) (by omega)
    have q6 : IntKind.i64.wrap ((s.size : Int) + 5) = (s.size : Int) + 5 := by rw [IntKind.wrap_i64]; omega
    go_enter Tryd.func4, Tryd.ntmps4
    go_wp2_with fail
    go_loopw [15] (fun i wr => ∃ j : Nat, i = .int .i64 j ∧ j ≤ s.size + 1 ∧ Hid (TAt w s.data.toList j wr)) (fun i _ => s.size + 1 - (RowKit.intOf i).toNat)
    case atStart => exact ⟨0, rfl, Nat.zero_le _, heap_one _ _, (by repeat (first | exact Below.refl _ _ | assumption | refine Below.drew ?_ | refine Below.alloc ?_ (by first | omega | (simp <;> omega)) _ | refine Below.setCell ?_ (by first | omega | (simp <;> omega)) _ | refine Below.trans ?_ (Below.mono (by assumption) (by first | omega | (simp <;> omega)))))⟩
    case round =>
      obtain ⟨j, rfl, hj, HR⟩ := hrel
      obtain ⟨⟨c, d⟩, hl⟩ : ∃ p, lastP s.data.toList j = p := ⟨_, rfl⟩
      have h1 := HR.out.1
      rw [hl] at h1
      have c0 : wr.cell? ⟨w.heap.size, 0, none⟩ = some (.int .i64 (c : Int)) := by simp [World.cell?, h1]
      have c1 : wr.cell? ⟨w.heap.size, 1, none⟩ = some (.int .i64 (d : Int)) := by simp [World.cell?, h1]
      have f0 : ∀ i, wr.frozen? ⟨w.heap.size, i, none⟩ = false := fun i => by simp [World.frozen?, h1]
      have hlw := lt_of_block h1
      have H1 := Lib.hid h1
      by_cases hlt : j ≤ s.size
      · have hjl : j ≤ s.data.toList.length := by rw [size_list]; exact hlt
        have hji : (j : Int) < (s.size : Int) + 1 := by omega
        obtain ⟨⟨a, b⟩, hp⟩ : ∃ p, posP (s.data.toList.take j) = p := ⟨_, rfl⟩
        have hlx := lastP_lt hjl
        rw [hl, hp] at hlx
        have hpb := posP_le (s.data.toList.take j)
        rw [hp, List.length_take, size_list] at hpb
        have HW : Hid (∀ W, Calls Tryd.prog 8 #[.string s, .int .i64 (j : Int)] W fun r w' => r = .returned (.agg #[.int .i64 (a : Int), .int .i64 (b : Int)]) ∧ Below W.heap.size W w') := fun W => by
          have := where_any s (j : Int) W hs
          rw [whereP_at hjl, hp] at this
          exact this
        have HA : Hid (∀ W, Calls Tryd.prog 6 #[.string s, .agg #[.int .i64 (a : Int), .int .i64 (b : Int)]] W fun r w' => r = .returned (.tuple #[.int .i64 (j : Int), .bool true]) ∧ Below W.heap.size W w') := fun W => by
          simp only at hpb
          refine (at_any s a b W hs (by omega) (by omega) (by omega) (by omega)).mono ?_
          rintro r w' ⟨x, ok, rfl, h, hb⟩
          obtain ⟨rfl, rfl⟩ := AtR.uniq h (.inl ⟨j, hjl, (by unfold IsAt; rw [hp]; exact ⟨rfl, rfl⟩), rfl, rfl⟩)
          exact ⟨rfl, hb⟩
        have HN : Hid (lastP s.data.toList (j + 1) = (a, b)) := by show _ = _; rw [lastP_next, hp]
        unfold LexLt at hlx
        simp only at hlx
        have n1 : ¬ (a : Int) < (c : Int) := by omega
        clear h1 hl hp hpb
        by_cases hac : a = c
        · subst hac
          have n2 : ¬ (b : Int) ≤ (d : Int) := by omega
          clear hlx
          go_wp2_with (first
            | (go_at_call 8; (with_reducible refine (HW.out _).mono ?_); rintro r w1 ⟨rfl, hb1⟩; have k1 := (hb1.block w.heap.size hlw).trans H1.out; have K1 := Lib.hid k1; have lw1 : w.heap.size < w1.heap.size := lt_of_block k1; have BW1 := Lib.hid (HR.out.2.trans (hb1.mono HR.out.2.size)); clear k1 hb1)
            | (go_at_call 6; (with_reducible refine (HA.out _).mono ?_); rintro r w2 ⟨rfl, hb2⟩; have g1 := (hb2.block w.heap.size (by simp; omega)).trans ((Below.heap_alloc _ _ _ lw1).trans K1.out); have g2 := (hb2.block w1.heap.size (by simp)).trans (heap_one w1 _); have a0 : w2.cell? ⟨w.heap.size, 0, none⟩ = some (.int .i64 (a : Int)) := (by simp [World.cell?, g1]); have a1 : w2.cell? ⟨w.heap.size, 1, none⟩ = some (.int .i64 (d : Int)) := (by simp [World.cell?, g1]); have af : ∀ i, w2.frozen? ⟨w.heap.size, i, none⟩ = false := (fun i => by simp [World.frozen?, g1]); have a2 : w2.cell? ⟨w1.heap.size, 0, none⟩ = some (.int .i64 (a : Int)) := (by simp [World.cell?, g2]); have a3 : w2.cell? ⟨w1.heap.size, 1, none⟩ = some (.int .i64 (b : Int)) := (by simp [World.cell?, g2]); have G1 := Lib.hid g1; have BW2 := Lib.hid ((BW1.out.alloc BW1.out.size _).trans (hb2.mono (by have := BW1.out.size; simp; omega))); clear g1 g2 hb2))
          refine ⟨⟨j + 1, rfl, by omega, ?_, ?_⟩, by show s.size + 1 - (((j : Int) + 1)).toNat < s.size + 1 - ((j : Int)).toNat; omega⟩
          · rw [HN.out, heap_setCell_same _ _ _ _ _ _ (heap_setCell_same _ _ _ _ _ _ G1.out)]; simp
          · exact (BW2.out.setCell (by show w.heap.size ≤ w.heap.size; omega) _).setCell (by show w.heap.size ≤ w.heap.size; omega) _
        · have n2 : ¬ (a : Int) = (c : Int) := by omega
          clear hlx hac
          go_wp2_with (first
            | (go_at_call 8; (with_reducible refine (HW.out _).mono ?_); rintro r w1 ⟨rfl, hb1⟩; have k1 := (hb1.block w.heap.size hlw).trans H1.out; have K1 := Lib.hid k1; have lw1 : w.heap.size < w1.heap.size := lt_of_block k1; have BW1 := Lib.hid (HR.out.2.trans (hb1.mono HR.out.2.size)); clear k1 hb1)
            | (go_at_call 6; (with_reducible refine (HA.out _).mono ?_); rintro r w2 ⟨rfl, hb2⟩; have g1 := (hb2.block w.heap.size (by simp; omega)).trans ((Below.heap_alloc _ _ _ lw1).trans K1.out); have g2 := (hb2.block w1.heap.size (by simp)).trans (heap_one w1 _); have a0 : w2.cell? ⟨w.heap.size, 0, none⟩ = some (.int .i64 (c : Int)) := (by simp [World.cell?, g1]); have a1 : w2.cell? ⟨w.heap.size, 1, none⟩ = some (.int .i64 (d : Int)) := (by simp [World.cell?, g1]); have af : ∀ i, w2.frozen? ⟨w.heap.size, i, none⟩ = false := (fun i => by simp [World.frozen?, g1]); have a2 : w2.cell? ⟨w1.heap.size, 0, none⟩ = some (.int .i64 (a : Int)) := (by simp [World.cell?, g2]); have a3 : w2.cell? ⟨w1.heap.size, 1, none⟩ = some (.int .i64 (b : Int)) := (by simp [World.cell?, g2]); have G1 := Lib.hid g1; have BW2 := Lib.hid ((BW1.out.alloc BW1.out.size _).trans (hb2.mono (by have := BW1.out.size; simp; omega))); clear g1 g2 hb2))
          refine ⟨⟨j + 1, rfl, by omega, ?_, ?_⟩, by show s.size + 1 - (((j : Int) + 1)).toNat < s.size + 1 - ((j : Int)).toNat; omega⟩
          · rw [HN.out, heap_setCell_same _ _ _ _ _ _ (heap_setCell_same _ _ _ _ _ _ G1.out)]; simp
          · exact (BW2.out.setCell (by show w.heap.size ≤ w.heap.size; omega) _).setCell (by show w.heap.size ≤ w.heap.size; omega) _
      · obtain rfl : j = s.size + 1 := by omega
        have hji : ¬ (((s.size + 1 : Nat) : Int)) < (s.size : Int) + 1 := by omega
        have hlast : lastP s.data.toList (s.size + 1) = posP s.data.toList := by rw [lastP_next, List.take_of_length_le (by rw [size_list]; exact Nat.le_refl _)]
        rw [hlast] at hl
        have HW1 : Hid (∀ W, Calls Tryd.prog 8 #[.string s, .int .i64 ((s.size : Int) + 5)] W fun r w' => r = .returned (.agg #[.int .i64 (c : Int), .int .i64 (d : Int)]) ∧ Below W.heap.size W w') := fun W => by
          have := where_any s ((s.size : Int) + 5) W hs
          have e : whereP s.data.toList ((s.size : Int) + 5) = (c, d) := by
            rw [← hl]
            unfold whereP
            rw [show cutN s.data.toList ((s.size : Int) + 5) = s.size by unfold cutN; rw [size_list]; omega, List.take_of_length_le (by rw [size_list]; exact Nat.le_refl _)]
          rw [e] at this
          exact this
        have HW2 : Hid (∀ W, Calls Tryd.prog 8 #[.string s, .int .i64 (-1)] W fun r w' => r = .returned (.agg #[.int .i64 1, .int .i64 1]) ∧ Below W.heap.size W w') := fun W => by
          have := where_any s (-1) W hs
          have e : whereP s.data.toList (-1) = (1, 1) := by
            unfold whereP
            rw [show cutN s.data.toList (-1) = 0 by unfold cutN; omega]; rfl
          rw [e] at this
          exact this
        have e1 := fun W => eq_place1 (c : Int) (d : Int) W
        have e2 := fun W => eq_place1 1 1 W
        have hx : Hid (Below w.heap.size w wr.drew ∧ wr.drew.cell? ⟨w.heap.size, 0, none⟩ = some (.int .i64 (c : Int)) ∧ wr.drew.cell? ⟨w.heap.size, 1, none⟩ = some (.int .i64 (d : Int))) := ⟨below_drewN HR.out.2 1, c0, c1⟩
        clear hl hlast h1 f0
        go_wp2_with fail
        go_region_held3 (fun Wk => Below (w.heap.size) (w) Wk ∧ Wk.cell? ⟨w.heap.size, 0, none⟩ = some (.int .i64 (c : Int)) ∧ Wk.cell? ⟨w.heap.size, 1, none⟩ = some (.int .i64 (d : Int)))
          (first | exact hx.out | exact held_2_0 hb1 (by assumption) | assumption)
          (first
          | (go_at_call 8; (with_reducible refine (HW1.out _).mono ?_); rintro r w1 ⟨rfl, hb1⟩)
          | (go_at_call 8; (with_reducible refine (HW2.out _).mono ?_); rintro r w1 ⟨rfl, hb1⟩)
          | (go_at_call 5; (with_reducible refine (HK.out _ (And.left (by assumption))).mono ?_); rintro r w1 ⟨rfl, hb1⟩))
        rename_i hS
        have HB := Lib.hid hS.1
        clear hS
        go_wp2_with fail
        exact bodyPost_ret (v := .bool true) (by simp [results, Tryd.results4, go_sem]) rfl ⟨rfl, HB.out⟩
  · have hs' : (400 : Int) < (s.size : Int) := by omega
    go_enter Tryd.func4, Tryd.ntmps4
    go_wp2_with (first
      | (go_at_call 5; (with_reducible refine (HK.out _ (Below.refl _ _)).mono ?_); rintro r w1 ⟨rfl, hb1⟩))
    exact bodyPost_ret (v := .bool true) (by simp [results, Tryd.results4, go_sem]) rfl ⟨rfl, hb1⟩

end Go.Proofs.YtnahjgiihddofaaDoor
