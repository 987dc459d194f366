/-
  Layer 2: the document's Where.
-/
import Derived.Test.YtnahjgiihddofaaDoorTextW
namespace Go.Proofs.YtnahjgiihddofaaDoor
open Go.RowKit Go.Lib

theorem heap_one (w : World) (o : Obj) : (w.alloc o).heap[w.heap.size]? = some o := by
  show (w.heap.push o)[w.heap.size]? = _
  simp
theorem heap_two (w : World) (o o' : Obj) : ((w.alloc o).alloc o').heap[w.heap.size + 1]? = some o' := by
  have := heap_one (w.alloc o) o'
  rwa [World.size_alloc] at this
theorem heap_two0 (w : World) (o o' : Obj) : ((w.alloc o).alloc o').heap[w.heap.size]? = some o := by
  rw [Below.heap_alloc _ _ _ (by rw [World.size_alloc]; omega), heap_one]

theorem setCell_apart {w : World} {g i k : Nat} {v : Value} (h : k ≠ g) : (w.setCell ⟨g, i, none⟩ v).heap[k]? = w.heap[k]? := Below.heap_setCell w ⟨g, i, none⟩ v k h

def WAt (w : World) (l : List UInt8) (j : Nat) (wr : World) : Prop :=
  wr.heap[w.heap.size + 1]? = some (.cells #[.int .i64 ((posP (l.take j)).1 : Int), .int .i64 ((posP (l.take j)).2 : Int)] 23 (0, 0)) ∧
  wr.heap[w.heap.size]? = some (.cells #[.int .i64 0, .int .i64 0] 23 (0, 0)) ∧ Below w.heap.size w wr

set_option maxRecDepth 100000 in
set_option maxHeartbeats 1000000 in
theorem refWhere_any (s : ByteArray) (k : Int) (w : World) (hs : s.size ≤ 400) :
    Calls Tryd.prog 9 #[.string s, .int .i64 k] w fun e w' => e = .returned (plV (whereP s.data.toList k)) ∧ Below w.heap.size w w' := by
  obtain ⟨m, hm⟩ : ∃ m, cutN s.data.toList k = m := ⟨_, rfl⟩
  have hle : m ≤ s.size := by rw [← hm, ← size_list]; exact cutN_le _ _
  have hmk : ∀ j : Nat, ((j : Int) < k ∧ (j : Int) < s.size) ↔ j < m := by intro j; rw [← hm]; unfold cutN; rw [size_list]; omega
  have HMK := Lib.hid hmk
  have HM := Lib.hid hm
  clear hmk hm
  go_enter Tryd.func9, Tryd.ntmps9
  go_wp2_with fail
  go_loopw [6] (fun i wr => ∃ j : Nat, j ≤ m ∧ i = .int .i64 j ∧ Hid (WAt w s.data.toList j wr)) (fun i _ => m - (RowKit.intOf i).toNat)
  case atStart =>
    refine ⟨0, Nat.zero_le _, rfl, ?_, ?_, (by repeat (first | exact Below.refl _ _ | assumption | refine Below.drew ?_ | refine Below.alloc ?_ (by first | omega | (simp <;> omega)) _ | refine Below.setCell ?_ (by first | omega | (simp <;> omega)) _ | refine Below.trans ?_ (Below.mono (by assumption) (by first | omega | (simp <;> omega)))))⟩
    · exact heap_two _ _ _
    · exact heap_two0 _ _ _
  case round =>
    obtain ⟨j, hj, rfl, HW⟩ := hrel
    obtain ⟨h1, h2, h3⟩ := HW.out
    obtain ⟨⟨a, b⟩, hp⟩ : ∃ p, posP (s.data.toList.take j) = p := ⟨_, rfl⟩
    rw [hp] at h1
    dsimp only at h1
    have c0 : wr.cell? ⟨w.heap.size + 1, 0, none⟩ = some (.int .i64 (a : Int)) := by simp [World.cell?, h1]
    have c1 : wr.cell? ⟨w.heap.size + 1, 1, none⟩ = some (.int .i64 (b : Int)) := by simp [World.cell?, h1]
    have f0 : ∀ i, wr.frozen? ⟨w.heap.size + 1, i, none⟩ = false := fun i => by simp [World.frozen?, h1]
    have hz := h3.size
    have HP := Lib.hid hp
    have H1 := Lib.hid h1
    have H2 := Lib.hid h2
    have H3 := Lib.hid h3
    by_cases hlt : j < m
    · have hjs : j < s.size := by omega
      have hjl : j < s.data.toList.length := by rw [size_list]; exact hjs
      have hjk : (j : Int) < k := ((HMK.out j).2 hlt).1
      have hjz : (j : Int) < (s.size : Int) := by omega
      have hnx := posP_take hjl
      rw [hp] at hnx
      have hbd := posP_le (s.data.toList.take j)
      have htl : (s.data.toList.take j).length = j := by rw [List.length_take, size_list]; omega
      rw [htl, hp] at hbd
      dsimp only at hbd
      have HNX := Lib.hid hnx
      have HBD := Lib.hid hbd
      have hix : ∀ W, (Instr.index 9 (.string s) (.int .i64 (j : Int))).run Tryd.prog W = .ok (.int .u8 (s.data.toList[j].toNat : Int)) W := by
        intro W
        rw [run_index_string _ _ _ _ _ Tryd.underlying9]
        simp [hjs]
        rfl
      clear h1 h2 h3 hp hnx hbd htl
      by_cases hc : s.data.toList[j] = 10
      · rw [hc] at hix
        have hW2 : Hid (WAt w s.data.toList (j + 1) ((wr.setCell ⟨w.heap.size + 1, 0, none⟩ (.int .i64 (wrap64 ((a : Int) + 1)))).setCell ⟨w.heap.size + 1, 1, none⟩ (.int .i64 1))) := by
          have e := HNX.out
          rw [hc] at e
          refine ⟨?_, ?_, ?_⟩
          · have := HBD.out
            rw [e, w64 (by omega) (by omega), heap_setCell_same _ _ _ _ _ _ (heap_setCell_same _ _ _ _ _ _ H1.out)]
            simp [stepP]
          · rw [setCell_apart (by omega), setCell_apart (by omega)]; exact H2.out
          · exact (H3.out.setCell (by show w.heap.size ≤ w.heap.size + 1; omega) _).setCell (by show w.heap.size ≤ w.heap.size + 1; omega) _
        go_wp2_with fail
        exact ⟨⟨j + 1, hlt, rfl, hW2⟩, by show m - (((j : Int) + 1)).toNat < m - ((j : Int)).toNat; omega⟩
      · obtain ⟨x, hx⟩ : ∃ x : Int, ((s.data.toList[j].toNat : Nat) : Int) = x := ⟨_, rfl⟩
        have hne : x ≠ 10 := fun e => hc (UInt8.toNat_inj.1 (by show _ = 10; omega))
        rw [hx] at hix
        have hW2 : Hid (WAt w s.data.toList (j + 1) (wr.setCell ⟨w.heap.size + 1, 1, none⟩ (.int .i64 (wrap64 ((b : Int) + 1))))) := by
          have e := HNX.out
          have := HBD.out
          refine ⟨?_, ?_, ?_⟩
          · rw [e, show stepP (a, b) s.data.toList[j] = (a, b + 1) by unfold stepP; rw [if_neg hc], w64 (by omega) (by omega), heap_setCell_same _ _ _ _ _ _ H1.out]
            simp
          · rw [setCell_apart (by omega)]; exact H2.out
          · exact H3.out.setCell (by show w.heap.size ≤ w.heap.size + 1; omega) _
        clear hx hc
        go_wp2_with fail
        exact ⟨⟨j + 1, hlt, rfl, hW2⟩, by show m - (((j : Int) + 1)).toNat < m - ((j : Int)).toNat; omega⟩
    · obtain rfl : j = m := by omega
      have c2 : wr.cell? ⟨w.heap.size, 0, none⟩ = some (.int .i64 0) := by simp [World.cell?, h2]
      have c3 : wr.cell? ⟨w.heap.size, 1, none⟩ = some (.int .i64 0) := by simp [World.cell?, h2]
      have f2 : ∀ i, wr.frozen? ⟨w.heap.size, i, none⟩ = false := fun i => by simp [World.frozen?, h2]
      have hW : Hid (whereP s.data.toList k = (a, b)) := by
        show _ = _
        unfold whereP
        rw [HM.out]; exact HP.out
      clear h1 h2 h3 hp
      have hn := mt (HMK.out j).1 (by omega)
      by_cases hjk : (j : Int) < k
      · have hjz : ¬ (j : Int) < (s.size : Int) := fun e => hn ⟨hjk, e⟩
        clear hn
        go_wp2_with fail
        refine bodyPost_ret (v := plV (a, b)) (by simp [results, Tryd.results9, go_sem, c2, c3, plV]) rfl ⟨by rw [hW.out], ?_⟩
        exact (H3.out.setCell (by show w.heap.size ≤ w.heap.size; omega) _).setCell (by show w.heap.size ≤ w.heap.size; omega) _
      · clear hn
        go_wp2_with fail
        refine bodyPost_ret (v := plV (a, b)) (by simp [results, Tryd.results9, go_sem, c2, c3, plV]) rfl ⟨by rw [hW.out], ?_⟩
        exact (H3.out.setCell (by show w.heap.size ≤ w.heap.size; omega) _).setCell (by show w.heap.size ≤ w.heap.size; omega) _

end Go.Proofs.YtnahjgiihddofaaDoor
