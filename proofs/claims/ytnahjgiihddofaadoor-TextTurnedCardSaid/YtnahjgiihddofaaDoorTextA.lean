/-
  Layer 2: the program's At.
-/
import Derived.Test.YtnahjgiihddofaaDoorTextS
namespace Go.Proofs.YtnahjgiihddofaaDoor
open Go.RowKit Go.Lib

theorem ext_drop (s : ByteArray) {f : Nat} (h : f ≤ s.size) : (s.extract f s.size).data.toList = s.data.toList.drop f := by
  rw [ByteArray.data_extract, Array.toList_extract]
  simp only [List.extract]
  rw [List.take_of_length_le]
  rw [List.length_drop, size_list]; omega
theorem idx_le (s : ByteArray) {f : Nat} (h : f ≤ s.size) : -1 ≤ indexByte (s.data.toList.drop f) 10 ∧ (f : Int) + indexByte (s.data.toList.drop f) 10 + 1 ≤ (s.size : Int) ∨ indexByte (s.data.toList.drop f) 10 = -1 := by
  rcases indexByte_cases (s.data.toList.drop f) 10 with ⟨e, -⟩ | ⟨k, hk, e, -, -⟩
  · exact .inr e
  · rw [List.length_drop, size_list] at hk
    exact .inl ⟨by omega, by rw [e]; omega⟩

set_option maxRecDepth 100000 in
set_option maxHeartbeats 1000000 in
theorem next_any (s : ByteArray) (f gs gf : Nat) (w : World) (hs : s.size ≤ 400) (hf : f ≤ s.size) (h1 : w.cell? ⟨gs, 0, none⟩ = some (.string s)) (h2 : w.cell? ⟨gf, 0, none⟩ = some (.int .i64 (f : Int))) (h3 : w.frozen? ⟨gf, 0, none⟩ = false) :
    Calls Tryd.prog 16 #[.pointer (some ⟨gs, 0, none⟩), .pointer (some ⟨gf, 0, none⟩)] w fun r w' => r = .returned (.bool (decide (0 ≤ indexByte (s.data.toList.drop f) 10))) ∧ w' = w.setCell ⟨gf, 0, none⟩ (.int .i64 (f + indexByte (s.data.toList.drop f) 10 + 1)) := by
  have hx := idx_le s hf
  have he := ext_drop s hf
  have HI : Hid (∀ W, Calls Tryd.prog 17 #[.string (s.extract f s.size), .int .u8 10] W fun r w' => r = .returned (.int .i64 (indexByte (s.data.toList.drop f) 10)) ∧ w' = W) := fun W => by
    have := Tryd.strings_IndexByte (s.extract f s.size) 10 W
    rw [he] at this
    exact this
  clear he
  have hfi : (f : Int) ≤ (s.size : Int) := by omega
  generalize indexByte (s.data.toList.drop f) 10 = i at *
  have q1 : wrap64 (i + 1) = i + 1 := w64 (by omega) (by omega)
  have q2 : wrap64 ((f : Int) + (i + 1)) = (f : Int) + i + 1 := by rw [w64 (by omega) (by omega)]; omega
  clear hx
  go_enter Tryd.func16, Tryd.ntmps16
  go_wp2_with (first
    | (go_at_call 17; (with_reducible refine (HI.out _).mono ?_); rintro r w1 ⟨rfl, rfl⟩))
  exact bodyPost_ret (v := .bool (decide (0 ≤ i))) (by simp [results, Tryd.results16, go_sem]) rfl ⟨rfl, rfl⟩

/-- What holds at a round's head: s, the place, the line's first byte. -/
def AtI (w : World) (s : ByteArray) (line col : Int) (m f : Nat) (wr : World) : Prop :=
  f ≤ s.size ∧ (m : Int) < line ∧ posP (s.data.toList.take f) = ((line - m).toNat, 1) ∧ wr.heap[w.heap.size]? = some (.cells #[.string s] 9 (0, 0)) ∧ wr.heap[w.heap.size + 1]? = some (.cells #[.int .i64 line, .int .i64 col] 23 (0, 0)) ∧
  wr.heap[w.heap.size + 1 + 1]? = some (.cells #[.int .i64 (f : Int)] 3 (0, 0)) ∧ Below w.heap.size w wr

def AtPost (s : ByteArray) (line col : Int) (w : World) (r : Ending) (w' : World) : Prop := ∃ x ok, r = .returned (.tuple #[.int .i64 x, .bool ok]) ∧ AtR s.data.toList line col x ok ∧ Below w.heap.size w w'

set_option maxRecDepth 100000 in
set_option maxHeartbeats 2000000 in
theorem at_any (s : ByteArray) (line col : Int) (w : World) (hs : s.size ≤ 400) (hl0 : -9223372036854775808 ≤ line) (hl1 : line ≤ 9223372036854775807) (hc0 : -9223372036854775808 ≤ col) (hc1 : col ≤ 9223372036854775807) :
    Calls Tryd.prog 6 #[.string s, .agg #[.int .i64 line, .int .i64 col]] w (AtPost s line col w) := by
  by_cases h1 : line < 1
  · have hA : Hid (AtR s.data.toList line col 0 false) := .inr ⟨fun i hi ⟨e1, e2⟩ => by have := posP_pos (s.data.toList.take i); omega, rfl, rfl⟩
    clear hl0 hl1 hc0 hc1
    go_enter Tryd.func6, Tryd.ntmps6
    go_wp2_with fail
    refine bodyPost_ret (v := .tuple #[.int .i64 0, .bool false]) (by simp [results, Tryd.results6, go_sem]) rfl ⟨_, _, rfl, hA.out, (by repeat (first | exact Below.refl _ _ | assumption | refine Below.drew ?_ | refine Below.alloc ?_ (by first | omega | (simp <;> omega)) _ | refine Below.setCell ?_ (by first | omega | (simp <;> omega)) _ | refine Below.trans ?_ (Below.mono (by assumption) (by first | omega | (simp <;> omega)))))⟩
  by_cases h2 : col < 1
  · have hA : Hid (AtR s.data.toList line col 0 false) := .inr ⟨fun i hi ⟨e1, e2⟩ => by have := posP_pos (s.data.toList.take i); omega, rfl, rfl⟩
    clear hl0 hl1 hc0 hc1
    go_enter Tryd.func6, Tryd.ntmps6
    go_wp2_with fail
    refine bodyPost_ret (v := .tuple #[.int .i64 0, .bool false]) (by simp [results, Tryd.results6, go_sem]) rfl ⟨_, _, rfl, hA.out, (by repeat (first | exact Below.refl _ _ | assumption | refine Below.drew ?_ | refine Below.alloc ?_ (by first | omega | (simp <;> omega)) _ | refine Below.setCell ?_ (by first | omega | (simp <;> omega)) _ | refine Below.trans ?_ (Below.mono (by assumption) (by first | omega | (simp <;> omega)))))⟩
  obtain ⟨m0, hm0⟩ : ∃ m0 : Nat, line - 1 = (m0 : Int) := ⟨(line - 1).toNat, by omega⟩
  have q0 : wrap64 (line - 1) = (m0 : Int) := by rw [w64 (by omega) (by omega), hm0]
  go_enter Tryd.func6, Tryd.ntmps6
  go_wp2_with fail
  go_region
  go_wp2_with fail
  obtain ⟨A, hA⟩ : ∃ A, A = (((w.alloc (.cells #[.string s] 9)).alloc (.cells #[.int .i64 line, .int .i64 col] 23)).alloc (.cells #[.int .i64 0] 3)).drew := ⟨_, rfl⟩
  have H0 : Hid (AtI w s line col m0 0 A) := by
    show AtI w s line col m0 0 A
    rw [hA]
    refine ⟨Nat.zero_le _, by omega, ?_, ?_, ?_, ?_, (by repeat (first | exact Below.refl _ _ | assumption | refine Below.drew ?_ | refine Below.alloc ?_ (by first | omega | (simp <;> omega)) _ | refine Below.setCell ?_ (by first | omega | (simp <;> omega)) _ | refine Below.trans ?_ (Below.mono (by assumption) (by first | omega | (simp <;> omega)))))⟩
    · rw [List.take_zero, posP_nil]; congr 1; omega
    · show (((w.alloc _).alloc _).alloc _).heap[w.heap.size]? = _
      rw [Below.heap_alloc _ _ _ (by simp; omega), Below.heap_alloc _ _ _ (by simp), heap_one]
    · show (((w.alloc _).alloc _).alloc _).heap[w.heap.size + 1]? = _
      rw [Below.heap_alloc _ _ _ (by simp), heap_two]
    · show (((w.alloc _).alloc _).alloc _).heap[w.heap.size + 1 + 1]? = _
      have := heap_one ((w.alloc (.cells #[.string s] 9)).alloc (.cells #[.int .i64 line, .int .i64 col] 23)) (.cells #[.int .i64 0] 3)
      rw [World.size_alloc, World.size_alloc] at this
      exact this
  rw [← hA]
  clear hA q0 hm0
  go_loopw [7] (fun i wr => ∃ m f : Nat, i = .int .i64 m ∧ m ≤ m0 ∧ Hid (AtI w s line col m f wr)) (fun i _ => (RowKit.intOf i).toNat)
  case atStart => exact ⟨m0, 0, rfl, Nat.le_refl _, H0⟩
  case round =>
    obtain ⟨m, f, rfl, hm, HI⟩ := hrel
    obtain ⟨i1, i2, i3, i4, i5, i6, i7⟩ := HI.out
    have c0 : wr.cell? ⟨w.heap.size, 0, none⟩ = some (.string s) := by simp [World.cell?, i4]
    have c1 : wr.cell? ⟨w.heap.size + 1, 0, none⟩ = some (.int .i64 line) := by simp [World.cell?, i5]
    have c2 : wr.cell? ⟨w.heap.size + 1, 1, none⟩ = some (.int .i64 col) := by simp [World.cell?, i5]
    have c3 : wr.cell? ⟨w.heap.size + 1 + 1, 0, none⟩ = some (.int .i64 (f : Int)) := by simp [World.cell?, i6]
    have f3 : wr.frozen? ⟨w.heap.size + 1 + 1, 0, none⟩ = false := by simp [World.frozen?, i6]
    have hz := i7.size
    have H4 := Lib.hid (And.intro i3 (And.intro i4 (And.intro i5 (And.intro i6 i7))))
    have hfl : f ≤ s.data.toList.length := by rw [size_list]; exact i1
    have hx := idx_le s i1
    clear H0 i3 i4 i5 i6 i7
    by_cases h0 : m = 0
    · subst h0
      obtain ⟨n1, n2, n3, n4⟩ := in_line (line := line) (col := col) hfl (by rw [H4.out.1]; simp) (by omega) (by omega)
      have HB := Lib.hid H4.out.2.2.2.2
      have he := ext_drop s i1
      have HX : Hid (∀ W, Calls Tryd.prog 17 #[.string (s.extract f s.size), .int .u8 10] W fun r w' => r = .returned (.int .i64 (indexByte (s.data.toList.drop f) 10)) ∧ w' = W) := fun W => by
        have := Tryd.strings_IndexByte (s.extract f s.size) 10 W
        rw [he] at this
        exact this
      have hl : lineLen s.data.toList f = if indexByte (s.data.toList.drop f) 10 < 0 then ((s.size : Int) - f) else indexByte (s.data.toList.drop f) 10 := by unfold lineLen; rw [size_list]
      obtain ⟨i, hi⟩ : ∃ i, indexByte (s.data.toList.drop f) 10 = i := ⟨_, rfl⟩
      rw [hi] at HX hx hl
      rw [size_list] at n2
      have q1 : wrap64 (col - 1) = col - 1 := w64 (by omega) (by omega)
      have q2 : wrap64 ((s.size : Int) - f) = (s.size : Int) - f := w64 (by omega) (by omega)
      have hfi : (f : Int) ≤ (s.size : Int) := by omega
      by_cases hneg : i < 0
      · rw [if_pos hneg] at hl
        rw [hl] at n1 n2 n3 n4
        by_cases hc : col - 1 ≤ (s.size : Int) - f
        · have hA := Lib.hid (n3 hc)
          have q3 : wrap64 ((f : Int) + col) = f + col := w64 (by omega) (by omega)
          have q4 : wrap64 ((f : Int) + col - 1) = f + col - 1 := w64 (by omega) (by omega)
          have hc' : ¬ ((s.size : Int) - f < col - 1) := by omega
          clear n1 n2 n3 n4 hl hi hx he hc0 hc1 hl0 hl1
          go_wp2_with (first
            | (go_at_call 17; (with_reducible refine (HX.out _).mono ?_); rintro r w1 ⟨rfl, rfl⟩))
          exact bodyPost_ret (v := .tuple #[.int .i64 ((f : Int) + col - 1), .bool true]) (by simp [results, Tryd.results6, go_sem]) rfl ⟨_, _, rfl, hA.out, HB.out⟩
        · have hA := Lib.hid (n4 hc)
          have hc' : (s.size : Int) - f < col - 1 := by omega
          clear n1 n2 n3 n4 hl hi hx he hc0 hc1 hl0 hl1
          go_wp2_with (first
            | (go_at_call 17; (with_reducible refine (HX.out _).mono ?_); rintro r w1 ⟨rfl, rfl⟩))
          exact bodyPost_ret (v := .tuple #[.int .i64 0, .bool false]) (by simp [results, Tryd.results6, go_sem]) rfl ⟨_, _, rfl, hA.out, HB.out⟩
      · rw [if_neg hneg] at hl
        rw [hl] at n1 n2 n3 n4
        by_cases hc : col - 1 ≤ i
        · have hA := Lib.hid (n3 hc)
          have q3 : wrap64 ((f : Int) + col) = f + col := w64 (by omega) (by omega)
          have q4 : wrap64 ((f : Int) + col - 1) = f + col - 1 := w64 (by omega) (by omega)
          have hc' : ¬ (i < col - 1) := by omega
          clear n1 n2 n3 n4 hl hi hx he hc0 hc1 hl0 hl1
          go_wp2_with (first
            | (go_at_call 17; (with_reducible refine (HX.out _).mono ?_); rintro r w1 ⟨rfl, rfl⟩))
          exact bodyPost_ret (v := .tuple #[.int .i64 ((f : Int) + col - 1), .bool true]) (by simp [results, Tryd.results6, go_sem, q4]) rfl ⟨_, _, rfl, hA.out, HB.out⟩
        · have hA := Lib.hid (n4 hc)
          have hc' : i < col - 1 := by omega
          clear n1 n2 n3 n4 hl hi hx he hc0 hc1 hl0 hl1
          go_wp2_with (first
            | (go_at_call 17; (with_reducible refine (HX.out _).mono ?_); rintro r w1 ⟨rfl, rfl⟩))
          exact bodyPost_ret (v := .tuple #[.int .i64 0, .bool false]) (by simp [results, Tryd.results6, go_sem]) rfl ⟨_, _, rfl, hA.out, HB.out⟩
    · have hm0 : 0 < (m : Int) := by omega
      have HN : Hid (∀ W, W.cell? ⟨w.heap.size, 0, none⟩ = some (.string s) → W.cell? ⟨w.heap.size + 1 + 1, 0, none⟩ = some (.int .i64 (f : Int)) → W.frozen? ⟨w.heap.size + 1 + 1, 0, none⟩ = false → Calls Tryd.prog 16 #[.pointer (some ⟨w.heap.size, 0, none⟩), .pointer (some ⟨w.heap.size + 1 + 1, 0, none⟩)] W fun r w' => r = .returned (.bool (decide (0 ≤ indexByte (s.data.toList.drop f) 10))) ∧ w' = W.setCell ⟨w.heap.size + 1 + 1, 0, none⟩ (.int .i64 (f + indexByte (s.data.toList.drop f) 10 + 1))) := fun W a b c => next_any s f _ _ W hs i1 a b c
      obtain ⟨i, hi⟩ : ∃ i, indexByte (s.data.toList.drop f) 10 = i := ⟨_, rfl⟩
      rw [hi] at HN hx
      by_cases hge : 0 ≤ i
      · have hd : decide (0 ≤ i) = true := decide_eq_true hge
        rw [hd] at HN
        have HS2 : Hid (AtI w s line col (m - 1) (f + i.toNat + 1) (wr.setCell ⟨w.heap.size + 1 + 1, 0, none⟩ (.int .i64 ((f : Int) + i + 1)))) := by
          obtain ⟨i3, i4, i5, i6, i7⟩ := H4.out
          obtain ⟨l1, l2⟩ := next_line (i := i.toNat) hfl (by rw [hi]; omega)
          rw [i3] at l2
          refine ⟨by rw [size_list] at l1; exact l1, by omega, ?_, ?_, ?_, ?_, ?_⟩
          · rw [l2]; congr 1; omega
          · rw [setCell_apart (by omega)]; exact i4
          · rw [setCell_apart (by omega)]; exact i5
          · rw [heap_setCell_same _ _ _ _ _ _ i6, show ((f : Int) + i + 1) = ((f + i.toNat + 1 : Nat) : Int) by omega]; simp
          · exact i7.setCell (by show w.heap.size ≤ w.heap.size + 1 + 1; omega) _
        clear hi hx hd hge
        go_wp2_with (first
          | (go_at_call 16; (with_reducible refine (HN.out _ ?_ ?_ ?_).mono ?_); assumption; assumption; assumption; rintro r w1 ⟨rfl, rfl⟩))
        exact ⟨⟨m - 1, f + i.toNat + 1, by congr 1; omega, by omega, HS2⟩, by show ((m : Int) - 1).toNat < ((m : Int)).toNat; omega⟩
      · have hd : decide (0 ≤ i) = false := decide_eq_false hge
        rw [hd] at HN
        have hA : Hid (AtR s.data.toList line col 0 false) := by
          refine .inr ⟨fun j hj ⟨e1, e2⟩ => ?_, rfl, rfl⟩
          have := no_line hfl (by rw [hi]; omega) hj
          rw [H4.out.1] at this
          simp only at this
          omega
        have HB := Lib.hid H4.out.2.2.2.2
        clear hi hx hd hge
        go_wp2_with (first
          | (go_at_call 16; (with_reducible refine (HN.out _ ?_ ?_ ?_).mono ?_); assumption; assumption; assumption; rintro r w1 ⟨rfl, rfl⟩))
        exact bodyPost_ret (v := .tuple #[.int .i64 0, .bool false]) (by simp [results, Tryd.results6, go_sem]) rfl ⟨_, _, rfl, hA.out, HB.out.setCell (by show w.heap.size ≤ w.heap.size + 1 + 1; omega) _⟩

end Go.Proofs.YtnahjgiihddofaaDoor
