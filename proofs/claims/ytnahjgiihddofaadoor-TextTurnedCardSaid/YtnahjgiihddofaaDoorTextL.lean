/-
  Layer 2: the law TextPlaces, walked.
-/
import Derived.Test.YtnahjgiihddofaaDoorTextN
namespace Go.Proofs.YtnahjgiihddofaaDoor
open Go.RowKit Go.Lib

theorem eq_fault (x y z : Int) (W : World) : (Go.binOp .eql 29 (.agg #[.int .i64 x, .int .i64 y, .int .i64 z]) (.agg #[.int .i64 x, .int .i64 y, .int .i64 z])).run Tryd.prog W = .ok (.bool true) W := by
  simp [go_sem]
theorem eq_place1 (x y : Int) (W : World) : (Go.binOp .eql 23 (.agg #[.int .i64 x, .int .i64 y]) (.agg #[.int .i64 x, .int .i64 y])).run Tryd.prog W = .ok (.bool true) W := by
  rw [eq_place]; simp

set_option maxRecDepth 100000 in
set_option maxHeartbeats 16000000 in
theorem places_any (s : ByteArray) (k line col e : Int) (w : World) (hl0 : -9223372036854775808 ≤ line) (hl1 : line ≤ 9223372036854775807) (hc0 : -9223372036854775808 ≤ col) (hc1 : col ≤ 9223372036854775807) (HT : Hid (TabOk w)) :
    Calls Tryd.prog 3 #[.string s, .int .i64 k, .agg #[.int .i64 line, .int .i64 col], .int .i64 e] w fun r w' => r = .returned (.bool true) ∧ Below w.heap.size w w' := by
  have HK : Hid (∀ W, Below w.heap.size w W → Calls Tryd.prog 5 #[] W fun r w' => r = .returned (.bool true) ∧ Below W.heap.size W w') := fun W hb => known_any W (HT.out.on hb)
  by_cases hs : s.size ≤ 400
  · have hs' : ¬ (400 : Int) < (s.size : Int) := by omega
    have HA1 : Hid (∀ W, Calls Tryd.prog 6 #[.string s, .agg #[.int .i64 line, .int .i64 col]] W (AtPost s line col W)) := fun W => at_any s line col W hs hl0 hl1 hc0 hc1
    have HA2 : Hid (∀ W, Calls Tryd.prog 7 #[.string s, .agg #[.int .i64 line, .int .i64 col]] W (AtPost s line col W)) := fun W => refAt_any s line col W hs
    obtain ⟨⟨a, b⟩, hp⟩ : ∃ p, whereP s.data.toList k = p := ⟨_, rfl⟩
    have HW1 : Hid (∀ W, Calls Tryd.prog 8 #[.string s, .int .i64 k] W fun r w' => r = .returned (.agg #[.int .i64 (a : Int), .int .i64 (b : Int)]) ∧ Below W.heap.size W w') := fun W => by
      have := where_any s k W hs
      rw [hp] at this
      exact this
    have HW2 : Hid (∀ W, Calls Tryd.prog 9 #[.string s, .int .i64 k] W fun r w' => r = .returned (.agg #[.int .i64 (a : Int), .int .i64 (b : Int)]) ∧ Below W.heap.size W w') := fun W => by
      have := refWhere_any s k W hs
      rw [hp] at this
      exact this
    obtain ⟨f0, f1, f2, hf⟩ : ∃ f0 f1 f2 : Int, faultV s k e = .agg #[.int .i64 f0, .int .i64 f1, .int .i64 f2] := by
      unfold faultV
      by_cases h : e = 0
      · exact ⟨0, 0, 0, by rw [if_pos h]⟩
      · exact ⟨_, _, _, by rw [if_neg h]⟩
    have HF1 : Hid (∀ W, Calls Tryd.prog 10 #[.string s, .int .i64 k, .int .i64 e] W fun r w' => r = .returned (.agg #[.int .i64 f0, .int .i64 f1, .int .i64 f2]) ∧ Below W.heap.size W w') := fun W => by
      have := fault_any s k e W hs
      rw [hf] at this
      exact this
    have HF2 : Hid (∀ W, Calls Tryd.prog 11 #[.string s, .int .i64 k, .int .i64 e] W fun r w' => r = .returned (.agg #[.int .i64 f0, .int .i64 f1, .int .i64 f2]) ∧ Below W.heap.size W w') := fun W => by
      have := refFault_any s k e W hs
      rw [hf] at this
      exact this
    obtain ⟨sb, hsb⟩ : ∃ sb, sayB e line col = sb := ⟨_, rfl⟩
    obtain ⟨wb, hwb⟩ : ∃ wb, wordB e = wb := ⟨_, rfl⟩
    have HS1 : Hid (∀ W, Below w.heap.size w W → Calls Tryd.prog 12 #[.agg #[.int .i64 e, .int .i64 line, .int .i64 col]] W fun r w' => r = .returned (.string sb) ∧ Below W.heap.size W w') := fun W hb => hsb ▸ say_any e line col W hl0 hl1 hc0 hc1 (HT.out.on hb)
    have HS2 : Hid (∀ W, Calls Tryd.prog 13 #[.agg #[.int .i64 e, .int .i64 line, .int .i64 col]] W fun r w' => r = .returned (.string sb) ∧ Below W.heap.size W w') := fun W => hsb ▸ refSay_any e line col W hl0 hl1 hc0 hc1
    have HD1 : Hid (∀ W, Calls Tryd.prog 14 #[.int .i64 e] W fun r w' => r = .returned (.string wb) ∧ Below W.heap.size W w') := fun W => hwb ▸ word_any e W
    have HD2 : Hid (∀ W, Calls Tryd.prog 15 #[.int .i64 e] W fun r w' => r = .returned (.string wb) ∧ Below W.heap.size W w') := fun W => hwb ▸ refWord_any e W
    have e1 := fun W => eq_place1 (a : Int) (b : Int) W
    have e2 := fun W => eq_fault f0 f1 f2 W
    clear hl0 hl1 hc0 hc1 hp hf hsb hwb hs
    go_enter Tryd.func3, Tryd.ntmps3
    go_wp2_with (first
      | (go_at_call 6; refine (HA1.out _).mono ?_; rintro r w1 ⟨x, ok, rfl, ha1, hb1⟩; have HB1 := Lib.hid (((Below.refl _ _).alloc (Nat.le_refl _) (.cells #[.int .i64 line, .int .i64 col] 23)).trans (hb1.mono (by simp)) : Below w.heap.size w w1); have h1 := (hb1.block w.heap.size (by simp)).trans (heap_one w _); have H1 := Lib.hid h1; have c0 : w1.cell? ⟨w.heap.size, 0, none⟩ = some (.int .i64 line) := (by simp [World.cell?, h1]); have c1 : w1.cell? ⟨w.heap.size, 1, none⟩ = some (.int .i64 col) := (by simp [World.cell?, h1]); clear h1 hb1)
      | (go_at_call 7; refine (HA2.out _).mono ?_; rintro r w2 ⟨y, is, rfl, ha2, hb2⟩; obtain ⟨rfl, rfl⟩ := AtR.uniq ha1 ha2; have HB2 := Lib.hid (HB1.out.trans (hb2.mono HB1.out.size)); have h2 := (hb2.block w.heap.size (lt_of_block H1.out)).trans H1.out; have d0 : w2.cell? ⟨w.heap.size, 0, none⟩ = some (.int .i64 line) := (by simp [World.cell?, h2]); have d1 : w2.cell? ⟨w.heap.size, 1, none⟩ = some (.int .i64 col) := (by simp [World.cell?, h2]); have lz : w.heap.size < w2.heap.size := lt_of_block h2; clear h2 hb2 ha1 ha2))
    have hbx : Below w.heap.size w (w2.alloc (.cells #[.int .i64 e, .int .i64 line, .int .i64 col] 29)) := HB2.out.alloc HB2.out.size _
    have hx : Hid (Below w.heap.size w (w2.alloc (.cells #[.int .i64 e, .int .i64 line, .int .i64 col] 29)).drew ∧ (w2.alloc (.cells #[.int .i64 e, .int .i64 line, .int .i64 col] 29)).drew.cell? ⟨w2.heap.size, 0, none⟩ = some (.int .i64 e) ∧ (w2.alloc (.cells #[.int .i64 e, .int .i64 line, .int .i64 col] 29)).drew.cell? ⟨w2.heap.size, 1, none⟩ = some (.int .i64 line) ∧ (w2.alloc (.cells #[.int .i64 e, .int .i64 line, .int .i64 col] 29)).drew.cell? ⟨w2.heap.size, 2, none⟩ = some (.int .i64 col)) :=
      ⟨below_drewN hbx 1, by simp [go_sem], by simp [go_sem], by simp [go_sem]⟩
    clear hbx HA1 HA2 HB1 HB2 H1 c0 c1 d0 d1 lz
    go_region_held3 (fun Wk => Below (w.heap.size) (w) Wk ∧ Wk.cell? ⟨w2.heap.size, 0, none⟩ = some (.int .i64 e) ∧ Wk.cell? ⟨w2.heap.size, 1, none⟩ = some (.int .i64 line) ∧ Wk.cell? ⟨w2.heap.size, 2, none⟩ = some (.int .i64 col))
      (first | exact hx.out | exact held_3_0 hb1 (by assumption) | assumption)
      (first
      | (go_at_call 8; (with_reducible refine (HW1.out _).mono ?_); rintro r w1 ⟨rfl, hb1⟩)
      | (go_at_call 9; (with_reducible refine (HW2.out _).mono ?_); rintro r w1 ⟨rfl, hb1⟩)
      | (go_at_call 10; (with_reducible refine (HF1.out _).mono ?_); rintro r w1 ⟨rfl, hb1⟩)
      | (go_at_call 11; (with_reducible refine (HF2.out _).mono ?_); rintro r w1 ⟨rfl, hb1⟩)
      | (go_at_call 12; (with_reducible refine (HS1.out _ (And.left (by assumption))).mono ?_); rintro r w1 ⟨rfl, hb1⟩)
      | (go_at_call 13; (with_reducible refine (HS2.out _).mono ?_); rintro r w1 ⟨rfl, hb1⟩)
      | (go_at_call 14; (with_reducible refine (HD1.out _).mono ?_); rintro r w1 ⟨rfl, hb1⟩)
      | (go_at_call 15; (with_reducible refine (HD2.out _).mono ?_); rintro r w1 ⟨rfl, hb1⟩)
      | (go_at_call 5; (with_reducible refine (HK.out _ (And.left (by assumption))).mono ?_); rintro r w1 ⟨rfl, hb1⟩))
    rename_i hS
    have HB := Lib.hid hS.1
    clear hS
    go_wp2_with fail
    exact bodyPost_ret (v := .bool true) (by simp [results, Tryd.results3, go_sem]) rfl ⟨rfl, HB.out⟩
  · have hs' : (400 : Int) < (s.size : Int) := by omega
    go_enter Tryd.func3, Tryd.ntmps3
    have hbx : Below w.heap.size w (w.alloc (.cells #[.int .i64 line, .int .i64 col] 23)) := (Below.refl _ _).alloc (Nat.le_refl _) _
    have HBX := Lib.hid hbx
    clear hbx
    go_wp2_with (first
      | (go_at_call 5; (with_reducible refine (HK.out _ HBX.out).mono ?_); rintro r w1 ⟨rfl, hb1⟩))
    exact bodyPost_ret (v := .bool true) (by simp [results, Tryd.results3, go_sem]) rfl ⟨rfl, HBX.out.trans (hb1.mono HBX.out.size)⟩

end Go.Proofs.YtnahjgiihddofaaDoor
