/-
  Layer 1: the page's examples.
-/
import Derived.Test.YtfalhemeiengcaaDoorNumText
import Derived.Test.YtfalhemeiengcaaDoorHeldT
import Derived.Deep.RegionHeld3
namespace Go.Proofs.YtfalhemeiengcaaDoor
open Go.RowKit Go.Maps Go.Lib

theorem all16 : AllDig D16 ⟨#[102, 102]⟩ := by unfold AllDig; decide
theorem all10 : AllDig D10 ⟨#[51, 52, 48, 50, 56, 50, 51, 54, 54, 57, 50, 48, 57, 51, 56, 52, 54, 51, 52, 54, 51, 51, 55, 52, 54, 48, 55, 52, 51, 49, 55, 54, 56, 50, 49, 49, 52, 53, 54]⟩ := by unfold AllDig; decide
theorem parse_ff (w : World) : Calls Tryd.prog 7 #[.string ⟨#[48, 120, 102, 70]⟩] w fun e w' => e = .returned (.tuple #[.agg #[.int .u64 0, .int .u64 255], .int .i64 0]) ∧ Below w.heap.size w w' := by
  have := parse_hex ⟨#[48, 120, 102, 70]⟩ ⟨#[102, 102]⟩ w (by decide) (by decide) (by decide) (ascii_of_all (l := [102, 70]) (by decide)) (by decide) (by decide) (by decide) all16
  rw [show parseV 16 D16 ⟨#[102, 102]⟩ = .tuple #[.agg #[.int .u64 0, .int .u64 255], .int .i64 0] by kernel_rfl] at this
  exact this
theorem parse_big (w : World) : Calls Tryd.prog 7 #[.string ⟨#[51, 52, 48, 50, 56, 50, 51, 54, 54, 57, 50, 48, 57, 51, 56, 52, 54, 51, 52, 54, 51, 51, 55, 52, 54, 48, 55, 52, 51, 49, 55, 54, 56, 50, 49, 49, 52, 53, 54]⟩] w fun e w' => e = .returned (.tuple #[.agg #[.int .u64 0, .int .u64 0], .int .i64 5]) ∧ Below w.heap.size w w' := by
  have := parse_dec ⟨#[51, 52, 48, 50, 56, 50, 51, 54, 54, 57, 50, 48, 57, 51, 56, 52, 54, 51, 52, 54, 51, 51, 55, 52, 54, 48, 55, 52, 51, 49, 55, 54, 56, 50, 49, 49, 52, 53, 54]⟩ w (by decide) (by decide) (by decide) (by decide) all10
  rw [show parseV 10 D10 ⟨#[51, 52, 48, 50, 56, 50, 51, 54, 54, 57, 50, 48, 57, 51, 56, 52, 54, 51, 52, 54, 51, 51, 55, 52, 54, 48, 55, 52, 51, 49, 55, 54, 56, 50, 49, 49, 52, 53, 54]⟩ = .tuple #[.agg #[.int .u64 0, .int .u64 0], .int .i64 5] by kernel_rfl] at this
  exact this
theorem of_known (n : Nat) (h : n < B) (w : World) : Calls Tryd.prog 15 #[.int .u64 (n : Int)] w fun e w' => e = .returned (.agg #[.int .u64 0, .int .u64 (n : Int)]) ∧ Below w.heap.size w w' := by
  have := numOf_any n h w
  unfold RetNum numV at this
  rw [Nat.div_eq_of_lt h, Nat.mod_eq_of_lt h] at this
  exact this
theorem sub_known (w : World) : Calls Tryd.prog 13 #[.agg #[.int .u64 0, .int .u64 0], .agg #[.int .u64 0, .int .u64 1], .int .i64 8] w fun e w' => e = .returned (.agg #[.int .u64 0, .int .u64 255]) ∧ Below w.heap.size w w' := by
  have := numSub_any 0 1 8 w (by unfold B; decide) (by unfold B; decide)
  unfold RetNum at this
  rw [show numV 0 = .agg #[.int .u64 0, .int .u64 0] by kernel_rfl, show numV 1 = .agg #[.int .u64 0, .int .u64 1] by kernel_rfl, show numV ((0 + (B * B - 1)) % (B * B) % 2 ^ sh 8) = .agg #[.int .u64 0, .int .u64 255] by kernel_rfl] at this
  exact this
theorem eq_num (x y : Int) (W : World) : (Go.binOp .eql 24 (.agg #[.int .u64 x, .int .u64 y]) (.agg #[.int .u64 x, .int .u64 y])).run Tryd.prog W = .ok (.bool true) W := by
  simp [go_sem]

set_option maxRecDepth 100000 in
set_option maxHeartbeats 8000000 in
theorem known01 (w : World) : Calls Tryd.prog 6 #[] w fun e w' => e = .returned (.bool true) ∧ Below w.heap.size w w' := by
  have H1 := Lib.hid parse_ff
  have H2 := Lib.hid parse_none
  have H3 := Lib.hid parse_big
  have H4 := Lib.hid text_one
  have H5 := Lib.hid sub_known
  have O255 : Hid (∀ W, Calls Tryd.prog 15 #[.int .u64 255] W fun e w' => e = .returned (.agg #[.int .u64 0, .int .u64 255]) ∧ Below W.heap.size W w') := fun W => of_known 255 (by unfold B; decide) W
  have O0 : Hid (∀ W, Calls Tryd.prog 15 #[.int .u64 0] W fun e w' => e = .returned (.agg #[.int .u64 0, .int .u64 0]) ∧ Below W.heap.size W w') := fun W => of_known 0 (by unfold B; decide) W
  have O1 : Hid (∀ W, Calls Tryd.prog 15 #[.int .u64 1] W fun e w' => e = .returned (.agg #[.int .u64 0, .int .u64 1]) ∧ Below W.heap.size W w') := fun W => of_known 1 (by unfold B; decide) W
  have e1 := fun W => eq_num 0 255 W
  go_enter Tryd.func6, Tryd.ntmps6
  go_wp2_with (first
    | (go_at_call 7; (with_reducible refine (H1.out _).mono ?_); rintro e w1 ⟨rfl, hb1⟩)
    | (go_at_call 7; (with_reducible refine (H2.out _).mono ?_); rintro e w2 ⟨rfl, hb2⟩)
    | (go_at_call 7; (with_reducible refine (H3.out _).mono ?_); rintro e w3 ⟨rfl, hb3⟩))
  have y1 := (hb2.block w1.heap.size (by simp)).trans (heap_new w1 _)
  have l1 := lt_of_block y1
  have y2 := (hb3.block w1.heap.size (by simp; omega)).trans ((Below.heap_alloc _ _ _ l1).trans y1)
  have l2 := lt_of_block y2
  have y3 := (Below.heap_alloc w3 (.cells #[.int .u64 0, .int .u64 0] 24) _ l2).trans y2
  have b1 : Below w.heap.size w (w1.alloc (.cells #[.int .u64 0, .int .u64 255] 24)) := hb1.alloc hb1.size _
  have b2 : Below w.heap.size w (w2.alloc (.cells #[.int .u64 0, .int .u64 0] 24)) := (b1.trans (hb2.mono b1.size)).alloc (b1.trans (hb2.mono b1.size)).size _
  have b3 : Below w.heap.size w (w3.alloc (.cells #[.int .u64 0, .int .u64 0] 24)) := (b2.trans (hb3.mono b2.size)).alloc (b2.trans (hb3.mono b2.size)).size _
  have hx : Hid (Below w.heap.size w (w3.alloc (.cells #[.int .u64 0, .int .u64 0] 24)).drew ∧ (w3.alloc (.cells #[.int .u64 0, .int .u64 0] 24)).drew.cell? ⟨w1.heap.size, 0, none⟩ = some (.int .u64 0) ∧ (w3.alloc (.cells #[.int .u64 0, .int .u64 0] 24)).drew.cell? ⟨w1.heap.size, 1, none⟩ = some (.int .u64 255)) := ⟨below_drewN b3 1, by
      show (w3.alloc _).cell? _ = _
      simp [World.cell?, y3], by
      show (w3.alloc _).cell? _ = _
      simp [World.cell?, y3]⟩
  clear y1 l1 y2 l2 y3 b1 b2 b3 hb1 hb2 hb3 H1 H2 H3
  go_region_held3 (fun Wk => Below (w.heap.size) (w) Wk ∧ Wk.cell? ⟨w1.heap.size, 0, none⟩ = some (.int .u64 0) ∧ Wk.cell? ⟨w1.heap.size, 1, none⟩ = some (.int .u64 255))
    (first | exact hx.out | exact held_2_0 hb1 (by assumption) | assumption)
    (first
    | (go_at_call 15; (with_reducible refine (O255.out _).mono ?_); rintro e w9 ⟨rfl, hb1⟩)
    | (go_at_call 15; (with_reducible refine (O0.out _).mono ?_); rintro e w9 ⟨rfl, hb1⟩)
    | (go_at_call 15; (with_reducible refine (O1.out _).mono ?_); rintro e w9 ⟨rfl, hb1⟩)
    | (go_at_call 8; (with_reducible refine (H4.out _).mono ?_); rintro e w9 ⟨rfl, hb1⟩)
    | (go_at_call 13; (with_reducible refine (H5.out _).mono ?_); rintro e w9 ⟨rfl, hb1⟩))
  rename_i hS
  have HB := Lib.hid hS.1
  clear hS
  go_wp2_with fail
  exact bodyPost_ret (v := .bool true) (by simp [results, Tryd.results6, go_sem]) rfl ⟨rfl, HB.out⟩

end Go.Proofs.YtfalhemeiengcaaDoor
