/-
  Layer 2: the page's examples.
-/
import Derived.Test.YtnahjgiihddofaaDoorTextB
namespace Go.Proofs.YtnahjgiihddofaaDoor
open Go.RowKit Go.Lib

/-- The table of the powers of ten, whatever is made. -/
def TabOk (w : World) : Prop := TabBelow Tryd.prog w.heap.size w "internal/strconv.uint64pow10" .u64 pow10Tab
theorem TabOk.on {w W : World} (h : TabOk w) (hb : Below w.heap.size w W) : TabOk W := fun w' h' => h w' (hb.trans (h'.mono hb.size))

theorem say_known : sayB 4 2 1 = ⟨#[108, 105, 110, 101, 32, 50, 32, 99, 111, 108, 117, 109, 110, 32, 49, 58, 32, 102, 111, 114, 109]⟩ := by
  unfold sayB
  rw [if_neg (by decide), decB_pos (by decide), decB_pos (by decide), digB_small (by decide), digB_small (by decide)]
  decide

set_option maxRecDepth 100000 in
set_option maxHeartbeats 2000000 in
theorem known_any (w : World) (HT : Hid (TabOk w)) : Calls Tryd.prog 5 #[] w fun r w' => r = .returned (.bool true) ∧ Below w.heap.size w w' := by
  have H1 : Hid (∀ W, Calls Tryd.prog 8 #[.string ⟨#[97, 10, 98, 99]⟩, .int .i64 3] W fun r w' => r = .returned (.agg #[.int .i64 2, .int .i64 2]) ∧ Below W.heap.size W w') := fun W => where_any ⟨#[97, 10, 98, 99]⟩ 3 W (by decide)
  have H2 : Hid (∀ W, Calls Tryd.prog 8 #[.string ⟨#[97, 10]⟩, .int .i64 1] W fun r w' => r = .returned (.agg #[.int .i64 1, .int .i64 2]) ∧ Below W.heap.size W w') := fun W => where_any ⟨#[97, 10]⟩ 1 W (by decide)
  have H3 : Hid (∀ W, Calls Tryd.prog 8 #[.string ⟨#[97, 10]⟩, .int .i64 2] W fun r w' => r = .returned (.agg #[.int .i64 2, .int .i64 1]) ∧ Below W.heap.size W w') := fun W => where_any ⟨#[97, 10]⟩ 2 W (by decide)
  have H4 : Hid (∀ W, Calls Tryd.prog 10 #[.string ⟨#[97, 10]⟩, .int .i64 2, .int .i64 4] W fun r w' => r = .returned (.agg #[.int .i64 4, .int .i64 2, .int .i64 1]) ∧ Below W.heap.size W w') := fun W => fault_any ⟨#[97, 10]⟩ 2 4 W (by decide)
  have H5 : Hid (∀ W, Below w.heap.size w W → Calls Tryd.prog 12 #[.agg #[.int .i64 4, .int .i64 2, .int .i64 1]] W fun r w' => r = .returned (.string ⟨#[108, 105, 110, 101, 32, 50, 32, 99, 111, 108, 117, 109, 110, 32, 49, 58, 32, 102, 111, 114, 109]⟩) ∧ Below W.heap.size W w') := fun W hb => by
    have := say_any 4 2 1 W (by decide) (by decide) (by decide) (by decide) (HT.out.on hb)
    rw [say_known] at this
    exact this
  have e1 := fun W => eq_place 2 2 2 2 W
  have e2 := fun W => eq_place 1 2 1 2 W
  have e3 := fun W => eq_place 2 1 2 1 W
  simp only [decide_true, Bool.and_true] at e1 e2 e3
  go_enter Tryd.func5, Tryd.ntmps5
  go_wp2_with (first
    | (go_at_call 8; (with_reducible refine (H1.out _).mono ?_); rintro r w1 ⟨rfl, hb1⟩)
    | (go_at_call 8; (with_reducible refine (H2.out _).mono ?_); rintro r w2 ⟨rfl, hb2⟩)
    | (go_at_call 8; (with_reducible refine (H3.out _).mono ?_); rintro r w3 ⟨rfl, hb3⟩)
    | (go_at_call 10; (with_reducible refine (H4.out _).mono ?_); rintro r w4 ⟨rfl, hb4⟩; have h12 : Below w.heap.size w w2 := (hb1.trans (hb2.mono hb1.size)); have h13 := h12.trans (hb3.mono h12.size); have h14 : Below w.heap.size w w4 := h13.trans (hb4.mono h13.size); have HB4 := Lib.hid h14; clear h12 h13 h14)
    | (go_at_call 12; (with_reducible refine (H5.out _ HB4.out).mono ?_); rintro r w5 ⟨rfl, hb5⟩))
  exact bodyPost_ret (v := .bool true) (by simp [results, Tryd.results5, go_sem]) rfl ⟨rfl, HB4.out.trans (hb5.mono HB4.out.size)⟩

end Go.Proofs.YtnahjgiihddofaaDoor
