/-
  The page's examples of layer 17 answer true.
-/
import Derived.Test.YtlihbbeodclncaaKnown17
namespace Go.Proofs.Ytlihbbeodclncaa
open Go.RowKit

theorem refOf_val (n : Nat) (hn : n < B) : Value.agg #[.int .u64 0, .int .u64 (n : Int)] = numV n := numOf_val n hn

set_option maxHeartbeats 400000 in
theorem refOf_any (n : Nat) (hn : n < B) (w : World) :
    Calls Try.prog 44 #[.int .u64 (n : Int)] w (RetNum w n) := by
  have H := Lib.hid (numOf_val n hn); clear hn
  go_enter Try.func44, Try.ntmps44
  go_wp2
  exact bodyPost_ret (v := .agg #[.int .u64 0, .int .u64 (n : Int)]) (by simp [results, Try.results44, go_sem]) rfl ⟨by rw [H.out], (by repeat (first | exact Below.refl _ _ | assumption | refine Below.drew ?_ | refine Below.alloc ?_ (by first | omega | (simp <;> omega)) _ | refine Below.setCell ?_ (by first | omega | (simp <;> omega)) _ | refine Below.trans ?_ (Below.mono (by assumption) (by first | omega | (simp <;> omega)))))⟩

theorem refOf_five (w : World) : Calls Try.prog 44 #[.int .u64 5] w (RetNum w 5) := refOf_any 5 (by unfold B; omega) w

theorem IVec.lit3 (W : World) (a b c : Int) (t : TypeId) : IVec (W.alloc (.cells #[.int .i64 a, .int .i64 b, .int .i64 c] t)) (.slice (some ⟨W.heap.size, 0, none⟩) 3 3) [a, b, c] := by
  refine ⟨some ⟨W.heap.size, 0, none⟩, 3, rfl, by simp, by unfold maxLen; omega, fun _ => ⟨W.heap.size, 0, rfl, by simp, fun i hi => ?_⟩⟩
  simp at hi
  match i, hi with
  | 0, _ => simp [go_sem]
  | 1, _ => simp [go_sem]
  | 2, _ => simp [go_sem]

theorem constBits_five : constBits 5 (max 0 (min (3 : Int) 256)).toNat = [1, 0, 1] := by decide +kernel
theorem eval_five : evalN (fun k => [(1 : Int), 0, 1].getD k 0 == 1) [(1 : Int), 0, 1].length = 5 := by decide +kernel
theorem five_val : numV 5 = .agg #[.int .u64 0, .int .u64 5] := by kernel_rfl

set_option maxHeartbeats 800000 in
theorem known17_true (w : World) : Calls Try.prog 16 #[] w fun e w' => e = .returned (.bool true) ∧ Below w.heap.size w w' := by
  have HN : Hid (∀ W, Calls Try.prog 6 #[.int .i64 2] W fun e w' => e = .returned (.tuple #[.pointer (some ⟨W.heap.size + 2, 0, none⟩), .int .i64 0]) ∧ newWorld W 2 = w') := fun W => new_ok 2 W (by omega) (by omega)
  have HC : Hid (∀ W, Calls Try.prog 43 #[numV 5, .int .i64 3] W (RetVec W [1, 0, 1])) := fun W => constBits_five ▸ const_any 5 3 W (by unfold B; omega)
  have H5 := Lib.hid five_val
  go_enter Try.func16, Try.ntmps16
  go_wp2_with fail
  refine (HN.out _).mono ?_
  rintro e w1 ⟨rfl, hw1⟩
  have hB1 : Below w.heap.size w w1 := by rw [← hw1]; unfold newWorld; exact (by repeat (first | exact Below.refl _ _ | assumption | refine Below.drew ?_ | refine Below.alloc ?_ (by first | omega | (simp <;> omega)) _ | refine Below.setCell ?_ (by first | omega | (simp <;> omega)) _ | refine Below.trans ?_ (Below.mono (by assumption) (by first | omega | (simp <;> omega)))))
  have c0 : w1.cell? ⟨w.heap.size + 2, 0, none⟩ = some (.int .i64 2) := by rw [← hw1]; simp [newWorld, newCells, go_sem]
  have c1 : w1.cell? ⟨w.heap.size + 2, 1, none⟩ = some (.slice none 0 0) := by rw [← hw1]; simp [newWorld, newCells, go_sem]
  have hs1 : w.heap.size + 2 < w1.heap.size := by rw [← hw1]; simp [newWorld]
  clear hw1
  go_wp2_with fail
  refine (refOf_five _).mono ?_
  rintro e w2 ⟨rfl, hb2⟩
  go_wp2_with fail
  refine (HC.out _).mono ?_
  rintro e w3 ⟨v, rfl, hv, hb3⟩
  have hB3 : Below w1.heap.size w1 w3 := hb2.trans (hb3.mono hb2.size)
  have hs3 : w1.heap.size ≤ w3.heap.size := hB3.size
  go_wp2_with fail
  refine (is_two (w.heap.size + 2) v [1, 0, 1] 2 none 0 0 _ hv (by simp) ?_ (by omega) ?_ rfl ?_ (by omega)).mono ?_
  · intro k hk
    simp at hk
    match k, hk with
    | 0, _ => simp
    | 1, _ => simp
    | 2, _ => simp
  · rw [hB3.cell (p := ⟨w.heap.size + 2, 0, none⟩) hs1]; exact c0
  · rw [hB3.cell (p := ⟨w.heap.size + 2, 1, none⟩) hs1]; exact c1
  rintro e w4 ⟨rfl, hb4⟩
  rw [eval_five, H5.out]
  have hs4 := hb4.size
  clear c0 c1
  go_wp2_with fail
  have hv5 : IVec (w4.alloc (.cells #[.int .u64 0, .int .u64 5] 26)) v [1, 0, 1] := (hv.below hb4).below (by repeat (first | exact Below.refl _ _ | assumption | refine Below.drew ?_ | refine Below.alloc ?_ (by first | omega | (simp <;> omega)) _ | refine Below.setCell ?_ (by first | omega | (simp <;> omega)) _ | refine Below.trans ?_ (Below.mono (by assumption) (by first | omega | (simp <;> omega)))))
  have hB5 : Below w.heap.size w (w4.alloc (.cells #[.int .u64 0, .int .u64 5] 26)) := (hB1.trans ((hB3.trans (hb4.mono hs3)).mono hB1.size)).alloc (by omega) _
  have HV := Lib.hid hv5; clear hv5
  have HB := Lib.hid hB5; clear hB5
  clear hB1 hB3 hb4 hb2 hb3 hv
  generalize hX : w4.alloc (.cells #[.int .u64 0, .int .u64 5] 26) = X at HV HB ⊢
  have x0 : X.cell? ⟨w4.heap.size, 0, none⟩ = some (.int .u64 0) := by rw [← hX]; simp [go_sem]
  have x1 : X.cell? ⟨w4.heap.size, 1, none⟩ = some (.int .u64 5) := by rw [← hX]; simp [go_sem]
  have hsx : w4.heap.size < X.heap.size := by rw [← hX]; simp
  clear hX
  go_region_with (first
    | (go_at_call 25; refine (same_any _ _ [1, 0, 1] [1, 0, 1] _ (HV.out.below ?_) (IVec.below (IVec.lit3 X 1 0 1 3) ((Below.refl _ _).drew)) rfl (by simp) rfl).mono ?_; exact (by repeat (first | exact Below.refl _ _ | assumption | refine Below.drew ?_ | refine Below.alloc ?_ (by first | omega | (simp <;> omega)) _ | refine Below.setCell ?_ (by first | omega | (simp <;> omega)) _ | refine Below.trans ?_ (Below.mono (by assumption) (by first | omega | (simp <;> omega))))); rintro e w6 ⟨rfl, hb6⟩; have hX6 : Below X.heap.size X w6 := (((Below.refl X.heap.size X).alloc (Nat.le_refl _) _).drew).trans (hb6.mono (by simp)); have x60 : w6.cell? ⟨w4.heap.size, 0, none⟩ = some (.int .u64 0) := (hX6.cell hsx).trans x0; have x61 : w6.cell? ⟨w4.heap.size, 1, none⟩ = some (.int .u64 5) := (hX6.cell hsx).trans x1; clear hb6)
    | (go_at_call 44; refine (refOf_five _).mono ?_; rintro e w7 ⟨rfl, hb7⟩; rw [H5.out]; have x70 : w7.cell? ⟨w4.heap.size, 0, none⟩ = some (.int .u64 0) := (hb7.cell (Nat.lt_of_lt_of_le hsx hX6.size)).trans x60; have x71 : w7.cell? ⟨w4.heap.size, 1, none⟩ = some (.int .u64 5) := (hb7.cell (Nat.lt_of_lt_of_le hsx hX6.size)).trans x61; have hX7 : Below X.heap.size X w7 := hX6.trans (hb7.mono hX6.size); clear hb7))
  all_goals go_wp2_with fail
  all_goals go_ret
  all_goals exact ⟨rfl, HB.out.trans (hX7.mono HB.out.size)⟩

end Go.Proofs.Ytlihbbeodclncaa
