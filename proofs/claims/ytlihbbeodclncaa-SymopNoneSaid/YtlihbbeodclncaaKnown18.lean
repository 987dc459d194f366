/-
  The page's examples of layer 18 answer true.
-/
import Derived.Test.YtlihbbeodclncaaCmpK
import Derived.Test.YtlihbbeodclncaaKnown17
namespace Go.Proofs.Ytlihbbeodclncaa
open Go.RowKit Go.Maps

theorem lit2 (w : World) (a b : Int) (t : TypeId) : IVec (w.alloc (.cells #[.int .i64 a, .int .i64 b] t)) (.slice (some ⟨w.heap.size, 0, none⟩) 2 2) [a, b] := by
  refine ⟨some ⟨w.heap.size, 0, none⟩, 2, rfl, by simp, by unfold maxLen; omega, fun _ => ⟨w.heap.size, 0, rfl, by simp, fun i hi => ?_⟩⟩
  simp at hi
  match i, hi with
  | 0, _ => simp [go_sem]
  | 1, _ => simp [go_sem]

theorem bits_two (a b : Int) (ha : Bit01 a) (hb : Bit01 b) (k : Nat) : Bit01 ([a, b].getD k 0) := by
  match k with
  | 0 => exact ha
  | 1 => exact hb
  | k + 2 => exact .inl rfl
theorem sum_21 : sumL (pairAt [0, 1] [1, 0]) 0 (max ([0, 1] : List Int).length ([1, 0] : List Int).length) = [1, 1] := by decide +kernel
theorem less_21 : lessAt (pairAt [0, 1] [1, 0]) (max ([0, 1] : List Int).length ([1, 0] : List Int).length) = 0 := by decide +kernel
theorem less_12 : lessAt (pairAt [1, 0] [0, 1]) (max ([1, 0] : List Int).length ([0, 1] : List Int).length) = 1 := by decide +kernel

theorem new_live (w : World) (c : Nat) (h0 : 2 ≤ c) (h1 : c ≤ 1048576) : Live (newWorld w c) (.pointer (some ⟨w.heap.size + 2, 0, none⟩)) :=
  ⟨w.heap.size + 2, c, 0, 0, none, rfl, by simp [newWorld, newCells, go_sem], by simp [newWorld, newCells, go_sem], by simp [newWorld, newCells, go_sem], h0, h1, by omega⟩

set_option maxHeartbeats 1600000 in
theorem known18_true (w : World) : Calls Try.prog 5 #[] w fun e w' => e = .returned (.bool true) ∧ Below w.heap.size w w' := by
  have HN : Hid (∀ W, Calls Try.prog 6 #[.int .i64 2] W fun e w' => e = .returned (.tuple #[.pointer (some ⟨W.heap.size + 2, 0, none⟩), .int .i64 0]) ∧ newWorld W 2 = w') := fun W => new_ok 2 W (by omega) (by omega)
  go_enter Try.func5, Try.ntmps5
  go_wp2_with fail
  refine (HN.out _).mono ?_
  rintro e w1 ⟨rfl, hw1⟩
  have hB1 : Below w.heap.size w w1 := by rw [← hw1]; unfold newWorld; exact (by repeat (first | exact Below.refl _ _ | assumption | refine Below.drew ?_ | refine Below.alloc ?_ (by first | omega | (simp <;> omega)) _ | refine Below.setCell ?_ (by first | omega | (simp <;> omega)) _ | refine Below.trans ?_ (Below.mono (by assumption) (by first | omega | (simp <;> omega)))))
  have hL : Live w1 (.pointer (some ⟨w.heap.size + 2, 0, none⟩)) := hw1 ▸ new_live w 2 (by omega) (by omega)
  have HB1 := Lib.hid hB1
  have HL := Lib.hid hL
  clear hw1 hB1 hL
  go_wp2_with fail
  obtain ⟨X, hX⟩ : ∃ X, X = (w1.alloc (.cells #[.int .i64 0, .int .i64 1] 3)).alloc (.cells #[.int .i64 1, .int .i64 0] 3) := ⟨_, rfl⟩
  have hBX : Below w1.heap.size w1 X := by rw [hX]; exact (by repeat (first | exact Below.refl _ _ | assumption | refine Below.drew ?_ | refine Below.alloc ?_ (by first | omega | (simp <;> omega)) _ | refine Below.setCell ?_ (by first | omega | (simp <;> omega)) _ | refine Below.trans ?_ (Below.mono (by assumption) (by first | omega | (simp <;> omega)))))
  have HT : Hid (IVec X (.slice (some ⟨w1.heap.size, 0, none⟩) 2 2) [0, 1]) := by
    rw [hX]; exact (lit2 w1 0 1 _).below (by repeat (first | exact Below.refl _ _ | assumption | refine Below.drew ?_ | refine Below.alloc ?_ (by first | omega | (simp <;> omega)) _ | refine Below.setCell ?_ (by first | omega | (simp <;> omega)) _ | refine Below.trans ?_ (Below.mono (by assumption) (by first | omega | (simp <;> omega)))))
  have HO : Hid (IVec X (.slice (some ⟨w1.heap.size + 1, 0, none⟩) 2 2) [1, 0]) := by
    rw [hX]; have h := lit2 (w1.alloc (.cells #[.int .i64 0, .int .i64 1] 3)) 1 0 3; refine Lib.hid ?_; simpa using h
  have HS : Hid (∀ W, Below X.heap.size X W → Live W (.pointer (some ⟨w.heap.size + 2, 0, none⟩))) := fun W hW => (HL.out.below hBX).below hW
  have HW : Hid (Below w.heap.size w X) := HB1.out.trans (hBX.mono HB1.out.size)
  have HA : Hid (Calls Try.prog 8 #[.pointer (some ⟨w.heap.size + 2, 0, none⟩), .slice (some ⟨w1.heap.size, 0, none⟩) 2 2, .slice (some ⟨w1.heap.size + 1, 0, none⟩) 2 2] X (RetVec X [1, 1])) := by
    have h := add_k _ _ [0, 1] [1, 0] X (bits_two 0 1 bit0 bit1) (bits_two 1 0 bit1 bit0) (HS.out X (Below.refl _ _)) HT.out HO.out (by simp) (by simp)
    rw [sum_21] at h
    exact h
  have HL1 : Hid (∀ W, Below X.heap.size X W → Calls Try.prog 12 #[.pointer (some ⟨w.heap.size + 2, 0, none⟩), .slice (some ⟨w1.heap.size, 0, none⟩) 2 2, .slice (some ⟨w1.heap.size + 1, 0, none⟩) 2 2] W (RetInt W 0)) := by
    intro W hW
    have h := less_k _ _ [0, 1] [1, 0] W (bits_two 0 1 bit0 bit1) (bits_two 1 0 bit1 bit0) (HS.out W hW) (HT.out.below hW) (HO.out.below hW) (by simp) (by simp)
    rw [less_21] at h
    exact h
  have HL2 : Hid (∀ W, Below X.heap.size X W → Calls Try.prog 12 #[.pointer (some ⟨w.heap.size + 2, 0, none⟩), .slice (some ⟨w1.heap.size + 1, 0, none⟩) 2 2, .slice (some ⟨w1.heap.size, 0, none⟩) 2 2] W (RetInt W 1)) := by
    intro W hW
    have h := less_k _ _ [1, 0] [0, 1] W (bits_two 1 0 bit1 bit0) (bits_two 0 1 bit0 bit1) (HS.out W hW) (HO.out.below hW) (HT.out.below hW) (by simp) (by simp)
    rw [less_12] at h
    exact h
  have HE : Hid (∀ W, Below X.heap.size X W → Calls Try.prog 11 #[.pointer (some ⟨w.heap.size + 2, 0, none⟩), .slice none 0 0, .slice none 0 0] W (RetInt W 1)) :=
    fun W hW => eq_nil_k _ _ [] [] W rfl rfl (HS.out W hW) (IVec.nil W) (IVec.nil W) (by simp) (by simp)
  rw [← hX]
  clear hX hBX HT HO HS HL HB1 HN
  refine HA.out.mono ?_
  rintro e w2 ⟨v, rfl, hv, hb2⟩
  have HV := Lib.hid hv
  have HB2 := Lib.hid hb2
  clear hv hb2
  go_wp2_with fail
  refine (same_any _ _ [1, 1] [1, 1] _ (HV.out.below (by repeat (first | exact Below.refl _ _ | assumption | refine Below.drew ?_ | refine Below.alloc ?_ (by first | omega | (simp <;> omega)) _ | refine Below.setCell ?_ (by first | omega | (simp <;> omega)) _ | refine Below.trans ?_ (Below.mono (by assumption) (by first | omega | (simp <;> omega)))))) (lit2 w2 1 1 _) rfl (by simp) rfl).mono ?_
  rintro e w3 ⟨rfl, hb3⟩
  have hB3 : Below X.heap.size X w3 := HB2.out.trans (((Below.refl w2.heap.size w2).alloc (Nat.le_refl _) _).trans (hb3.mono (by simp)) |>.mono HB2.out.size)
  have HB3 := Lib.hid hB3
  clear hB3 hb3
  go_wp2_with fail
  refine (HL1.out _ HB3.out).mono ?_
  rintro e w4 ⟨rfl, hb4⟩
  have HB4 := Lib.hid (HB3.out.trans (hb4.mono HB3.out.size))
  clear hb4
  go_wp2_with fail
  refine (HL2.out _ HB4.out).mono ?_
  rintro e w5 ⟨rfl, hb5⟩
  have HB5 := Lib.hid (HB4.out.trans (hb5.mono HB4.out.size))
  clear hb5
  go_wp2_with fail
  refine (HE.out _ HB5.out).mono ?_
  rintro e w6 ⟨rfl, hb6⟩
  go_wp2_with fail
  go_ret
  exact ⟨rfl, HW.out.trans ((HB5.out.trans (hb6.mono HB5.out.size)).mono HW.out.size)⟩

end Go.Proofs.Ytlihbbeodclncaa
