/-
  What else the law NumBits asks: Bit, Slice, Mask, Fits, of the program and of the document.
-/
import Derived.Test.YtfalhemeiengcaaDoorRefSubA
import Derived.Test.YtfalhemeiengcaaDoorRefCat
import Derived.Test.YtfalhemeiengcaaDoorRefCmp
import Derived.Test.YtfalhemeiengcaaDoorRefSlice
import Derived.Test.YtfalhemeiengcaaDoorNumMore3
import Derived.Test.YtfalhemeiengcaaDoorHeldT
import Derived.Deep.RegionHeld3
namespace Go.Proofs.YtfalhemeiengcaaDoor
open Go.RowKit

theorem bit_low (z : Nat) (hz : z < B) : (bits .and .u64 (z : Int) 1 == 1) = z.testBit 0 := by
  have h := and_cast z 1 hz (by unfold B; omega)
  have e : ((1 : Nat) : Int) = 1 := rfl
  rw [e] at h
  rw [h, nat_mask1, Nat.testBit_zero]
  rcases Nat.mod_two_eq_zero_or_one z with h | h <;> rw [h] <;> rfl

theorem field_lo (u v : Int) (W : World) : (Instr.field 24 (.agg #[.int .u64 u, .int .u64 v]) 1).run Tryd.prog W = .ok (.int .u64 v) W := by kernel_rfl
theorem field_hi (u v : Int) (W : World) : (Instr.field 24 (.agg #[.int .u64 u, .int .u64 v]) 0).run Tryd.prog W = .ok (.int .u64 u) W := by kernel_rfl

def bitB (n : Nat) (i : Int) : Bool := decide (0 ≤ i) && decide (i < 128) && n.testBit i.toNat

set_option maxRecDepth 100000 in
set_option maxHeartbeats 400000 in
theorem numBit_any (n : Nat) (i : Int) (w : World) (hn : n < B * B) :
    Calls Tryd.prog 39 #[numV n, .int .i64 i] w fun e w' => e = .returned (.bool (bitB n i)) ∧ Below w.heap.size w w' := by
  obtain ⟨y, z, he, hy, hz0⟩ := numV_parts n
  have HE := Lib.hid he
  have HN := Lib.hid hn; clear hn
  rw [he]
  clear he hy hz0
  by_cases h0 : 0 ≤ i
  · by_cases h1 : i < 128
    · have HR : ∀ m, m = n / 2 ^ sh i → Hid ((bits .and .u64 ((m % B : Nat) : Int) 1 == 1) = bitB n i) := by
        intro m hm
        show _ = _
        have e1 : sh i = i.toNat := by unfold sh; omega
        rw [bit_low _ (low_lt _), hm, e1, B_pow, Nat.testBit_mod_two_pow, Nat.testBit_div_two_pow]
        simp [bitB, h0, h1]
      go_enter Tryd.func39, Tryd.ntmps39
      go_wp2_with fail
      rw [← HE.out]
      refine (numShr_any n _ _ HN.out).mono ?_
      rintro e w1 ⟨rfl, hb⟩
      obtain ⟨u, v, hm, hu, hv⟩ := numV_parts (n / 2 ^ sh i)
      have HM : Hid (v = n / 2 ^ sh i % B) := hv
      clear hu hv
      rw [hm]
      clear hm
      have hfl := field_lo
      go_wp2_with fail
      go_ret
      exact ⟨by rw [HM.out, (HR _ rfl).out]; rfl, (by repeat (first | exact Below.refl _ _ | assumption | refine Below.drew ?_ | refine Below.alloc ?_ (by first | omega | (simp <;> omega)) _ | refine Below.setCell ?_ (by first | omega | (simp <;> omega)) _ | refine Below.trans ?_ (Below.mono (by assumption) (by first | omega | (simp <;> omega)))))⟩
    · have hd : Hid (bitB n i = false) := by show _ = _; simp [bitB, h1]
      go_enter Tryd.func39, Tryd.ntmps39
      go_wp2_with fail
      go_ret
      exact ⟨by rw [hd.out]; rfl, (by repeat (first | exact Below.refl _ _ | assumption | refine Below.drew ?_ | refine Below.alloc ?_ (by first | omega | (simp <;> omega)) _ | refine Below.setCell ?_ (by first | omega | (simp <;> omega)) _ | refine Below.trans ?_ (Below.mono (by assumption) (by first | omega | (simp <;> omega)))))⟩
  · have hd : Hid (bitB n i = false) := by show _ = _; simp [bitB, h0]
    go_enter Tryd.func39, Tryd.ntmps39
    go_wp2_with fail
    go_ret
    exact ⟨by rw [hd.out]; rfl, (by repeat (first | exact Below.refl _ _ | assumption | refine Below.drew ?_ | refine Below.alloc ?_ (by first | omega | (simp <;> omega)) _ | refine Below.setCell ?_ (by first | omega | (simp <;> omega)) _ | refine Below.trans ?_ (Below.mono (by assumption) (by first | omega | (simp <;> omega)))))⟩

set_option maxRecDepth 100000 in
set_option maxHeartbeats 1000000 in
theorem refBit_any (n : Nat) (i : Int) (hn : n < B * B) (w : World) :
    Calls Tryd.prog 40 #[numV n, .int .i64 i] w fun e w' => e = .returned (.bool (bitB n i)) ∧ Below w.heap.size w w' := by
  obtain ⟨f, hf⟩ : ∃ f, f = n.testBit := ⟨_, rfl⟩
  have HA : Hid (∀ W, Calls Tryd.prog 53 #[numV n] W fun e w' => e = .returned (.agg (rowA f)) ∧ Below W.heap.size W w') := fun W => by rw [hf]; exact refBits_any n hn W
  have HF := Lib.hid hf
  obtain ⟨h1, l1, e1, -, -⟩ := numV_parts n
  rw [e1] at HA ⊢
  clear e1 hf
  go_enter Tryd.func40, Tryd.ntmps40
  go_wp2_with fail
  refine (HA.out _).mono ?_
  rintro e w1 ⟨rfl, hb1⟩
  have HB1 : Hid (Below w.heap.size w w1) := ((Below.refl w.heap.size w).alloc (Nat.le_refl _) _).trans (hb1.mono (by simp))
  have hs1 := HB1.out.size
  have HNW := Lib.hid (heap_new w1 (.cells Tryd.zeroCells56 56))
  obtain ⟨n1, n2⟩ := newRow (w := w1) f
  have HN1 := Lib.hid n1
  have HB2 : Hid (Below w.heap.size w ((w1.alloc (.cells Tryd.zeroCells56 56)).setRow w1.heap.size (rowA f))) := HB1.out.trans (n2.mono hs1)
  have HZS : Hid ((Tryd.zeroCells56).size = 128) := by
    show _ = _
    have hZ : Tryd.zeroCells56 = rowA fun _ => false := by kernel_rfl
    rw [hZ]; exact rowA_size _
  clear hb1 HA n1 n2
  by_cases h0 : i < 0
  · have HE : Hid (bitB n i = false) := by show _ = _; unfold bitB; simp; omega
    have h0' : decide (0 ≤ i) = false := by simp; omega
    go_wp2_with (refine wpList_store_row rfl 56 (.tmp 5) (.tmp 7) rfl w1.heap.size (rowA f) rfl rfl 56 _ HNW.out (by rw [rowA_size]; exact infoRow) (by rw [rowA_size]; exact HZS.out) (rowA_one _) ?_)
    go_ret
    exact ⟨by rw [HE.out]; rfl, HB2.out⟩
  · by_cases h1 : 128 ≤ i
    · have HE : Hid (bitB n i = false) := by show _ = _; unfold bitB; simp; omega
      go_wp2_with (refine wpList_store_row rfl 56 (.tmp 5) (.tmp 7) rfl w1.heap.size (rowA f) rfl rfl 56 _ HNW.out (by rw [rowA_size]; exact infoRow) (by rw [rowA_size]; exact HZS.out) (rowA_one _) ?_)
      go_ret
      exact ⟨by rw [HE.out]; rfl, HB2.out⟩
    · obtain ⟨j, rfl⟩ : ∃ j : Nat, i = (j : Int) := ⟨i.toNat, by omega⟩
      have hj : j < 128 := by omega
      have hcell : ((w1.alloc (.cells Tryd.zeroCells56 56)).setRow w1.heap.size (rowA f)).cell? ⟨w1.heap.size, j, none⟩ = some (.bool (f j)) := by rw [cell_of_row _ _ j _ _ _ HN1.out]; exact rowA_at _ j hj
      have HE : Hid (bitB n (j : Int) = f j) := by show _ = _; unfold bitB; rw [HF.out]; simp; omega
      go_wp2_with (refine wpList_store_row rfl 56 (.tmp 5) (.tmp 7) rfl w1.heap.size (rowA f) rfl rfl 56 _ HNW.out (by rw [rowA_size]; exact infoRow) (by rw [rowA_size]; exact HZS.out) (rowA_one _) ?_)
      go_ret
      exact ⟨by rw [HE.out]; rfl, HB2.out⟩

theorem cmpI_N (a b : Nat) : cmpN a b = cmpI a b := rfl

end Go.Proofs.YtfalhemeiengcaaDoor
