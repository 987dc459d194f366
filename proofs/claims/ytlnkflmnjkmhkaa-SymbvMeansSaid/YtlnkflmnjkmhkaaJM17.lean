/-
  The law SymbvMeans of layer 17: the loop over the bits.
-/
import Derived.Test.YtlnkflmnjkmhkaaJM16
import Derived.Test.YtlnkflmnjkmhkaaJM11
import Derived.Test.YtlnkflmnjkmhkaaJM15
import Derived.Deep.DeepCutAuto
import Derived.Deep.OwnRows

namespace Go.Proofs.Ytlnkflmnjkmhkaa
open Go.RowKit Go.Maps

def firstLoop : Code → Option Code
  | .loop c => some c
  | .seq a b => match firstLoop a with
    | some c => some c
    | none => firstLoop b
  | .block _ c => firstLoop c
  | .scope c => firstLoop c
  | .cond _ a b => match firstLoop a with
    | some c => some c
    | none => firstLoop b
  | _ => none
noncomputable def body17 : Code := (Try.f4.body.bind firstLoop).getD .skip

/-- The bits of a number, the highest first. -/
def bitsOf (N t : Nat) : List Bool := (List.range N).map fun j => t.testBit (N - 1 - j)
theorem bitsOf_len (N t : Nat) : (bitsOf N t).length = N := by simp [bitsOf]
theorem bitsOf_getD (N t j : Nat) (h : j < N) : (bitsOf N t).getD j false = t.testBit (N - 1 - j) := by
  unfold bitsOf
  rw [List.getD_eq_getElem?_getD, List.getElem?_map, List.getElem?_range h]
  rfl
theorem pN_bits (W X t : Nat) (ht : t < 2 ^ (W + X)) : pN W (qOf (bitsOf (W + X) t)) = t / 2 ^ X := by
  unfold pN
  refine ofBits_eq ?_ fun i hi => ?_
  · rw [Nat.div_lt_iff_lt_mul (Nat.two_pow_pos _), ← Nat.pow_add]; exact ht
  · show (bitsOf (W + X) t).getD (((W - 1 - i : Nat) : Int).toNat) false = _
    rw [Int.toNat_natCast, bitsOf_getD _ _ _ (by omega), Nat.testBit_div_two_pow]
    congr 1
    omega
theorem kN_bits (W X t : Nat) : kN W X (qOf (bitsOf (W + X) t)) = t % 2 ^ X := by
  unfold kN
  refine ofBits_eq (Nat.mod_lt _ (Nat.two_pow_pos _)) fun i hi => ?_
  show (bitsOf (W + X) t).getD (((W + (X - 1 - i) : Nat) : Int).toNat) false = _
  rw [Int.toNat_natCast, bitsOf_getD _ _ _ (by omega), Nat.testBit_mod_two_pow]
  have e : decide (i < X) = true := by simp [hi]
  rw [e, Bool.true_and]
  congr 1
  omega
theorem sel5_bits (W X t : Nat) (hX : 1 ≤ X) : sel5 W X (qOf (bitsOf (W + X) t)) = (t % 2 == 1) := by
  unfold sel5
  show (bitsOf (W + X) t).getD (((W + (X - 1) : Nat) : Int).toNat) false = _
  rw [Int.toNat_natCast, bitsOf_getD _ _ _ (by omega), show W + X - 1 - (W + (X - 1)) = 0 by omega, Nat.testBit_zero]
  cases h : t % 2 == 1 <;> simp_all

theorem infoBool17 : (Try.prog.info? 4).map (fun i => (i.zero, i.size, i.bytes)) = some (some (.bool false), 1, 1) := by kernel_rfl

/-- The bits are being laid. -/
def FillAt (WB : World) (g N k j : Nat) (w : World) : Prop :=
  Below WB.heap.size WB w ∧ WB.heap.size ≤ g ∧ g < w.heap.size ∧ ∀ i, i < N → w.frozen? ⟨g, i, none⟩ = false ∧ w.cell? ⟨g, i, none⟩ = some (.bool (decide (i < j) && k.testBit (N - 1 - i)))
theorem FillAt.step {WB w : World} {g N k j : Nat} (h : FillAt WB g N k j w) (hj : j < N) (x : Bool) (hx : x = k.testBit (N - 1 - j)) : FillAt WB g N k (j + 1) (w.setCell ⟨g, j, none⟩ (.bool x)) := by
  obtain ⟨h1, h2, h3, h4⟩ := h
  refine ⟨h1.setCell h2 _, h2, by simpa using h3, fun i hi => ⟨by rw [World.frozen?_setCell]; exact (h4 i hi).1, ?_⟩⟩
  by_cases e : i = j
  · subst e
    rw [World.cell?_setCell_same _ _ _ (h4 i hi).2, hx]
    have : decide (i < i + 1) = true := by simp
    rw [this, Bool.true_and]
  · rw [World.cell?_setCell_other _ _ _ _ (by simp <;> omega), (h4 i hi).2]
    have : decide (i < j + 1) = decide (i < j) := decide_eq_decide.2 (by omega)
    rw [this]
theorem FillAt.start {WB w : World} {N k : Nat} (hb : Below WB.heap.size WB w) : FillAt WB w.heap.size N k 0 (w.alloc (.cells (madeCells #[.bool false] N) 4)) := by
  refine ⟨hb.alloc hb.size _, hb.size, by simp, fun i hi => ⟨?_, ?_⟩⟩
  · simp [go_sem]
  · have e : (madeCells #[.bool false] N)[i]? = some (.bool false) := by simp [madeCells, hi, Nat.mod_one]
    simp [go_sem, e]
theorem FillAt.bvec {WB w : World} {g N k : Nat} (h : FillAt WB g N k N w) (hN : N ≤ 8) : BVec w (.slice (some ⟨g, 0, none⟩) N N) (bitsOf N k) := by
  obtain ⟨h1, h2, h3, h4⟩ := h
  refine ⟨some ⟨g, 0, none⟩, N, by rw [bitsOf_len], by rw [bitsOf_len]; exact Nat.le_refl _, by unfold maxLen; omega, fun _ => ⟨g, 0, rfl, h3, fun i hi => ?_⟩⟩
  rw [bitsOf_len] at hi
  rw [Nat.zero_add, (h4 i hi).2, bitsOf_getD _ _ _ hi]
  simp [hi]

theorem bit_i64_small : ∀ x : Fin 257, (bits .and .i64 (x.val : Int) 1 == 1) = (x.val % 2 == 1) := by decide +kernel
theorem bit_i64 (k e : Nat) (hk : k ≤ 256) : (bits .and .i64 ((k : Int) / 2 ^ e) 1 == 1) = k.testBit e := by
  have h := bit_i64_small ⟨k / 2 ^ e, by have := Nat.div_le_self k (2 ^ e); omega⟩
  have e1 : ((k : Int) / 2 ^ e) = ((k / 2 ^ e : Nat) : Int) := by rw [Int.natCast_ediv, Int.natCast_pow]; rfl
  rw [e1]
  refine h.trans ?_
  rw [testBit_div]

end Go.Proofs.Ytlnkflmnjkmhkaa
