/-
  Contracts of symop.sum and Add at a live store, and constants.
-/
import Derived.Test.YtlihbbeodclncaaSumK
namespace Go.Proofs.Ytlihbbeodclncaa
open Go.RowKit Go.Maps

def carryAt (p : Nat → Int × Int) (c : Int) : Nat → Int
  | 0 => c
  | k + 1 => carryK (carryAt p c k) (p k).1 (p k).2
def sumL (p : Nat → Int × Int) (c : Int) : Nat → List Int
  | 0 => []
  | k + 1 => sumL p c k ++ [bitK (carryAt p c k) (p k).1 (p k).2]
theorem sumL_succ (p : Nat → Int × Int) (c : Int) (k : Nat) : sumL p c (k + 1) = sumL p c k ++ [bitK (carryAt p c k) (p k).1 (p k).2] := rfl
theorem sumL_len (p : Nat → Int × Int) (c : Int) (k : Nat) : (sumL p c k).length = k := by
  induction k with
  | zero => rfl
  | succ k ih => rw [sumL_succ, List.length_append, ih]; rfl
theorem carryAt_ok {xs ys : List Int} {c : Int} (hc : Bit01 c) (hx : ∀ k, Bit01 (xs.getD k 0)) (hy : ∀ k, Bit01 (ys.getD k 0)) (k : Nat) : Bit01 (carryAt (pairAt xs ys) c k) := by
  induction k with
  | zero => exact hc
  | succ k ih => exact iteK_ok bit1 (iteK_ok (iteK_ok (iteK_ok bit0 bit1) (hy k)) bit0)

set_option maxHeartbeats 1600000 in
theorem sum_k {sp : Value} (va vb : Value) (xs ys : List Int) (c : Int) (w : World) (hc01 : Bit01 c) (hx01 : ∀ k, Bit01 (xs.getD k 0)) (hy01 : ∀ k, Bit01 (ys.getD k 0)) (hd : Live w sp) (ha : IVec w va xs) (hb : IVec w vb ys) (hxl : xs.length ≤ 1000000) (hyl : ys.length ≤ 1000000) :
    Calls Try.prog 29 #[sp, va, vb, .int .i64 c] w (RetVec w (sumL (pairAt xs ys) c (max xs.length ys.length))) := by
  have HD := Lib.hid hd
  have HA := Lib.hid ha
  have HB := Lib.hid hb
  obtain ⟨bd, rfl⟩ := hd.shape
  obtain ⟨po, hpo⟩ : ∃ po : Option Addr, po = some ⟨bd, 0, none⟩ := ⟨_, rfl⟩
  rw [← hpo] at HD ⊢
  clear hpo
  have H01 : Hid (Bit01 c ∧ (∀ k, Bit01 (xs.getD k 0)) ∧ ∀ k, Bit01 (ys.getD k 0)) := ⟨hc01, hx01, hy01⟩
  have HL := Lib.hid (sumL_len (pairAt xs ys) c (max xs.length ys.length))
  clear hd ha hb hc01 hx01 hy01
  have hmf := run_makeFunc
  go_enter Try.func29, Try.ntmps29
  go_wp2_with fail
  obtain ⟨A, hA⟩ : ∃ A, A = ((w.alloc (.cells #[.pointer po] 30)).alloc (.cells #[] 3)).alloc (.cells #[.slice (some ⟨w.heap.size + 1, 0, none⟩) 0 0] 23) := ⟨_, rfl⟩
  have hBA : Below w.heap.size w A := by rw [hA]; exact (by repeat (first | exact Below.refl _ _ | assumption | refine Below.drew ?_ | refine Below.alloc ?_ (by first | omega | (simp <;> omega)) _ | refine Below.setCell ?_ (by first | omega | (simp <;> omega)) _ | refine Below.trans ?_ (Below.mono (by assumption) (by first | omega | (simp <;> omega)))))
  have hAs : A.heap.size = w.heap.size + 3 := by rw [hA]; simp
  have a0 : A.cell? ⟨w.heap.size, 0, none⟩ = some (.pointer po) := by rw [hA]; simp [go_sem]
  have aV : A.cell? ⟨w.heap.size + 1 + 1, 0, none⟩ = some (.slice (some ⟨w.heap.size + 1, 0, none⟩) 0 0) := by rw [hA]; simp [go_sem]
  have aF : A.frozen? ⟨w.heap.size + 1 + 1, 0, none⟩ = false := by rw [hA]; simp [go_sem]
  have aO : A.heap[w.heap.size + 1]? = some (.cells #[] 3 (0, 0)) := by
    rw [hA, Below.heap_alloc _ _ _ (by simp)]
    show ((w.heap.push (.cells #[.pointer po] 30)).push (.cells #[] 3))[w.heap.size + 1]? = _
    rw [Array.getElem?_push]
    simp
  let O : Nat → Prop := fun j => j = w.heap.size + 1 + 1 ∨ (Value.slice (some ⟨w.heap.size + 1, 0, none⟩) 0 0).ownBlock = some j
  have hOlo : ∀ j, O j → w.heap.size < j ∧ j < A.heap.size := by
    rintro j (h | h)
    · omega
    · simp [Value.ownBlock] at h; omega
  have hDX : LiveX A O (.pointer po) := by
    refine ⟨HD.out.below hBA, fun b hb hO => ?_⟩
    obtain ⟨b', cap, n, cn, pn, e, h1, -⟩ := HD.out
    have := (cell_there h1).1
    rw [e] at hb
    simp at hb
    subst hb
    have := hOlo _ hO
    simp at *
    omega
  have hST : SumK A O w.heap.size (w.heap.size + 1 + 1) po [] :=
    ⟨a0, fun h => by have := hOlo _ h; omega, hDX, aF, _, aV, ⟨rfl, .inr ⟨w.heap.size + 1, 0, #[], rfl, Nat.zero_le _, aO, Nat.le_refl _, Nat.zero_le _, rfl, rfl⟩⟩, by simp [Value.ownBlock], fun j => Iff.rfl⟩
  have hOA : ∀ k, O k → k < A.heap.size := fun k hk => (hOlo k hk).2
  have HST := Lib.hid hST
  have HOL : Hid (∀ j, O j → w.heap.size < j ∧ j < A.heap.size) := hOlo
  have hp := pairs_any O va vb xs ys A hOA (HA.out.below hBA) (HB.out.below hBA) hxl hyl
  have HP := Lib.hid hp
  have HBA := Lib.hid hBA
  rw [← hA]
  clear hST hOlo hDX aO aF aV a0 hAs hA hOA hp hBA
  clear_value O
  refine HP.out.mono ?_
  rintro e w1 ⟨v, rfl, hv, hb1⟩
  have HV := Lib.hid hv
  have HB1 := Lib.hid hb1
  clear hv hb1 HP
  have hF : Calls Try.prog 31 #[v, .int .i64 c, .func (.func 53) #[] #[.pointer (some ⟨w.heap.size, 0, none⟩), .pointer (some ⟨w.heap.size + 1 + 1, 0, none⟩)]] w1
      (RetJ fun _ W => ∃ O', PVecX W O' v (max xs.length ys.length) (pairAt xs ys) ∧ SumK W O' w.heap.size (w.heap.size + 1 + 1) po (sumL (pairAt xs ys) c (max xs.length ys.length)) ∧ Ext O O' w1 W) := by
    refine (fold_bits 53 #[] _ v (max xs.length ys.length) (pairAt xs ys) (fun k t W => t = carryAt (pairAt xs ys) c k ∧ ∃ O', PVecX W O' v (max xs.length ys.length) (pairAt xs ys) ∧ SumK W O' w.heap.size (w.heap.size + 1 + 1) po (sumL (pairAt xs ys) c k) ∧ Ext O O' w1 W) c w1 (by omega) ⟨rfl, O, HV.out, HST.out.below HB1.out, Ext.refl _ _⟩ ?_ ?_ call_sum1 ?_).mono fun e w' ⟨r, h1, h2, h3⟩ => ⟨r, h1, h3⟩
    · rintro k t W ⟨-, O', h1, -⟩
      exact h1.pvec
    · rintro k t W W' ⟨h0, O', h1, h2, h3⟩ hb
      exact ⟨h0, O', h1.ext (Ext.of_below hb), h2.below hb, h3.trans (Ext.of_below hb)⟩
    · rintro k hk t W ⟨rfl, O', h1, h2, h3⟩
      exact (sum1_k O' w.heap.size (w.heap.size + 1 + 1) (sumL (pairAt xs ys) c k) po _ _ _ W (by rw [sumL_len]; omega) (carryAt_ok H01.out.1 H01.out.2.1 H01.out.2.2 k) (H01.out.2.1 k) (H01.out.2.2 k) h2).mono
        fun e w' ⟨r, hr, hr2, O'', h4, h5⟩ => ⟨r, hr, hr2, O'', h1.ext h5, by rw [sumL_succ]; exact h4, h3.trans h5⟩
  go_wp2_with fail
  refine hF.mono ?_
  rintro e w2 ⟨r, rfl, O', h1, h2, h3⟩
  obtain ⟨q1, q2, q3, q4, vv, q5, q6, q7, q8⟩ := h2
  rw [HL.out] at q6
  obtain ⟨pv, cv, rfl, -⟩ := own_shape q6
  have hR : Below w.heap.size w w2 := below_ext (HBA.out.trans (HB1.out.mono HBA.out.size)) h3 (fun k hk => by have := HOL.out k hk; omega) (Nat.le_trans HBA.out.size HB1.out.size)
  have hV : IVec w2 (.slice pv (max xs.length ys.length) cv) (sumL (pairAt xs ys) c (max xs.length ys.length)) := IVec.of_owns (n := max xs.length ys.length) HL.out q6
  have HR := Lib.hid hR
  have HVV := Lib.hid hV
  clear q1 q2 q3 q4 q6 q7 q8 h1 h3 hR hV hF
  go_wp2_with fail
  go_ret
  exact ⟨_, rfl, HVV.out, HR.out⟩

set_option maxHeartbeats 400000 in
theorem add_k {sp : Value} (va vb : Value) (xs ys : List Int) (w : World) (hx01 : ∀ k, Bit01 (xs.getD k 0)) (hy01 : ∀ k, Bit01 (ys.getD k 0)) (hd : Live w sp) (ha : IVec w va xs) (hb : IVec w vb ys) (hxl : xs.length ≤ 1000000) (hyl : ys.length ≤ 1000000) :
    Calls Try.prog 8 #[sp, va, vb] w (RetVec w (sumL (pairAt xs ys) 0 (max xs.length ys.length))) := by
  have HS := Lib.hid (sum_k va vb xs ys 0 w bit0 hx01 hy01 hd ha hb hxl hyl)
  clear hd ha hb hx01 hy01
  go_enter Try.func8, Try.ntmps8
  go_wp2_with fail
  refine HS.out.mono ?_
  rintro e w1 ⟨v, rfl, hv, hb1⟩
  go_wp2_with fail
  go_ret
  exact ⟨_, rfl, hv, hb1⟩

end Go.Proofs.Ytlihbbeodclncaa
