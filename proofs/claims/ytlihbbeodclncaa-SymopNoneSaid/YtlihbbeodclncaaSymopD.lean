/-
  Contracts of package symop's functions at a store that is not there, or is full: all is 0.
-/
import Derived.Test.YtlihbbeodclncaaSumD
import Derived.Test.YtlihbbeodclncaaEval2
namespace Go.Proofs.Ytlihbbeodclncaa
open Go.RowKit Go.Maps

theorem call_sum1 (av : Array Value) (W : World) : (callFunc 53 av).run Try.prog W = .ok (.enter 53 av) W := by kernel_rfl
theorem call_eq1 (av : Array Value) (W : World) : (callFunc 33 av).run Try.prog W = .ok (.enter 33 av) W := by kernel_rfl
theorem call_less1 (av : Array Value) (W : World) : (callFunc 37 av).run Try.prog W = .ok (.enter 37 av) W := by kernel_rfl
theorem call_agrees1 (av : Array Value) (W : World) : (callFunc 41 av).run Try.prog W = .ok (.enter 41 av) W := by kernel_rfl

theorem below_ext {O O' : Nat → Prop} {B : Nat} {a w w' : World} (h : Below B a w) (he : Ext O O' w w') (hO : ∀ k, O k → B ≤ k) (hB : B ≤ w.heap.size) : Below B a w' :=
  ⟨he.1.os.trans h.os, he.1.tape.trans h.tape, he.1.output.trans h.output, Nat.le_trans h.size he.1.size, fun k hk => (he.1.block k (by omega) (fun h' => by have := hO k h'; omega)).trans (h.block k hk)⟩

set_option maxHeartbeats 1600000 in
theorem sum_dead {sp : Value} (va vb : Value) (xs ys : List Int) (c : Int) (w : World) (hd : Dead w sp) (ha : IVec w va xs) (hb : IVec w vb ys) (hxl : xs.length ≤ 1000000) (hyl : ys.length ≤ 1000000) :
    Calls Try.prog 29 #[sp, va, vb, .int .i64 c] w (RetVec w (List.replicate (max xs.length ys.length) 0)) := by
  have HD := Lib.hid hd
  have HA := Lib.hid ha
  have HB := Lib.hid hb
  obtain ⟨po, rfl⟩ := hd.shape
  clear hd ha hb
  have hmf := run_makeFunc
  go_enter Try.func29, Try.ntmps29
  go_wp2_with fail
  obtain ⟨A, hA⟩ : ∃ A, A = ((w.alloc (.cells #[.pointer po] 30)).alloc (.cells #[] 3)).alloc (.cells #[.slice (some ⟨w.heap.size + 1, 0, none⟩) 0 0] 23) := ⟨_, rfl⟩
  have hBA : Below w.heap.size w A := by rw [hA]; exact (by repeat (first | exact Below.refl _ _ | assumption | refine Below.drew ?_ | refine Below.alloc ?_ (by first | omega | (simp <;> omega)) _ | refine Below.setCell ?_ (by first | omega | (simp <;> omega)) _ | refine Below.trans ?_ (Below.mono (by assumption) (by first | omega | (simp <;> omega)))))
  have hAs : A.heap.size = w.heap.size + 3 := by rw [hA]; simp
  have a0 : A.cell? ⟨w.heap.size, 0, none⟩ = some (.pointer po) := by rw [hA]; simp [go_sem]
  have aV : A.cell? ⟨w.heap.size + 1 + 1, 0, none⟩ = some (.slice (some ⟨w.heap.size + 1, 0, none⟩) 0 0) := by rw [hA]; simp [go_sem]
  have aF : A.frozen? ⟨w.heap.size + 1 + 1, 0, none⟩ = false := by rw [hA]; simp [go_sem]
  have aO : A.heap[w.heap.size + 1]? = some (.cells #[] 3 (0, 0)) := by
    rw [hA, Below.heap_alloc _ _ _ (by simp)]
    show ((w.heap.push (.cells #[.pointer po] 30)).push (.cells #[] 3))[w.heap.size + 1]? = _
    rw [Array.getElem?_push]
    simp
  let O : Nat → Prop := fun j => j = w.heap.size + 1 + 1 ∨ (Value.slice (some ⟨w.heap.size + 1, 0, none⟩) 0 0).ownBlock = some j
  have hOlo : ∀ j, O j → w.heap.size < j ∧ j < A.heap.size := by
    rintro j (h | h)
    · omega
    · simp [Value.ownBlock] at h; omega
  have hDX : DeadX A O (.pointer po) := by
    rcases HD.out with h | ⟨b, Os, st, told, h1, h2, h3⟩
    · exact .inl h
    · exact .inr ⟨b, Os, st, told, h1, h2.below hBA, h3, fun k hk hO => by have := h2.lt k hk; have := hOlo k hO; omega⟩
  have hST : SumSt A O w.heap.size (w.heap.size + 1 + 1) po 0 :=
    ⟨a0, fun h => by have := hOlo _ h; omega, hDX, aF, _, aV, ⟨rfl, .inr ⟨w.heap.size + 1, 0, #[], rfl, Nat.zero_le _, aO, Nat.le_refl _, Nat.zero_le _, rfl, rfl⟩⟩, by simp [Value.ownBlock], fun j => Iff.rfl⟩
  have hOA : ∀ k, O k → k < A.heap.size := fun k hk => (hOlo k hk).2
  have HST := Lib.hid hST
  have HOL : Hid (∀ j, O j → w.heap.size < j ∧ j < A.heap.size) := hOlo
  have hp := pairs_any O va vb xs ys A hOA (HA.out.below hBA) (HB.out.below hBA) hxl hyl
  have HP := Lib.hid hp
  have HBA := Lib.hid hBA
  rw [← hA]
  clear hST hOlo hDX aO aF aV a0 hAs hA hOA hp hBA
  clear_value O
  refine HP.out.mono ?_
  rintro e w1 ⟨v, rfl, hv, hb1⟩
  have HV := Lib.hid hv
  have HB1 := Lib.hid hb1
  clear hv hb1 HP
  have hF : ∀ (c0 : Int), Calls Try.prog 31 #[v, .int .i64 c0, .func (.func 53) #[] #[.pointer (some ⟨w.heap.size, 0, none⟩), .pointer (some ⟨w.heap.size + 1 + 1, 0, none⟩)]] w1
      (RetJ fun _ W => ∃ O', PVecX W O' v (max xs.length ys.length) (pairAt xs ys) ∧ SumSt W O' w.heap.size (w.heap.size + 1 + 1) po (max xs.length ys.length) ∧ Ext O O' w1 W) := by
    intro c0
    refine fold_bits 53 #[] _ v (max xs.length ys.length) (pairAt xs ys) (fun k _ W => ∃ O', PVecX W O' v (max xs.length ys.length) (pairAt xs ys) ∧ SumSt W O' w.heap.size (w.heap.size + 1 + 1) po k ∧ Ext O O' w1 W) c0 w1 (by omega) ⟨O, HV.out, HST.out.below HB1.out, Ext.refl _ _⟩ ?_ ?_ call_sum1 ?_
    · rintro k t W ⟨O', h1, -⟩
      exact h1.pvec
    · rintro k t W W' ⟨O', h1, h2, h3⟩ hb
      exact ⟨O', h1.ext (Ext.of_below hb), h2.below hb, h3.trans (Ext.of_below hb)⟩
    · rintro k hk t W ⟨O', h1, h2, h3⟩
      exact (sum1_dead O' w.heap.size (w.heap.size + 1 + 1) k po t _ _ W (by omega) h2).mono fun e w' ⟨r, hr, O'', h4, h5⟩ => ⟨r, hr, O'', h1.ext h5, h4, h3.trans h5⟩
  go_wp2_with fail
  refine (hF _).mono ?_
  rintro e w2 ⟨r, rfl, O', h1, h2, h3⟩
  obtain ⟨q1, q2, q3, q4, vv, q5, q6, q7, q8⟩ := h2
  obtain ⟨pv, cv, rfl, -⟩ := own_shape q6
  have hR : Below w.heap.size w w2 := below_ext (HBA.out.trans (HB1.out.mono HBA.out.size)) h3 (fun k hk => by have := HOL.out k hk; omega) (Nat.le_trans HBA.out.size HB1.out.size)
  have hV : IVec w2 (.slice pv (max xs.length ys.length) cv) (List.replicate (max xs.length ys.length) 0) := IVec.of_zero q6
  have HR := Lib.hid hR
  have HVV := Lib.hid hV
  clear q1 q2 q3 q4 q6 q7 q8 h1 h3 hR hV hF
  go_wp2_with fail
  go_ret
  exact ⟨_, rfl, HVV.out, HR.out⟩

end Go.Proofs.Ytlihbbeodclncaa
