/-
  The law FoldLess holds of the given program: for every input the call answers true, and each argument reads behind the call as it read before. No condition.
-/
import Derived.Test.YtehcclcokgmplaaRows
import Derived.Test.YtehcclcokgmplaaJA26
import Derived.Test.YtehcclcokgmplaaJA27
import Derived.WalkKit
import Derived.ProofKit
import Derived.OpenShut
import Derived.ChangeOld
import Derived.Below

namespace Go.Proofs.Ytehcclcokgmplaa.foldLess
open Go.ChangeShapes Go.WideShapes Go.ChangeAt Go.RowKit

theorem own : ownKnob Try.prog.godebug = none := by kernel_rfl
theorem laidOut : laidOutB Try.prog = true := by kernel_rfl

set_option maxRecDepth 100000 in
theorem open_i64F {H : Type} {enc : TypeId × Value → H} {w : World} {va : Value} {d : DataW H} {p : List MemPlace} (hv : Value.okWide Try.prog w .any 0 3 va) (h : DataW.Trod enc Try.prog w 0 (fun _ => true) true 3 va d p) : ∃ n, va = .int .i64 n := by
  obtain ⟨r, e, -⟩ := Go.ChangeShapes.open_int Try.underlying3 hv h
  exact ⟨r, e⟩
set_option maxRecDepth 100000 in
theorem open_codeF {H : Type} {enc : TypeId × Value → H} {w : World} {va : Value} {d : DataW H} {p : List MemPlace} (hv : Value.okWide Try.prog w .any 0 35 va) (h : DataW.Trod enc Try.prog w 0 (fun _ => true) true 35 va d p) : ∃ l, CRow w va l := by
  obtain ⟨fuel, h⟩ := h
  rw [slice_cells Try.underlying35 hv] at h
  exact open_rowAt (⟨0, 0, 0, 0, 0⟩ : Nod) Try.underlying35 (by kernel_rfl : _ = 6) (by decide) (fun m b o cs y h1 h2 h3 => nd_of_trod h1 h2 h3) h
set_option maxRecDepth 100000 in
theorem lifted (os : Os) (started : os.Started) (H : Type) (enc : TypeId × Value → H) :
    ReturnsInHanded {} Try.checked os 3 .any (Rows.foldLessSpec.pre6 enc Try.prog Try.f3 Rows.foldLessRow.domain false) (Rows.foldLessSpec.post enc Try.prog Try.f3 false true false false) := by
  refine returnsInHanded_of_change (C := Try.checked) own started (by kernel_rfl) Try.func3
    (ChangeSpec.witness6 (enc := enc) (C := Try.checked) false ⟨#[], #[.agg #[.slice none 0 0, .slice none 0 0, .slice none 0 0, .slice none 0 0, .slice none 0 0, .slice none 0 0, .slice none 0 0, .slice none 0 0, .slice none 0 0, .slice none 0 0, .slice none 0 0, .slice none 0 0], .int .i64 0, .slice none 0 0], []⟩ 8 (by kernel_rfl) (by kernel_rfl) (by kernel_rfl) (by kernel_rfl)) ?_
  intro W base args ds gs before hval0 hW hcnd _
  have hval : ∀ (j : Nat) t v, Try.f3.params[j]? = some t → args[j]? = some v → Value.okWide Try.prog W .any base t v := hval0
  have hW' := hW
  obtain ⟨p, q, hA0, hV, rfl, hfz, hnd⟩ := hW
  have hA : DataW.TrodAll enc Try.prog W 0 (fun _ => true) true Try.f3.params.toList args.toList ds p := hA0
  rw [Try.params3] at hA hval
  obtain ⟨v0, vs0, d0, ds0, p0, q0, hargs, rfl, rfl, h0, r0⟩ := trodAll_cons hA
  obtain ⟨v1, vs1, d1, ds1, p1, q1, rfl, rfl, rfl, h1, r1⟩ := trodAll_cons r0
  obtain ⟨v2, vs2, d2, ds2, p2, q2, rfl, rfl, rfl, h2, r2⟩ := trodAll_cons r1
  obtain ⟨rfl, rfl, rfl⟩ := trodAll_nil r2
  obtain rfl : args = #[v0, v1, v2] := by cases args; simp_all
  obtain ⟨rfl, rfl⟩ := trodVars_none hV
  have k0 := h0
  have lt0 : ∀ x ∈ p0, x.block < W.heap.size := by obtain ⟨m, hm⟩ := k0; exact DataW.trod_lt m _ _ _ hm
  have k1 := h1
  have lt1 : ∀ x ∈ p1, x.block < W.heap.size := by obtain ⟨m, hm⟩ := k1; exact DataW.trod_lt m _ _ _ hm
  have k2 := h2
  have lt2 : ∀ x ∈ p2, x.block < W.heap.size := by obtain ⟨m, hm⟩ := k2; exact DataW.trod_lt m _ _ _ hm
  obtain ⟨s, pr, rfl, hp⟩ := open_prog (hval 0 33 v0 rfl rfl) k0
  obtain ⟨act, rfl⟩ := open_i64F (hval 1 3 v1 rfl rfl) k1
  obtain ⟨l, hl⟩ := open_codeF (hval 2 35 v2 rfl rfl) k2
  obtain ⟨lp, lc, rfl, -⟩ := hl.shape
  clear hA0 hval0
  refine (foldLaw_any s pr act l lp _ lc W hp hl).mono fun e W' ⟨he, bel⟩ => ?_
  subst he
  exact ⟨_, rfl, _, _, _, [], _, [], hW', trodAll_mk1 (shut_bool Try.underlying4 _), (trodAll_cons_mk (Below.trod laidOut (by kernel_rfl) (of_decide_eq_true (by kernel_rfl)) k0 bel lt0) (trodAll_cons_mk (Below.trod laidOut (by kernel_rfl) (of_decide_eq_true (by kernel_rfl)) k1 bel lt1) (trodAll_cons_mk (Below.trod laidOut (by kernel_rfl) (of_decide_eq_true (by kernel_rfl)) k2 bel lt2) trodAll_mk0))), rfl, bel.frame _, fun h => by cases h⟩

theorem proved : Rows.FoldLessSaid :=
  OpenClaim.holds_of_wide 3 Try.f3 rfl rfl rfl rfl rfl rfl rfl ⟨rfl, rfl, rfl, rfl, rfl⟩ rfl rfl rfl rfl rfl (by kernel_rfl) Try.func3 (by kernel_rfl)
    (of_decide_eq_true (by kernel_rfl)) (by unfold Func.isWrapper; first | (rw [if_pos (by decide +kernel)]; kernel_rfl) | (rw [if_neg (by decide +kernel)]; exact ⟨rfl, rfl⟩))
    (fun os started H enc _ => lifted os started H enc)

end Go.Proofs.Ytehcclcokgmplaa.foldLess
