/-
  Lemmas, joined: Call18, Plays18, Plays18b.
-/
import Derived.Test.YtlnkflmnjkmhkaaJR20
import Derived.Test.YtlnkflmnjkmhkaaJR15
/-
  Contracts of quillonlaw18.call and want: the same plain function of a store.
-/
namespace Go.Proofs.Ytlnkflmnjkmhkaa
open Go.RowKit Go.Maps

/-- What a call makes: the store behind it, and the vector. -/
def callF (kind : Int) (fm fv : Int → Bool) (xs ys : List Int) (s : BS) : BS × List Int :=
  if kind = 1 then ((sumA xs ys 0 s (max xs.length ys.length)).1, (sumA xs ys 0 s (max xs.length ys.length)).2.2)
  else if kind = 2 then subS xs ys s
  else if kind = 3 then subS [] xs s
  else if kind = 4 then ((eqS xs ys s).1, [(eqS xs ys s).2])
  else if kind = 5 then ((lessS xs ys s).1, [(lessS xs ys s).2])
  else if kind = 6 then ((atMostS xs ys s).1, [(atMostS xs ys s).2])
  else if kind = 7 then ((anyS xs s).1, [(anyS xs s).2])
  else if kind = 8 then ((agreesS fm fv xs s).1, [(agreesS fm fv xs s).2])
  else (s, [])
theorem callF_len {kind : Int} {fm fv : Int → Bool} {xs ys : List Int} {s : BS} (hx : xs.length ≤ 4) (hy : ys.length ≤ 4) : (callF kind fm fv xs ys s).2.length ≤ 4 := by
  unfold callF
  split
  · simp only; rw [sumA_len]; omega
  split
  · show (subS xs ys s).2.length ≤ 4; unfold subS; simp only; rw [sumA_len]; omega
  split
  · show (subS [] xs s).2.length ≤ 4; unfold subS; simp only; rw [sumA_len]; simp; omega
  split
  · simp
  split
  · simp
  split
  · simp
  split
  · simp
  split
  · simp
  · simp

theorem ivecX_one {W : World} {O : Nat → Prop} {z : Int} {t : TypeId} (hO : ∀ k, O k → k < W.heap.size) : IVecX (W.alloc (.cells #[.int .i64 z] t)) O (.slice (some ⟨W.heap.size, 0, none⟩) 1 1) [z] :=
  ⟨IVec.of_heap (t := t) (by rfl) (by unfold maxLen; omega) (heap_new W _), fun k hk _ h => by cases hk; exact Nat.lt_irrefl _ (hO _ h), NilOk.some _ _ _⟩

set_option maxRecDepth 100000 in
set_option maxHeartbeats 3000000 in
theorem call_sto (b : Nat) (O : Nat → Prop) (s : BS) (kind oa ob : Int) (va vb : Value) (xs ys : List Int) (v0 v1 m0 m1 : Int) (fv fm : Int → Bool) (HV : Hid (BitsAre v0 v1 fv)) (HM : Hid (BitsAre m0 m1 fm)) (w : World) (hs : Sto w b O s) (ha : IVecX w O va xs) (hb : IVecX w O vb ys) (hxl : xs.length ≤ 1000000) (hyl : ys.length ≤ 1000000) :
    Calls Try.prog 14 #[.pointer (some ⟨b, 0, none⟩), va, vb, .agg #[.int .i64 kind, .int .i64 oa, .int .i64 ob, .int .u64 v0, .int .u64 v1, .int .u64 m0, .int .u64 m1]] w (RetVS b O w (callF kind fm fv xs ys s)) := by
  obtain ⟨A, hA⟩ : ∃ A, A = w.alloc (.cells #[.int .i64 kind, .int .i64 oa, .int .i64 ob, .int .u64 v0, .int .u64 v1, .int .u64 m0, .int .u64 m1] 45) := ⟨_, rfl⟩
  have hBA : Below w.heap.size w A := by rw [hA]; exact (by repeat (first | exact Below.refl _ _ | assumption | refine Below.drew ?_ | refine Below.alloc ?_ (by first | omega | (simp <;> omega)) _ | refine Below.setCell ?_ (by first | omega | (simp <;> omega)) _ | refine Below.trans ?_ (Below.mono (by assumption) (by first | omega | (simp <;> omega)))))
  have k0 : A.cell? ⟨w.heap.size, 0, none⟩ = some (.int .i64 kind) := by rw [hA]; simp [go_sem]
  have p0 : A.cell? ⟨w.heap.size, 3, none⟩ = some (.int .u64 v0) := by rw [hA]; simp [go_sem]
  have p1 : A.cell? ⟨w.heap.size, 4, none⟩ = some (.int .u64 v1) := by rw [hA]; simp [go_sem]
  have p2 : A.cell? ⟨w.heap.size, 5, none⟩ = some (.int .u64 m0) := by rw [hA]; simp [go_sem]
  have p3 : A.cell? ⟨w.heap.size, 6, none⟩ = some (.int .u64 m1) := by rw [hA]; simp [go_sem]
  have HSA := Lib.hid (hs.below hBA)
  have HVA := Lib.hid (ha.below hBA)
  have HVB := Lib.hid (hb.below hBA)
  have HBA := Lib.hid hBA
  have HAA := Lib.hid hA
  have H1 := Lib.hid (add_sto b O s va vb xs ys A HSA.out HVA.out.1 HVB.out.1 hxl hyl)
  have H2 := Lib.hid (sub_sto b O s va vb xs ys A HSA.out HVA.out HVB.out.1 hxl hyl)
  have H3 := Lib.hid (neg_sto b O s va xs A HSA.out HVA.out.1 hxl)
  have H4 := Lib.hid (eq_sto b O s va vb xs ys A HSA.out HVA.out.1 HVB.out.1 hxl hyl)
  have H5 := Lib.hid (less_sto b O s va vb xs ys A HSA.out HVA.out.1 HVB.out.1 hxl hyl)
  have H6 := Lib.hid (atMost_sto b O s va vb xs ys A HSA.out HVA.out.1 HVB.out.1 hxl hyl)
  have H7 := Lib.hid (any_sto b O s va xs A HSA.out HVA.out hxl)
  have H8 := Lib.hid (agrees_sto b O s va xs v0 v1 m0 m1 fv fm HV HM A HSA.out HVA.out hxl)
  have HE0 : Hid (Ext O O w A) := Ext.of_below hBA
  unfold callF
  clear hs ha hb hA hBA
  by_cases e1 : kind = 1
  · subst e1
    rw [if_pos rfl]
    go_enter Try.func14, Try.ntmps14
    go_wp2_with fail
    rw [← HAA.out]
    go_wp2_with fail
    refine H1.out.mono ?_
    rintro e w1 ⟨v, O1, rfl, hv, hs1, hx1⟩
    have HF : Hid (IVecX w1 O1 v (((sumA xs ys 0 s (max xs.length ys.length)).1, (sumA xs ys 0 s (max xs.length ys.length)).2.2)).2 ∧ Sto w1 b O1 (((sumA xs ys 0 s (max xs.length ys.length)).1, (sumA xs ys 0 s (max xs.length ys.length)).2.2)).1 ∧ Ext O O1 w w1) := ⟨hv, hs1, HE0.out.trans hx1⟩
    clear hv hs1 hx1
    go_wp2_with fail
    go_ret
    exact ⟨_, O1, rfl, HF.out⟩
  · have f1 : (kind == 1) = false := by rw [beq_eq_false_iff_ne]; exact e1
    by_cases e2 : kind = 2
    · subst e2
      rw [if_neg (by decide), if_pos rfl]
      go_enter Try.func14, Try.ntmps14
      go_wp2_with fail
      rw [← HAA.out]
      go_wp2_with fail
      refine H2.out.mono ?_
      rintro e w1 ⟨v, O1, rfl, hv, hs1, hx1⟩
      have HF : Hid (IVecX w1 O1 v (subS xs ys s).2 ∧ Sto w1 b O1 (subS xs ys s).1 ∧ Ext O O1 w w1) := ⟨hv, hs1, HE0.out.trans hx1⟩
      clear hv hs1 hx1
      go_wp2_with fail
      go_ret
      exact ⟨_, O1, rfl, HF.out⟩
    · have f2 : (kind == 2) = false := by rw [beq_eq_false_iff_ne]; exact e2
      by_cases e3 : kind = 3
      · subst e3
        rw [if_neg (by decide), if_neg (by decide), if_pos rfl]
        go_enter Try.func14, Try.ntmps14
        go_wp2_with fail
        rw [← HAA.out]
        go_wp2_with fail
        refine H3.out.mono ?_
        rintro e w1 ⟨v, O1, rfl, hv, hs1, hx1⟩
        have HF : Hid (IVecX w1 O1 v (subS [] xs s).2 ∧ Sto w1 b O1 (subS [] xs s).1 ∧ Ext O O1 w w1) := ⟨hv, hs1, HE0.out.trans hx1⟩
        clear hv hs1 hx1
        go_wp2_with fail
        go_ret
        exact ⟨_, O1, rfl, HF.out⟩
      · have f3 : (kind == 3) = false := by rw [beq_eq_false_iff_ne]; exact e3
        by_cases e4 : kind = 4
        · subst e4
          rw [if_neg (by decide), if_neg (by decide), if_neg (by decide), if_pos rfl]
          go_enter Try.func14, Try.ntmps14
          go_wp2_with fail
          rw [← HAA.out]
          go_wp2_with fail
          refine H4.out.mono ?_
          rintro e w1 ⟨rfl, O1, hs1, hx1⟩
          have HF : Hid (Sto w1 b O1 (eqS xs ys s).1 ∧ Ext O O1 w w1) := ⟨hs1, HE0.out.trans hx1⟩
          clear hs1 hx1
          go_wp2_with fail
          go_ret
          exact ⟨_, O1, rfl, ivecX_one HF.out.1.lt, HF.out.1.below ((Below.refl _ _).alloc (Nat.le_refl _) _), HF.out.2.alloc _⟩
        · have f4 : (kind == 4) = false := by rw [beq_eq_false_iff_ne]; exact e4
          by_cases e5 : kind = 5
          · subst e5
            rw [if_neg (by decide), if_neg (by decide), if_neg (by decide), if_neg (by decide), if_pos rfl]
            go_enter Try.func14, Try.ntmps14
            go_wp2_with fail
            rw [← HAA.out]
            go_wp2_with fail
            refine H5.out.mono ?_
            rintro e w1 ⟨rfl, O1, hs1, hx1⟩
            have HF : Hid (Sto w1 b O1 (lessS xs ys s).1 ∧ Ext O O1 w w1) := ⟨hs1, HE0.out.trans hx1⟩
            clear hs1 hx1
            go_wp2_with fail
            go_ret
            exact ⟨_, O1, rfl, ivecX_one HF.out.1.lt, HF.out.1.below ((Below.refl _ _).alloc (Nat.le_refl _) _), HF.out.2.alloc _⟩
          · have f5 : (kind == 5) = false := by rw [beq_eq_false_iff_ne]; exact e5
            by_cases e6 : kind = 6
            · subst e6
              rw [if_neg (by decide), if_neg (by decide), if_neg (by decide), if_neg (by decide), if_neg (by decide), if_pos rfl]
              go_enter Try.func14, Try.ntmps14
              go_wp2_with fail
              rw [← HAA.out]
              go_wp2_with fail
              refine H6.out.mono ?_
              rintro e w1 ⟨rfl, O1, hs1, hx1⟩
              have HF : Hid (Sto w1 b O1 (atMostS xs ys s).1 ∧ Ext O O1 w w1) := ⟨hs1, HE0.out.trans hx1⟩
              clear hs1 hx1
              go_wp2_with fail
              go_ret
              exact ⟨_, O1, rfl, ivecX_one HF.out.1.lt, HF.out.1.below ((Below.refl _ _).alloc (Nat.le_refl _) _), HF.out.2.alloc _⟩
            · have f6 : (kind == 6) = false := by rw [beq_eq_false_iff_ne]; exact e6
              by_cases e7 : kind = 7
              · subst e7
                rw [if_neg (by decide), if_neg (by decide), if_neg (by decide), if_neg (by decide), if_neg (by decide), if_neg (by decide), if_pos rfl]
                go_enter Try.func14, Try.ntmps14
                go_wp2_with fail
                rw [← HAA.out]
                go_wp2_with fail
                refine H7.out.mono ?_
                rintro e w1 ⟨rfl, O1, hs1, hx1⟩
                have HF : Hid (Sto w1 b O1 (anyS xs s).1 ∧ Ext O O1 w w1) := ⟨hs1, HE0.out.trans hx1⟩
                clear hs1 hx1
                go_wp2_with fail
                go_ret
                exact ⟨_, O1, rfl, ivecX_one HF.out.1.lt, HF.out.1.below ((Below.refl _ _).alloc (Nat.le_refl _) _), HF.out.2.alloc _⟩
              · have f7 : (kind == 7) = false := by rw [beq_eq_false_iff_ne]; exact e7
                by_cases e8 : kind = 8
                · subst e8
                  rw [if_neg (by decide), if_neg (by decide), if_neg (by decide), if_neg (by decide), if_neg (by decide), if_neg (by decide), if_neg (by decide), if_pos rfl]
                  go_enter Try.func14, Try.ntmps14
                  go_wp2_with fail
                  rw [← HAA.out]
                  go_wp2_with fail
                  refine H8.out.mono ?_
                  rintro e w1 ⟨rfl, O1, hs1, hx1⟩
                  have HF : Hid (Sto w1 b O1 (agreesS fm fv xs s).1 ∧ Ext O O1 w w1) := ⟨hs1, HE0.out.trans hx1⟩
                  clear hs1 hx1
                  go_wp2_with fail
                  go_ret
                  exact ⟨_, O1, rfl, ivecX_one HF.out.1.lt, HF.out.1.below ((Below.refl _ _).alloc (Nat.le_refl _) _), HF.out.2.alloc _⟩
                · have f8 : (kind == 8) = false := by rw [beq_eq_false_iff_ne]; exact e8
                  rw [if_neg e1, if_neg e2, if_neg e3, if_neg e4, if_neg e5, if_neg e6, if_neg e7, if_neg e8]
                  clear e1 e2 e3 e4 e5 e6 e7 e8
                  go_enter Try.func14, Try.ntmps14
                  go_wp2_with fail
                  try rw [← HAA.out]
                  go_wp2_with fail
                  go_ret
                  exact ⟨_, O, rfl, ⟨IVec.nil _, (fun k hk _ => by cases hk), NilOk.nil⟩, HSA.out, HE0.out⟩

set_option maxRecDepth 100000 in
set_option maxHeartbeats 3000000 in
theorem want_rs (b : Nat) (O : Nat → Prop) (s : BS) (kind oa ob : Int) (va vb : Value) (xs ys : List Int) (v0 v1 m0 m1 : Int) (fv fm : Int → Bool) (HV : Hid (BitsAreR v0 v1 fv)) (HM : Hid (BitsAreR m0 m1 fm)) (w : World) (hs : RSto w b O s) (ha : IVecX w O va xs) (hb : IVecX w O vb ys) (hxl : xs.length ≤ 1000000) (hyl : ys.length ≤ 1000000) :
    Calls Try.prog 15 #[.pointer (some ⟨b, 0, none⟩), va, vb, .agg #[.int .i64 kind, .int .i64 oa, .int .i64 ob, .int .u64 v0, .int .u64 v1, .int .u64 m0, .int .u64 m1]] w (RetVR b O w (callF kind fm fv xs ys s)) := by
  obtain ⟨A, hA⟩ : ∃ A, A = w.alloc (.cells #[.int .i64 kind, .int .i64 oa, .int .i64 ob, .int .u64 v0, .int .u64 v1, .int .u64 m0, .int .u64 m1] 45) := ⟨_, rfl⟩
  have hBA : Below w.heap.size w A := by rw [hA]; exact (by repeat (first | exact Below.refl _ _ | assumption | refine Below.drew ?_ | refine Below.alloc ?_ (by first | omega | (simp <;> omega)) _ | refine Below.setCell ?_ (by first | omega | (simp <;> omega)) _ | refine Below.trans ?_ (Below.mono (by assumption) (by first | omega | (simp <;> omega)))))
  have k0 : A.cell? ⟨w.heap.size, 0, none⟩ = some (.int .i64 kind) := by rw [hA]; simp [go_sem]
  have p0 : A.cell? ⟨w.heap.size, 3, none⟩ = some (.int .u64 v0) := by rw [hA]; simp [go_sem]
  have p1 : A.cell? ⟨w.heap.size, 4, none⟩ = some (.int .u64 v1) := by rw [hA]; simp [go_sem]
  have p2 : A.cell? ⟨w.heap.size, 5, none⟩ = some (.int .u64 m0) := by rw [hA]; simp [go_sem]
  have p3 : A.cell? ⟨w.heap.size, 6, none⟩ = some (.int .u64 m1) := by rw [hA]; simp [go_sem]
  have HSA := Lib.hid (hs.below hBA)
  have HVA := Lib.hid (ha.below hBA)
  have HVB := Lib.hid (hb.below hBA)
  have HBA := Lib.hid hBA
  have HAA := Lib.hid hA
  have H1 := Lib.hid (add_rs b O s va vb xs ys A HSA.out HVA.out HVB.out hxl hyl)
  have H2 := Lib.hid (sub_rs b O s va vb xs ys A HSA.out HVA.out HVB.out hxl hyl)
  have H3 := Lib.hid (neg_rs b O s va xs A HSA.out HVA.out hxl)
  have H4 := Lib.hid (eq_rs b O s va vb xs ys A HSA.out HVA.out HVB.out hxl hyl)
  have H5 := Lib.hid (less_rs b O s va vb xs ys A HSA.out HVA.out HVB.out hxl hyl)
  have H6 := Lib.hid (atMost_rs b O s va vb xs ys A HSA.out HVA.out HVB.out hxl hyl)
  have H7 := Lib.hid (any_rs b O s va xs A HSA.out HVA.out hxl)
  have H8 := Lib.hid (agrees_rs b O s va xs v0 v1 m0 m1 fv fm HV HM A HSA.out HVA.out hxl)
  have HE0 : Hid (Ext O O w A) := Ext.of_below hBA
  unfold callF
  clear hs ha hb hA hBA
  by_cases e1 : kind = 1
  · subst e1
    rw [if_pos rfl]
    go_enter Try.func15, Try.ntmps15
    go_wp2_with fail
    rw [← HAA.out]
    go_wp2_with fail
    refine H1.out.mono ?_
    rintro e w1 ⟨v, O1, rfl, hv, hs1, hx1⟩
    have HF : Hid (IVecF w w1 O1 v (((sumA xs ys 0 s (max xs.length ys.length)).1, (sumA xs ys 0 s (max xs.length ys.length)).2.2)).2 ∧ RSto w1 b O1 (((sumA xs ys 0 s (max xs.length ys.length)).1, (sumA xs ys 0 s (max xs.length ys.length)).2.2)).1 ∧ Ext O O1 w w1) := ⟨hv.sooner HE0.out.1.size, hs1, HE0.out.trans hx1⟩
    clear hv hs1 hx1
    go_wp2_with fail
    go_ret
    exact ⟨_, O1, rfl, HF.out⟩
  · have f1 : (kind == 1) = false := by rw [beq_eq_false_iff_ne]; exact e1
    by_cases e2 : kind = 2
    · subst e2
      rw [if_neg (by decide), if_pos rfl]
      go_enter Try.func15, Try.ntmps15
      go_wp2_with fail
      rw [← HAA.out]
      go_wp2_with fail
      refine H2.out.mono ?_
      rintro e w1 ⟨v, O1, rfl, hv, hs1, hx1⟩
      have HF : Hid (IVecF w w1 O1 v (subS xs ys s).2 ∧ RSto w1 b O1 (subS xs ys s).1 ∧ Ext O O1 w w1) := ⟨hv.sooner HE0.out.1.size, hs1, HE0.out.trans hx1⟩
      clear hv hs1 hx1
      go_wp2_with fail
      go_ret
      exact ⟨_, O1, rfl, HF.out⟩
    · have f2 : (kind == 2) = false := by rw [beq_eq_false_iff_ne]; exact e2
      by_cases e3 : kind = 3
      · subst e3
        rw [if_neg (by decide), if_neg (by decide), if_pos rfl]
        go_enter Try.func15, Try.ntmps15
        go_wp2_with fail
        rw [← HAA.out]
        go_wp2_with fail
        refine H3.out.mono ?_
        rintro e w1 ⟨v, O1, rfl, hv, hs1, hx1⟩
        have HF : Hid (IVecF w w1 O1 v (subS [] xs s).2 ∧ RSto w1 b O1 (subS [] xs s).1 ∧ Ext O O1 w w1) := ⟨hv.sooner HE0.out.1.size, hs1, HE0.out.trans hx1⟩
        clear hv hs1 hx1
        go_wp2_with fail
        go_ret
        exact ⟨_, O1, rfl, HF.out⟩
      · have f3 : (kind == 3) = false := by rw [beq_eq_false_iff_ne]; exact e3
        by_cases e4 : kind = 4
        · subst e4
          rw [if_neg (by decide), if_neg (by decide), if_neg (by decide), if_pos rfl]
          go_enter Try.func15, Try.ntmps15
          go_wp2_with fail
          rw [← HAA.out]
          go_wp2_with fail
          refine H4.out.mono ?_
          rintro e w1 ⟨rfl, O1, hs1, hx1⟩
          have HF : Hid (RSto w1 b O1 (eqS xs ys s).1 ∧ Ext O O1 w w1) := ⟨hs1, HE0.out.trans hx1⟩
          clear hs1 hx1
          go_wp2_with fail
          go_ret
          exact ⟨_, O1, rfl, ⟨ivecX_one HF.out.1.lt, fun k hk _ => by cases hk; exact HF.out.2.1.size⟩, HF.out.1.below ((Below.refl _ _).alloc (Nat.le_refl _) _), HF.out.2.alloc _⟩
        · have f4 : (kind == 4) = false := by rw [beq_eq_false_iff_ne]; exact e4
          by_cases e5 : kind = 5
          · subst e5
            rw [if_neg (by decide), if_neg (by decide), if_neg (by decide), if_neg (by decide), if_pos rfl]
            go_enter Try.func15, Try.ntmps15
            go_wp2_with fail
            rw [← HAA.out]
            go_wp2_with fail
            refine H5.out.mono ?_
            rintro e w1 ⟨rfl, O1, hs1, hx1⟩
            have HF : Hid (RSto w1 b O1 (lessS xs ys s).1 ∧ Ext O O1 w w1) := ⟨hs1, HE0.out.trans hx1⟩
            clear hs1 hx1
            go_wp2_with fail
            go_ret
            exact ⟨_, O1, rfl, ⟨ivecX_one HF.out.1.lt, fun k hk _ => by cases hk; exact HF.out.2.1.size⟩, HF.out.1.below ((Below.refl _ _).alloc (Nat.le_refl _) _), HF.out.2.alloc _⟩
          · have f5 : (kind == 5) = false := by rw [beq_eq_false_iff_ne]; exact e5
            by_cases e6 : kind = 6
            · subst e6
              rw [if_neg (by decide), if_neg (by decide), if_neg (by decide), if_neg (by decide), if_neg (by decide), if_pos rfl]
              go_enter Try.func15, Try.ntmps15
              go_wp2_with fail
              rw [← HAA.out]
              go_wp2_with fail
              refine H6.out.mono ?_
              rintro e w1 ⟨rfl, O1, hs1, hx1⟩
              have HF : Hid (RSto w1 b O1 (atMostS xs ys s).1 ∧ Ext O O1 w w1) := ⟨hs1, HE0.out.trans hx1⟩
              clear hs1 hx1
              go_wp2_with fail
              go_ret
              exact ⟨_, O1, rfl, ⟨ivecX_one HF.out.1.lt, fun k hk _ => by cases hk; exact HF.out.2.1.size⟩, HF.out.1.below ((Below.refl _ _).alloc (Nat.le_refl _) _), HF.out.2.alloc _⟩
            · have f6 : (kind == 6) = false := by rw [beq_eq_false_iff_ne]; exact e6
              by_cases e7 : kind = 7
              · subst e7
                rw [if_neg (by decide), if_neg (by decide), if_neg (by decide), if_neg (by decide), if_neg (by decide), if_neg (by decide), if_pos rfl]
                go_enter Try.func15, Try.ntmps15
                go_wp2_with fail
                rw [← HAA.out]
                go_wp2_with fail
                refine H7.out.mono ?_
                rintro e w1 ⟨rfl, O1, hs1, hx1⟩
                have HF : Hid (RSto w1 b O1 (anyS xs s).1 ∧ Ext O O1 w w1) := ⟨hs1, HE0.out.trans hx1⟩
                clear hs1 hx1
                go_wp2_with fail
                go_ret
                exact ⟨_, O1, rfl, ⟨ivecX_one HF.out.1.lt, fun k hk _ => by cases hk; exact HF.out.2.1.size⟩, HF.out.1.below ((Below.refl _ _).alloc (Nat.le_refl _) _), HF.out.2.alloc _⟩
              · have f7 : (kind == 7) = false := by rw [beq_eq_false_iff_ne]; exact e7
                by_cases e8 : kind = 8
                · subst e8
                  rw [if_neg (by decide), if_neg (by decide), if_neg (by decide), if_neg (by decide), if_neg (by decide), if_neg (by decide), if_neg (by decide), if_pos rfl]
                  go_enter Try.func15, Try.ntmps15
                  go_wp2_with fail
                  rw [← HAA.out]
                  go_wp2_with fail
                  refine H8.out.mono ?_
                  rintro e w1 ⟨rfl, O1, hs1, hx1⟩
                  have HF : Hid (RSto w1 b O1 (agreesS fm fv xs s).1 ∧ Ext O O1 w w1) := ⟨hs1, HE0.out.trans hx1⟩
                  clear hs1 hx1
                  go_wp2_with fail
                  go_ret
                  exact ⟨_, O1, rfl, ⟨ivecX_one HF.out.1.lt, fun k hk _ => by cases hk; exact HF.out.2.1.size⟩, HF.out.1.below ((Below.refl _ _).alloc (Nat.le_refl _) _), HF.out.2.alloc _⟩
                · have f8 : (kind == 8) = false := by rw [beq_eq_false_iff_ne]; exact e8
                  rw [if_neg e1, if_neg e2, if_neg e3, if_neg e4, if_neg e5, if_neg e6, if_neg e7, if_neg e8]
                  clear e1 e2 e3 e4 e5 e6 e7 e8
                  go_enter Try.func15, Try.ntmps15
                  go_wp2_with fail
                  try rw [← HAA.out]
                  go_wp2_with fail
                  go_ret
                  exact ⟨_, O, rfl, ⟨⟨IVec.nil _, (fun k hk _ => by cases hk), NilOk.nil⟩, fun k hk => by cases hk⟩, HSA.out, HE0.out⟩

end Go.Proofs.Ytlnkflmnjkmhkaa

/-
  The law SymopPlays of layer 18: the vectors that are told, and what holds of all of memory.
-/
namespace Go.Proofs.Ytlnkflmnjkmhkaa
open Go.RowKit Go.Maps

/-- Which of n is asked for: the last ones first, around. -/
def atJ (n : Nat) (i : Int) : Nat := n - 1 - (IntKind.u64.wrap i).toNat % n
theorem atJ_lt {n : Nat} {i : Int} (h : 0 < n) : atJ n i < n := by unfold atJ; omega

set_option maxRecDepth 100000 in
set_option maxHeartbeats 1600000 in
theorem at_any (g ra n cp : Nat) (vals : Nat → Value) (i : Int) (w : World) (h0 : 0 < n) (hn : n ≤ 1000) (hc : n ≤ cp) (hb : w.cell? ⟨g, 0, none⟩ = some (.slice (some ⟨ra, 0, none⟩) n cp)) (hv : ∀ j, j < n → w.cell? ⟨ra, j, none⟩ = some (vals j)) (hsh : ∀ j, j < n → ∃ p m c, vals j = .slice p m c) :
    Calls Try.prog 13 #[.int .i64 i, .pointer (some ⟨g, 0, none⟩)] w fun e w' => e = .returned (vals (atJ n i)) ∧ Below w.heap.size w w' := by
  obtain ⟨u, hu⟩ : ∃ u : Nat, IntKind.u64.wrap i = (u : Int) := ⟨(IntKind.u64.wrap i).toNat, by rw [IntKind.wrap_u64]; omega⟩
  have hun : IntKind.u64.wrap (n : Int) = (n : Int) := by rw [IntKind.wrap_u64]; omega
  have hu' : (IntKind.u64.wrap i).toNat = u := by omega
  have HJ : atJ n i = n - 1 - u % n := by unfold atJ; rw [hu']
  rw [HJ]
  clear HJ hu'
  obtain ⟨m, hm⟩ : ∃ m : Nat, m = u % n := ⟨_, rfl⟩
  rw [← hm]
  have hmn : m < n := by rw [hm]; exact Nat.mod_lt _ h0
  have hmod : (u : Int).tmod (n : Int) = (m : Int) := by rw [hm]; rfl
  have hwm : IntKind.i64.wrap (m : Int) = (m : Int) := IntWalk.i64_in _ (by omega)
  have hj : n - 1 - m < n := by omega
  have hcell := hv (n - 1 - m) hj
  obtain ⟨p, k, c, hval⟩ := hsh (n - 1 - m) hj
  rw [hval] at hcell
  have HV := Lib.hid hval
  have hix : ((n : Int) - 1 - (m : Int)) = ((n - 1 - m : Nat) : Int) := by omega
  clear hv hsh hval hm
  go_enter Try.func13, Try.ntmps13
  go_wp2_with fail
  go_quiet (fail)
  go_wp2_with fail
  go_ret
  exact ⟨by rw [HV.out]; rfl, below_drewN (Below.refl _ _) _⟩

end Go.Proofs.Ytlnkflmnjkmhkaa

/-
  The law SymopPlays of layer 18: what holds of all of memory at a round's head, and what each step does to it.
-/
namespace Go.Proofs.Ytlnkflmnjkmhkaa
open Go.RowKit Go.Maps

theorem Try.infoVec : (Try.prog.info? 34).map (fun i => (i.zero, i.size, i.bytes)) = some (some (.slice none 0 0), 1, 24) := by kernel_rfl

/-- The blocks that may turn: of the program's store, of the reference's, of the box of the vectors that were told, of their row. -/
def Mut (O Ow : Nat → Prop) (g : Nat) (v : Value) (k : Nat) : Prop := O k ∨ Ow k ∨ k = g ∨ v.ownBlock = some k

structure PlaysI (w0 W : World) (b : Nat) (O : Nat → Prop) (s : BS) (bw : Nat) (Ow : Nat → Prop) (t : BS) (g n : Nat) (v : Value) (vals : Nat → Value) (xs : Nat → List Int) : Prop where
  sto : Sto W b O s
  rst : RSto W bw Ow t
  box : W.cell? ⟨g, 0, none⟩ = some v
  fro : W.frozen? ⟨g, 0, none⟩ = false
  row : W.ownsRow 0 34 1 v n ((List.range n).map vals)
  vg : v.ownBlock ≠ some g
  new : ∀ k, Mut O Ow g v k → w0.heap.size ≤ k
  d1 : ∀ k, O k → ¬ Ow k ∧ k ≠ g ∧ v.ownBlock ≠ some k
  d2 : ∀ k, Ow k → k ≠ g ∧ v.ownBlock ≠ some k
  vec : ∀ j, j < n → IVecX W (Mut O Ow g v) (vals j) (xs j) ∧ (xs j).length ≤ 4
  below : Below w0.heap.size w0 W

variable {w0 W W' : World} {b : Nat} {O O' : Nat → Prop} {s s' : BS} {bw : Nat} {Ow : Nat → Prop} {t : BS} {g n : Nat} {v : Value} {vals : Nat → Value} {xs : Nat → List Int}

theorem IVecX.sub {W : World} {P Q : Nat → Prop} {v : Value} {xs : List Int} (h : IVecX W P v xs) (hq : ∀ k, Q k → P k) : IVecX W Q v xs := ⟨h.1, fun k hk h0 hQ => h.2.1 k hk h0 (hq k hQ), h.2.2⟩

theorem PlaysI.lt (h : PlaysI w0 W b O s bw Ow t g n v vals xs) : ∀ k, Mut O Ow g v k → k < W.heap.size := by
  rintro k (hk | hk | rfl | hk)
  · exact h.sto.lt k hk
  · exact h.rst.lt k hk
  · exact (cell_there h.box).1
  · exact (h.row.lt k hk).2

/-- Behind a call that turns the program's store alone. -/
theorem PlaysI.stoCall (h : PlaysI w0 W b O s bw Ow t g n v vals xs) (hs : Sto W' b O' s') (he : Ext O O' W W') : PlaysI w0 W' b O' s' bw Ow t g n v vals xs := by
  have hlt := h.lt
  have hkeep : ∀ k, k < W.heap.size → ¬ O k → W'.heap[k]? = W.heap[k]? ∧ ¬ O' k := fun k hk hO => ⟨he.1.block k hk hO, fun h' => by rcases he.2 k h' with q | q; exact hO q; omega⟩
  have hM : Ext (Mut O Ow g v) (Mut O' Ow g v) W W' := ⟨⟨he.1.os, he.1.tape, he.1.output, he.1.size, fun k hk hO => he.1.block k hk (fun q => hO (.inl q))⟩, fun k hk => by
    rcases hk with hk | hk
    · rcases he.2 k hk with q | q
      · exact .inl (.inl q)
      · exact .inr q
    · exact .inl (.inr hk)⟩
  have gO : ¬ O g := fun q => (h.d1 g q).2.1 rfl
  have kg := he.cell (p := ⟨g, 0, none⟩) (cell_there h.box).1 gO
  obtain ⟨r1, r2⟩ := own_ext h.row (fun k hk hO => (h.d1 k hO).2.2 hk) he
  refine ⟨hs, h.rst.kept fun k hk => (hkeep k (h.rst.lt k hk) (fun q => (h.d1 k q).1 hk)).1, kg.1.trans h.box, kg.2.1.trans h.fro, r1, h.vg, fun k hk => ?_, fun k hk => ?_, h.d2, fun j hj => ⟨(h.vec j hj).1.ext hM, (h.vec j hj).2⟩, below_ext h.below hM h.new h.below.size⟩
  · rcases hM.2 k hk with q | q
    · exact h.new k q
    · exact Nat.le_trans h.below.size q
  · rcases he.2 k hk with q | q
    · exact h.d1 k q
    · refine ⟨fun q2 => ?_, fun q2 => ?_, fun q2 => ?_⟩
      · have := hlt k (.inr (.inl q2)); omega
      · have := hlt k (.inr (.inr (.inl q2))); omega
      · have := hlt k (.inr (.inr (.inr q2))); omega
/-- Behind a call that turns the reference's store alone. -/
theorem PlaysI.rstCall (h : PlaysI w0 W b O s bw Ow t g n v vals xs) (hs : RSto W' bw O' s') (he : Ext Ow O' W W') : PlaysI w0 W' b O s bw O' s' g n v vals xs := by
  have hlt := h.lt
  have hM : Ext (Mut O Ow g v) (Mut O O' g v) W W' := ⟨⟨he.1.os, he.1.tape, he.1.output, he.1.size, fun k hk hO => he.1.block k hk (fun q => hO (.inr (.inl q)))⟩, fun k hk => by
    rcases hk with hk | hk | hk
    · exact .inl (.inl hk)
    · rcases he.2 k hk with q | q
      · exact .inl (.inr (.inl q))
      · exact .inr q
    · exact .inl (.inr (.inr hk))⟩
  have gO : ¬ Ow g := fun q => (h.d2 g q).1 rfl
  have kg := he.cell (p := ⟨g, 0, none⟩) (cell_there h.box).1 gO
  obtain ⟨r1, r2⟩ := own_ext h.row (fun k hk hO => (h.d2 k hO).2 hk) he
  refine ⟨h.sto.kept fun k hk => he.1.block k (h.sto.lt k hk) (h.d1 k hk).1, hs, kg.1.trans h.box, kg.2.1.trans h.fro, r1, h.vg, fun k hk => ?_, fun k hk => ⟨fun q => ?_, (h.d1 k hk).2⟩, fun k hk => ?_, fun j hj => ⟨(h.vec j hj).1.ext hM, (h.vec j hj).2⟩, below_ext h.below hM h.new h.below.size⟩
  · rcases hM.2 k hk with q | q
    · exact h.new k q
    · exact Nat.le_trans h.below.size q
  · rcases he.2 k q with q2 | q2
    · exact (h.d1 k hk).1 q2
    · have := hlt k (.inl hk); omega
  · rcases he.2 k hk with q | q
    · exact h.d2 k q
    · refine ⟨fun q2 => ?_, fun q2 => ?_⟩
      · have := hlt k (.inr (.inr (.inl q2))); omega
      · have := hlt k (.inr (.inr (.inr q2))); omega
theorem PlaysI.later (h : PlaysI w0 W b O s bw Ow t g n v vals xs) (hb : Below W.heap.size W W') : PlaysI w0 W' b O s bw Ow t g n v vals xs := h.stoCall (h.sto.below hb) (Ext.of_below hb)

def putAt {α : Type} (f : Nat → α) (n : Nat) (x : α) (j : Nat) : α := if j = n then x else f j
theorem range_put (vals : Nat → Value) (n : Nat) (x : Value) : (List.range (n + 1)).map (putAt vals n x) = (List.range n).map vals ++ [x] := by
  rw [List.range_succ, List.map_append]
  congr 1
  · apply List.map_congr_left
    intro j hj
    have := List.mem_range.1 hj
    unfold putAt
    rw [if_neg (by omega)]
  · simp [putAt]

/-- Behind the append of a vector, and the store of the row into its box. -/
theorem PlaysI.push {W2 : World} {o : Obj} {v' x : Value} {ys : List Int} (h : PlaysI w0 W b O s bw Ow t g n v vals xs) (hx : IVecX W (Mut O Ow g v) x ys) (hy : ys.length ≤ 4)
    (hown : W2.ownsRow 0 34 1 v' (n + 1) ((List.range n).map vals ++ [x])) (hg : (W.alloc o).grownBy W2 v.ownBlock) (hwh : v'.ownBlock = v.ownBlock ∨ ∀ k, v'.ownBlock = some k → (W.alloc o).heap.size ≤ k) :
    PlaysI w0 (W2.setCell ⟨g, 0, none⟩ v') b O s bw Ow t g (n + 1) v' (putAt vals n x) (putAt xs n ys) := by
  have hlt := h.lt
  have hgl : g < W.heap.size := (cell_there h.box).1
  have hsz : (W.alloc o).heap.size = W.heap.size + 1 := by simp
  have hsz2 := hg.size
  have hvb : v'.ownBlock ≠ some g := fun e => by
    rcases hwh with q | q
    · exact h.vg (q ▸ e)
    · have := q g e; omega
  have hkeep : ∀ k, k < W.heap.size → k ≠ g → v.ownBlock ≠ some k → (W2.setCell ⟨g, 0, none⟩ v').heap[k]? = W.heap[k]? := fun k hk h1 h2 => by
    rw [Below.heap_setCell W2 ⟨g, 0, none⟩ v' k h1, hg.block k (by omega) (fun e => h2 e.symm)]
    exact Below.heap_alloc W o k hk
  have hM : Ext (Mut O Ow g v) (Mut O Ow g v') W (W2.setCell ⟨g, 0, none⟩ v') := ⟨⟨hg.os, hg.tape, hg.output, by simp [World.setCell]; omega, fun k hk hO => hkeep k hk (fun e => hO (.inr (.inr (.inl e)))) (fun e => hO (.inr (.inr (.inr e))))⟩, fun k hk => by
    rcases hk with hk | hk | hk | hk
    · exact .inl (.inl hk)
    · exact .inl (.inr (.inl hk))
    · exact .inl (.inr (.inr (.inl hk)))
    · rcases hwh with q | q
      · exact .inl (.inr (.inr (.inr (q ▸ hk))))
      · exact .inr (by have := q k hk; omega)⟩
  have hg0 : ∃ y, W2.cell? ⟨g, 0, none⟩ = some y := ⟨v, (World.cell?_of_block (a := ⟨g, 0, none⟩) ((hg.block g (by omega) (fun e => h.vg e.symm)).trans (Below.heap_alloc W o g hgl))).trans h.box⟩
  have hf0 : W2.frozen? ⟨g, 0, none⟩ = false := (World.frozen?_of_block (a := ⟨g, 0, none⟩) ((hg.block g (by omega) (fun e => h.vg e.symm)).trans (Below.heap_alloc W o g hgl))).trans h.fro
  obtain ⟨y, hg0⟩ := hg0
  refine ⟨h.sto.kept fun k hk => hkeep k (h.sto.lt k hk) (h.d1 k hk).2.1 (h.d1 k hk).2.2, h.rst.kept fun k hk => hkeep k (h.rst.lt k hk) (h.d2 k hk).1 (h.d2 k hk).2, World.cell?_setCell_same _ _ _ hg0, by rw [World.frozen?_setCell]; exact hf0, ?_, hvb, fun k hk => ?_, fun k hk => ⟨(h.d1 k hk).1, (h.d1 k hk).2.1, fun e => ?_⟩, fun k hk => ⟨(h.d2 k hk).1, fun e => ?_⟩, fun j hj => ?_, below_ext h.below hM h.new h.below.size⟩
  · rw [range_put]
    exact own_setCell hown hvb v'
  · rcases hM.2 k hk with q | q
    · exact h.new k q
    · exact Nat.le_trans h.below.size q
  · rcases hwh with q | q
    · exact (h.d1 k hk).2.2 (q ▸ e)
    · have := q k e; have := h.sto.lt k hk; omega
  · rcases hwh with q | q
    · exact (h.d2 k hk).2 (q ▸ e)
    · have := q k e; have := h.rst.lt k hk; omega
  · unfold putAt
    by_cases e : j = n
    · rw [if_pos e, if_pos e]; exact ⟨hx.ext hM, hy⟩
    · rw [if_neg e, if_neg e]; exact ⟨(h.vec j (by omega)).1.ext hM, (h.vec j (by omega)).2⟩

/-- append to a row of vectors of one vector: where the new row lies. -/
theorem append_vec1 {ops : Array Oper} {rest : List Oper} {o : Oper} {a : Act} {Q : Exit → Act → World → Prop} {w : World} (hgd : o.guard = none) (s x : Operand)
    (ho : o.op = .call { callee := .builtin .append, args := #[s, x], argTypes := #[32, 32] })
    (v : Value) (n : Nat) (zs : List Value) (hs : a.eval s = v) (hown : w.ownsRow 0 34 1 v n zs) (g : Nat) (z : Value) (hz1 : ∃ p m c, z = .slice p m c) (hx : a.eval x = .slice (some ⟨g, 0, none⟩) 1 1) (hc : w.cell? ⟨g, 0, none⟩ = some z) (hl : n ≤ 2000000)
    (h : ∀ v' w', w'.ownsRow 0 34 1 v' (n + 1) (zs ++ [z]) → w.grownBy w' v.ownBlock → (v'.ownBlock = v.ownBlock ∨ ∀ k, v'.ownBlock = some k → w.heap.size ≤ k) → wpList Try.prog ops Q rest (a.put o.dst v') w') : wpList Try.prog ops Q (o :: rest) a w := by
  obtain ⟨i0, hi, hz0, hz1', hz2⟩ := info_parts Try.infoVec
  have hcell : ∀ j u, [z][j]? = some u → w.cell? ((⟨g, 0, none⟩ : Addr).add j) = some u := by
    intro j u hu
    match j, hu with
    | 0, hu => simp at hu; subst hu; simpa [Addr.add] using hc
  refine wpList_plain hgd fun K hK => ?_
  have key := step_append_two (P := Try.prog) (ops := ops) (w := w) (a := a) (o := o) (K := K) (Q := Q) (E := True) hgd s x 32 ho 34 i0 (.slice none 0 0) 1 24 Try.underlying32 hi hz0 hz1' hz2 rfl (by decide) v n _ hs hown ⟨g, 0, none⟩ 1 1 [z] hx rfl hcell (by
      intro u hu
      simp at hu
      subst hu
      obtain ⟨p, m, c, rfl⟩ := hz1
      rfl) (by unfold maxLen; omega) (by omega)
    (fun v' w' h1 h2 h3 => hK _ _ (h v' w' h1 h2 h3))
  have hw : Region.wanted o (yielded ops a.tmps) = true := by simp [Region.wanted, hgd]
  rw [if_pos hw] at key
  exact key

end Go.Proofs.Ytlnkflmnjkmhkaa
