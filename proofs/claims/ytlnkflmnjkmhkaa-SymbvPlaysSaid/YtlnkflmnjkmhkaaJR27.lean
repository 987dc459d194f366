/-
  Contracts of quillonlaw17.call and want: the same plain function of a store.
-/
import Derived.Test.YtlnkflmnjkmhkaaJR26
import Derived.BigQuiet

namespace Go.Proofs.Ytlnkflmnjkmhkaa
open Go.RowKit Go.Maps

/-- What a call makes: the store behind it, and the vector. -/
def callG (kind oa ok ol : Int) (nn : Nat) (xs ys cs : List Int) (s : BS) : BS × List Int :=
  if kind = 1 then (s, constBits nn (max 0 (min ok 256)).toNat)
  else if kind = 2 then ((varsS oa (max 0 (min ok 64)).toNat s).1, (varsS oa (max 0 (min ok 64)).toNat s).2.reverse)
  else if kind = 3 then zipS andF xs ys (max xs.length ys.length) s
  else if kind = 4 then zipS orF xs ys (max xs.length ys.length) s
  else if kind = 5 then zipS xorF xs ys (max xs.length ys.length) s
  else if kind = 6 then mapS notF xs xs.length s
  else if kind = 7 then zipS (fun s x y => iteF s (cs.getD 0 0) x y) xs ys (max xs.length ys.length) s
  else if kind = 8 then (s, resizeL xs (max 0 (min ok 256)).toNat)
  else if kind = 9 then (s, sliceL xs ok ol)
  else if kind = 10 then (s, ys ++ xs)
  else if kind = 11 then (s, shlL xs (shAmt xs.length ok))
  else if kind = 12 then (s, shrL xs (shAmt xs.length ok))
  else (s, [])
theorem sliceL_le (xs : List Int) (hi lo : Int) : (sliceL xs hi lo).length ≤ xs.length := by
  unfold sliceL
  split
  · simp
  · simp; omega
theorem callG_len {kind oa ok ol : Int} {nn : Nat} {xs ys cs : List Int} {s : BS} (hx : xs.length ≤ 300) (hy : ys.length ≤ 300) : (callG kind oa ok ol nn xs ys cs s).2.length ≤ 600 := by
  unfold callG
  by_cases e1 : kind = 1
  · rw [if_pos e1]; show (constBits _ _).length ≤ 600; rw [constBits_len]; omega
  · rw [if_neg e1]
    by_cases e2 : kind = 2
    · rw [if_pos e2]; show (List.reverse _).length ≤ 600; rw [List.length_reverse, varsS_len]; omega
    · rw [if_neg e2]
      by_cases e3 : kind = 3
      · rw [if_pos e3]; rw [zipS_len]; omega
      · rw [if_neg e3]
        by_cases e4 : kind = 4
        · rw [if_pos e4]; rw [zipS_len]; omega
        · rw [if_neg e4]
          by_cases e5 : kind = 5
          · rw [if_pos e5]; rw [zipS_len]; omega
          · rw [if_neg e5]
            by_cases e6 : kind = 6
            · rw [if_pos e6]; rw [mapS_len]; omega
            · rw [if_neg e6]
              by_cases e7 : kind = 7
              · rw [if_pos e7]; rw [zipS_len]; omega
              · rw [if_neg e7]
                by_cases e8 : kind = 8
                · rw [if_pos e8]; show (resizeL _ _).length ≤ 600; rw [resizeL_len]; omega
                · rw [if_neg e8]
                  by_cases e9 : kind = 9
                  · rw [if_pos e9]; show (sliceL _ _ _).length ≤ 600; have := sliceL_le xs ok ol; omega
                  · rw [if_neg e9]
                    by_cases e10 : kind = 10
                    · rw [if_pos e10]; show (ys ++ xs).length ≤ 600; rw [List.length_append]; omega
                    · rw [if_neg e10]
                      by_cases e11 : kind = 11
                      · rw [if_pos e11]; show (shlL _ _).length ≤ 600; rw [shlL_len]; omega
                      · rw [if_neg e11]
                        by_cases e12 : kind = 12
                        · rw [if_pos e12]; show (shrL _ _).length ≤ 600; rw [shrL_len]; omega
                        · rw [if_neg e12]
                          exact Nat.zero_le _

theorem RetVO.pre {b : Nat} {O : Nat → Prop} {w W w' : World} {r : BS × List Int} {e : Ending} (h : RetVO b O W r e w') (hb : Below w.heap.size w W) : RetVO b O w r e w' := by
  obtain ⟨v, O', h1, h2, h3, h4, h5⟩ := h
  exact ⟨v, O', h1, ownsRow_mono h2 hb.size, h3, h4, (Ext.of_below hb).trans h5⟩
theorem RetVecO.sto {b : Nat} {O : Nat → Prop} {W w' : World} {s : BS} {xs : List Int} {e : Ending} (h : RetVecO W xs e w') (hs : Sto W b O s) : RetVO b O W (s, xs) e w' := by
  obtain ⟨v, h1, h2, h3⟩ := h
  exact ⟨v, O, h1, h2, fun g hg hO => by have := (h2.lt g hg).1; have := hs.lt g hO; omega, hs.below h3, Ext.of_below h3⟩
theorem RetVR.pre {b : Nat} {O : Nat → Prop} {w W w' : World} {r : BS × List Int} {e : Ending} (h : RetVR b O W r e w') (hb : Below w.heap.size w W) : RetVR b O w r e w' := by
  obtain ⟨v, O', h1, h2, h4, h5⟩ := h
  exact ⟨v, O', h1, h2.sooner hb.size, h4, (Ext.of_below hb).trans h5⟩
theorem RetVecN.rsto {b : Nat} {O : Nat → Prop} {W w' : World} {s : BS} {xs : List Int} {e : Ending} (h : RetVecN W xs e w') (hs : RSto W b O s) : RetVR b O W (s, xs) e w' := by
  obtain ⟨v, h1, h2, h3, h4, h5⟩ := h
  exact ⟨v, O, h1, ⟨RetVecN.mkX h2 h3 h4 hs.lt, h3⟩, hs.below h5, Ext.of_below h5⟩
theorem numTwo_lt {n m : Nat} (hn : n < B) (hm : m < B) : n * B + m < B * B := by
  have : n * B ≤ (B - 1) * B := Nat.mul_le_mul_right _ (by omega)
  have e2 : (B - 1) * B = B * B - B := by rw [Nat.sub_mul, Nat.one_mul]
  have e3 : B ≤ B * B := Nat.le_mul_of_pos_left _ B_pos
  omega

set_option maxRecDepth 100000 in
set_option maxHeartbeats 4000000 in
theorem call17_new (b : Nat) (O : Nat → Prop) (s : BS) (vall : Value) (av : Int → Value) (ax : Int → List Int) (kind oa ob oc ok ol : Int) (n0 n1 : Nat) (hn0 : n0 < B) (hn1 : n1 < B) (hok : -9223372036854775808 ≤ ok ∧ ok ≤ 9223372036854775807) (w : World) (hs : Sto w b O s)
    (hat : ∀ i W, Below w.heap.size w W → Calls Try.prog 94 #[vall, .int .i64 i] W fun e w' => e = .returned (av i) ∧ W = w') (hx : ∀ i, IVecX w O (av i) (ax i) ∧ (ax i).length ≤ 300) :
    Calls Try.prog 43 #[.pointer (some ⟨b, 0, none⟩), vall, .agg #[.int .i64 kind, .int .i64 oa, .int .i64 ob, .int .i64 oc, .int .i64 ok, .int .i64 ol, .int .u64 (n0 : Int), .int .u64 (n1 : Int)]] w (RetVO b O w (callG kind oa ok ol (n0 * B + n1) (ax oa) (ax ob) (ax oc) s)) := by
  have HS := Lib.hid hs
  have HX := Lib.hid hx
  have HAT := Lib.hid hat
  have HNV : Hid (Value.agg #[.int .u64 (n0 : Int), .int .u64 (n1 : Int)] = numV (n0 * B + n1)) := numV_mk n0 n1 hn1
  have H1 : Hid (∀ W, Below w.heap.size w W → Calls Try.prog 19 #[.agg #[.int .u64 (n0 : Int), .int .u64 (n1 : Int)], .int .i64 ok] W (RetVO b O w ((s, constBits (n0 * B + n1) (max 0 (min ok 256)).toNat)))) := fun W hW => by rw [HNV.out]; exact (symbvConst_new (n0 * B + n1) ok W (numTwo_lt hn0 hn1)).mono fun e w' h => (h.sto (HS.out.below hW)).pre hW
  have H2 : Hid (∀ W, Below w.heap.size w W → Calls Try.prog 18 #[.pointer (some ⟨b, 0, none⟩), .int .i64 oa, .int .i64 ok] W (RetVO b O w (((varsS oa (max 0 (min ok 64)).toNat s).1, (varsS oa (max 0 (min ok 64)).toNat s).2.reverse)))) := fun W hW => (symbvVars_new b O s oa ok W (HS.out.below hW) hok.1 hok.2).mono fun e w' h => h.pre hW
  have H3 : Hid (∀ W, Below w.heap.size w W → Calls Try.prog 20 #[.pointer (some ⟨b, 0, none⟩), av oa, av ob] W (RetVO b O w (zipS andF (ax oa) (ax ob) (max (ax oa).length (ax ob).length) s))) := fun W hW => (symbvAnd_new b O s _ _ _ _ W (HS.out.below hW) ((HX.out oa).1.below hW) ((HX.out ob).1.below hW) (by have := (HX.out oa).2; omega) (by have := (HX.out ob).2; omega)).mono fun e w' h => h.pre hW
  have H4 : Hid (∀ W, Below w.heap.size w W → Calls Try.prog 21 #[.pointer (some ⟨b, 0, none⟩), av oa, av ob] W (RetVO b O w (zipS orF (ax oa) (ax ob) (max (ax oa).length (ax ob).length) s))) := fun W hW => (symbvOr_new b O s _ _ _ _ W (HS.out.below hW) ((HX.out oa).1.below hW) ((HX.out ob).1.below hW) (by have := (HX.out oa).2; omega) (by have := (HX.out ob).2; omega)).mono fun e w' h => h.pre hW
  have H5 : Hid (∀ W, Below w.heap.size w W → Calls Try.prog 22 #[.pointer (some ⟨b, 0, none⟩), av oa, av ob] W (RetVO b O w (zipS xorF (ax oa) (ax ob) (max (ax oa).length (ax ob).length) s))) := fun W hW => (symbvXor_new b O s _ _ _ _ W (HS.out.below hW) ((HX.out oa).1.below hW) ((HX.out ob).1.below hW) (by have := (HX.out oa).2; omega) (by have := (HX.out ob).2; omega)).mono fun e w' h => h.pre hW
  have H6 : Hid (∀ W, Below w.heap.size w W → Calls Try.prog 23 #[.pointer (some ⟨b, 0, none⟩), av oa] W (RetVO b O w (mapS notF (ax oa) (ax oa).length s))) := fun W hW => (symbvNot_new b O s _ _ W (HS.out.below hW) ((HX.out oa).1.below hW) (by have := (HX.out oa).2; omega)).mono fun e w' h => h.pre hW
  have H7 : Hid (∀ W, Below w.heap.size w W → Calls Try.prog 24 #[.pointer (some ⟨b, 0, none⟩), .int .i64 ((ax oc).getD 0 0), av oa, av ob] W (RetVO b O w (zipS (fun s x y => iteF s ((ax oc).getD 0 0) x y) (ax oa) (ax ob) (max (ax oa).length (ax ob).length) s))) := fun W hW => (symbvMux_new b O s _ _ _ _ _ W (HS.out.below hW) ((HX.out oa).1.below hW) ((HX.out ob).1.below hW) (by have := (HX.out oa).2; omega) (by have := (HX.out ob).2; omega)).mono fun e w' h => h.pre hW
  have H8 : Hid (∀ W, Below w.heap.size w W → Calls Try.prog 29 #[av oa, .int .i64 ok] W (RetVO b O w ((s, resizeL (ax oa) (max 0 (min ok 256)).toNat)))) := fun W hW => (symbvResize_new _ _ ok W ((HX.out oa).1.below hW).1 (by have := (HX.out oa).2; omega)).mono fun e w' h => (h.sto (HS.out.below hW)).pre hW
  have H9 : Hid (∀ W, Below w.heap.size w W → Calls Try.prog 28 #[av oa, .int .i64 ok, .int .i64 ol] W (RetVO b O w ((s, sliceL (ax oa) ok ol)))) := fun W hW => (symbvSlice_new _ _ ok ol W ((HX.out oa).1.below hW).1 (by have := (HX.out oa).2; omega)).mono fun e w' h => (h.sto (HS.out.below hW)).pre hW
  have H10 : Hid (∀ W, Below w.heap.size w W → Calls Try.prog 25 #[av oa, av ob] W (RetVO b O w ((s, (ax ob) ++ (ax oa))))) := fun W hW => (symbvCat_new _ _ _ _ W ((HX.out oa).1.below hW).1 ((HX.out ob).1.below hW).1 ((HX.out oa).1.below hW).2.2 ((HX.out ob).1.below hW).2.2 (by have := (HX.out oa).2; omega) (by have := (HX.out ob).2; omega)).mono fun e w' h => (h.sto (HS.out.below hW)).pre hW
  have H11 : Hid (∀ W, Below w.heap.size w W → Calls Try.prog 26 #[av oa, .int .i64 ok] W (RetVO b O w ((s, shlL (ax oa) (shAmt (ax oa).length ok))))) := fun W hW => (symbvShl_new _ _ ok W ((HX.out oa).1.below hW).1 (by have := (HX.out oa).2; omega)).mono fun e w' h => (h.sto (HS.out.below hW)).pre hW
  have H12 : Hid (∀ W, Below w.heap.size w W → Calls Try.prog 27 #[av oa, .int .i64 ok] W (RetVO b O w ((s, shrL (ax oa) (shAmt (ax oa).length ok))))) := fun W hW => (symbvShr_new _ _ ok W ((HX.out oa).1.below hW).1 (by have := (HX.out oa).2; omega)).mono fun e w' h => (h.sto (HS.out.below hW)).pre hW
  have HBIT : Hid (∀ W, Below w.heap.size w W → Calls Try.prog 95 #[av oc, .int .i64 0] W fun e w' => e = .returned (.int .i64 ((ax oc).getD 0 0)) ∧ W = w') := fun W hW => bit17_any (av oc) (ax oc) 0 W ((HX.out oc).1.below hW).1 (by have := (HX.out oc).2; omega) (by omega)
  obtain ⟨A, hA⟩ : ∃ A, A = w.alloc (.cells #[.int .i64 kind, .int .i64 oa, .int .i64 ob, .int .i64 oc, .int .i64 ok, .int .i64 ol, .int .u64 (n0 : Int), .int .u64 (n1 : Int)] 70) := ⟨_, rfl⟩
  have hBA : Below w.heap.size w A := by rw [hA]; exact (by repeat (first | exact Below.refl _ _ | assumption | refine Below.drew ?_ | refine Below.alloc ?_ (by first | omega | (simp <;> omega)) _ | refine Below.setCell ?_ (by first | omega | (simp <;> omega)) _ | refine Below.trans ?_ (Below.mono (by assumption) (by first | omega | (simp <;> omega)))))
  have p0 : A.cell? ⟨w.heap.size, 0, none⟩ = some (.int .i64 kind) := by rw [hA]; simp [go_sem]
  have p1 : A.cell? ⟨w.heap.size, 1, none⟩ = some (.int .i64 oa) := by rw [hA]; simp [go_sem]
  have p2 : A.cell? ⟨w.heap.size, 2, none⟩ = some (.int .i64 ob) := by rw [hA]; simp [go_sem]
  have p3 : A.cell? ⟨w.heap.size, 3, none⟩ = some (.int .i64 oc) := by rw [hA]; simp [go_sem]
  have p4 : A.cell? ⟨w.heap.size, 4, none⟩ = some (.int .i64 ok) := by rw [hA]; simp [go_sem]
  have p5 : A.cell? ⟨w.heap.size, 5, none⟩ = some (.int .i64 ol) := by rw [hA]; simp [go_sem]
  have p6 : A.cell? ⟨w.heap.size, 6, none⟩ = some (.int .u64 (n0 : Int)) := by rw [hA]; simp [go_sem]
  have p7 : A.cell? ⟨w.heap.size, 7, none⟩ = some (.int .u64 (n1 : Int)) := by rw [hA]; simp [go_sem]
  have HBA := Lib.hid hBA
  have HAA := Lib.hid hA
  have HEND : Hid (∀ W, Below w.heap.size w W → RetVO b O w (s, []) (.returned (.slice none 0 0)) W) := fun W hW => ⟨_, O, rfl, ⟨rfl, .inl ⟨rfl, rfl⟩⟩, (fun g hg => by cases hg), HS.out.below hW, Ext.of_below hW⟩
  obtain ⟨cz, hcz⟩ : ∃ cz, cz = (ax oc).getD 0 0 := ⟨_, rfl⟩
  rw [← hcz] at H7 HBIT
  obtain ⟨R, hR⟩ : ∃ R, R = callG kind oa ok ol (n0 * B + n1) (ax oa) (ax ob) (ax oc) s := ⟨_, rfl⟩
  rw [← hR]
  have HRC : Hid (R = callG kind oa ok ol (n0 * B + n1) (ax oa) (ax ob) (ax oc) s ∧ cz = (ax oc).getD 0 0) := ⟨hR, hcz⟩
  clear hs hx hat hA hBA HNV hn0 hn1 hok HX HS hR hcz
  go_enter Try.func43, Try.ntmps43
  go_wp2_with fail
  rw [← HAA.out]
  go_wp2_with fail
  go_quiet (first | (go_at_call 94; exact Calls.quiet_of_same ((HAT.out _ _ (below_drewN HBA.out _)).mono fun _ _ h => ⟨h.1, h.2.symm⟩)))
  obtain ⟨D, hD⟩ : ∃ D, D = A.drewN nq := ⟨_, rfl⟩
  have HBD : Hid (Below w.heap.size w D) := by show Below _ _ _; rw [hD]; exact below_drewN HBA.out _
  have p0 : D.cell? ⟨w.heap.size, 0, none⟩ = some (.int .i64 kind) := by rw [hD]; exact p0
  have p1 : D.cell? ⟨w.heap.size, 1, none⟩ = some (.int .i64 oa) := by rw [hD]; exact p1
  have p2 : D.cell? ⟨w.heap.size, 2, none⟩ = some (.int .i64 ob) := by rw [hD]; exact p2
  have p3 : D.cell? ⟨w.heap.size, 3, none⟩ = some (.int .i64 oc) := by rw [hD]; exact p3
  have p4 : D.cell? ⟨w.heap.size, 4, none⟩ = some (.int .i64 ok) := by rw [hD]; exact p4
  have p5 : D.cell? ⟨w.heap.size, 5, none⟩ = some (.int .i64 ol) := by rw [hD]; exact p5
  have p6 : D.cell? ⟨w.heap.size, 6, none⟩ = some (.int .u64 (n0 : Int)) := by rw [hD]; exact p6
  have p7 : D.cell? ⟨w.heap.size, 7, none⟩ = some (.int .u64 (n1 : Int)) := by rw [hD]; exact p7
  rw [← hD]
  clear hD
  by_cases e1 : kind = 1
  · subst e1
    have hr : (s, constBits (n0 * B + n1) (max 0 (min ok 256)).toNat) = R := by rw [HRC.out.1]; unfold callG; rw [if_pos rfl]
    have HK := Lib.hid (H1.out _ HBD.out)
    rw [hr] at HK
    clear hr HRC
    go_wp2_with fail
    refine HK.out.mono ?_
    rintro e w1 ⟨v, O1, rfl, hv⟩
    have HF := Lib.hid hv
    clear hv
    go_wp2_with fail
    go_ret
    exact ⟨_, O1, rfl, HF.out⟩
  · have f1 : (kind == 1) = false := by rw [beq_eq_false_iff_ne]; exact e1
    by_cases e2 : kind = 2
    · subst e2
      have hr : ((varsS oa (max 0 (min ok 64)).toNat s).1, (varsS oa (max 0 (min ok 64)).toNat s).2.reverse) = R := by rw [HRC.out.1]; unfold callG; rw [if_neg (by decide), if_pos rfl]
      have HK := Lib.hid (H2.out _ HBD.out)
      rw [hr] at HK
      clear hr HRC
      go_wp2_with fail
      refine HK.out.mono ?_
      rintro e w1 ⟨v, O1, rfl, hv⟩
      have HF := Lib.hid hv
      clear hv
      go_wp2_with fail
      go_ret
      exact ⟨_, O1, rfl, HF.out⟩
    · have f2 : (kind == 2) = false := by rw [beq_eq_false_iff_ne]; exact e2
      by_cases e3 : kind = 3
      · subst e3
        have hr : zipS andF (ax oa) (ax ob) (max (ax oa).length (ax ob).length) s = R := by rw [HRC.out.1]; unfold callG; rw [if_neg (by decide), if_neg (by decide), if_pos rfl]
        have HK := Lib.hid (H3.out _ HBD.out)
        rw [hr] at HK
        clear hr HRC
        go_wp2_with fail
        refine HK.out.mono ?_
        rintro e w1 ⟨v, O1, rfl, hv⟩
        have HF := Lib.hid hv
        clear hv
        go_wp2_with fail
        go_ret
        exact ⟨_, O1, rfl, HF.out⟩
      · have f3 : (kind == 3) = false := by rw [beq_eq_false_iff_ne]; exact e3
        by_cases e4 : kind = 4
        · subst e4
          have hr : zipS orF (ax oa) (ax ob) (max (ax oa).length (ax ob).length) s = R := by rw [HRC.out.1]; unfold callG; rw [if_neg (by decide), if_neg (by decide), if_neg (by decide), if_pos rfl]
          have HK := Lib.hid (H4.out _ HBD.out)
          rw [hr] at HK
          clear hr HRC
          go_wp2_with fail
          refine HK.out.mono ?_
          rintro e w1 ⟨v, O1, rfl, hv⟩
          have HF := Lib.hid hv
          clear hv
          go_wp2_with fail
          go_ret
          exact ⟨_, O1, rfl, HF.out⟩
        · have f4 : (kind == 4) = false := by rw [beq_eq_false_iff_ne]; exact e4
          by_cases e5 : kind = 5
          · subst e5
            have hr : zipS xorF (ax oa) (ax ob) (max (ax oa).length (ax ob).length) s = R := by rw [HRC.out.1]; unfold callG; rw [if_neg (by decide), if_neg (by decide), if_neg (by decide), if_neg (by decide), if_pos rfl]
            have HK := Lib.hid (H5.out _ HBD.out)
            rw [hr] at HK
            clear hr HRC
            go_wp2_with fail
            refine HK.out.mono ?_
            rintro e w1 ⟨v, O1, rfl, hv⟩
            have HF := Lib.hid hv
            clear hv
            go_wp2_with fail
            go_ret
            exact ⟨_, O1, rfl, HF.out⟩
          · have f5 : (kind == 5) = false := by rw [beq_eq_false_iff_ne]; exact e5
            by_cases e6 : kind = 6
            · subst e6
              have hr : mapS notF (ax oa) (ax oa).length s = R := by rw [HRC.out.1]; unfold callG; rw [if_neg (by decide), if_neg (by decide), if_neg (by decide), if_neg (by decide), if_neg (by decide), if_pos rfl]
              have HK := Lib.hid (H6.out _ HBD.out)
              rw [hr] at HK
              clear hr HRC
              go_wp2_with fail
              refine HK.out.mono ?_
              rintro e w1 ⟨v, O1, rfl, hv⟩
              have HF := Lib.hid hv
              clear hv
              go_wp2_with fail
              go_ret
              exact ⟨_, O1, rfl, HF.out⟩
            · have f6 : (kind == 6) = false := by rw [beq_eq_false_iff_ne]; exact e6
              by_cases e7 : kind = 7
              · subst e7
                have hr : zipS (fun s x y => iteF s cz x y) (ax oa) (ax ob) (max (ax oa).length (ax ob).length) s = R := by rw [HRC.out.1, HRC.out.2]; unfold callG; rw [if_neg (by decide), if_neg (by decide), if_neg (by decide), if_neg (by decide), if_neg (by decide), if_neg (by decide), if_pos rfl]
                have HK := Lib.hid (H7.out _ HBD.out)
                rw [hr] at HK
                clear hr HRC
                go_wp2_with (first
                  | (go_at_call 94; (with_reducible refine (HAT.out _ _ HBD.out).mono ?_); rintro e w1 ⟨rfl, rfl⟩)
                  | (go_at_call 95; (with_reducible refine (HBIT.out _ HBD.out).mono ?_); rintro e w1 ⟨rfl, rfl⟩))
                refine HK.out.mono ?_
                rintro e w1 ⟨v, O1, rfl, hv⟩
                have HF := Lib.hid hv
                clear hv
                go_wp2_with fail
                go_ret
                exact ⟨_, O1, rfl, HF.out⟩
              · have f7 : (kind == 7) = false := by rw [beq_eq_false_iff_ne]; exact e7
                by_cases e8 : kind = 8
                · subst e8
                  have hr : (s, resizeL (ax oa) (max 0 (min ok 256)).toNat) = R := by rw [HRC.out.1]; unfold callG; rw [if_neg (by decide), if_neg (by decide), if_neg (by decide), if_neg (by decide), if_neg (by decide), if_neg (by decide), if_neg (by decide), if_pos rfl]
                  have HK := Lib.hid (H8.out _ HBD.out)
                  rw [hr] at HK
                  clear hr HRC
                  go_wp2_with fail
                  refine HK.out.mono ?_
                  rintro e w1 ⟨v, O1, rfl, hv⟩
                  have HF := Lib.hid hv
                  clear hv
                  go_wp2_with fail
                  go_ret
                  exact ⟨_, O1, rfl, HF.out⟩
                · have f8 : (kind == 8) = false := by rw [beq_eq_false_iff_ne]; exact e8
                  by_cases e9 : kind = 9
                  · subst e9
                    have hr : (s, sliceL (ax oa) ok ol) = R := by rw [HRC.out.1]; unfold callG; rw [if_neg (by decide), if_neg (by decide), if_neg (by decide), if_neg (by decide), if_neg (by decide), if_neg (by decide), if_neg (by decide), if_neg (by decide), if_pos rfl]
                    have HK := Lib.hid (H9.out _ HBD.out)
                    rw [hr] at HK
                    clear hr HRC
                    go_wp2_with fail
                    refine HK.out.mono ?_
                    rintro e w1 ⟨v, O1, rfl, hv⟩
                    have HF := Lib.hid hv
                    clear hv
                    go_wp2_with fail
                    go_ret
                    exact ⟨_, O1, rfl, HF.out⟩
                  · have f9 : (kind == 9) = false := by rw [beq_eq_false_iff_ne]; exact e9
                    by_cases e10 : kind = 10
                    · subst e10
                      have hr : (s, (ax ob) ++ (ax oa)) = R := by rw [HRC.out.1]; unfold callG; rw [if_neg (by decide), if_neg (by decide), if_neg (by decide), if_neg (by decide), if_neg (by decide), if_neg (by decide), if_neg (by decide), if_neg (by decide), if_neg (by decide), if_pos rfl]
                      have HK := Lib.hid (H10.out _ HBD.out)
                      rw [hr] at HK
                      clear hr HRC
                      go_wp2_with fail
                      refine HK.out.mono ?_
                      rintro e w1 ⟨v, O1, rfl, hv⟩
                      have HF := Lib.hid hv
                      clear hv
                      go_wp2_with fail
                      go_ret
                      exact ⟨_, O1, rfl, HF.out⟩
                    · have f10 : (kind == 10) = false := by rw [beq_eq_false_iff_ne]; exact e10
                      by_cases e11 : kind = 11
                      · subst e11
                        have hr : (s, shlL (ax oa) (shAmt (ax oa).length ok)) = R := by rw [HRC.out.1]; unfold callG; rw [if_neg (by decide), if_neg (by decide), if_neg (by decide), if_neg (by decide), if_neg (by decide), if_neg (by decide), if_neg (by decide), if_neg (by decide), if_neg (by decide), if_neg (by decide), if_pos rfl]
                        have HK := Lib.hid (H11.out _ HBD.out)
                        rw [hr] at HK
                        clear hr HRC
                        go_wp2_with fail
                        refine HK.out.mono ?_
                        rintro e w1 ⟨v, O1, rfl, hv⟩
                        have HF := Lib.hid hv
                        clear hv
                        go_wp2_with fail
                        go_ret
                        exact ⟨_, O1, rfl, HF.out⟩
                      · have f11 : (kind == 11) = false := by rw [beq_eq_false_iff_ne]; exact e11
                        by_cases e12 : kind = 12
                        · subst e12
                          have hr : (s, shrL (ax oa) (shAmt (ax oa).length ok)) = R := by rw [HRC.out.1]; unfold callG; rw [if_neg (by decide), if_neg (by decide), if_neg (by decide), if_neg (by decide), if_neg (by decide), if_neg (by decide), if_neg (by decide), if_neg (by decide), if_neg (by decide), if_neg (by decide), if_neg (by decide), if_pos rfl]
                          have HK := Lib.hid (H12.out _ HBD.out)
                          rw [hr] at HK
                          clear hr HRC
                          go_wp2_with fail
                          refine HK.out.mono ?_
                          rintro e w1 ⟨v, O1, rfl, hv⟩
                          have HF := Lib.hid hv
                          clear hv
                          go_wp2_with fail
                          go_ret
                          exact ⟨_, O1, rfl, HF.out⟩
                        · have f12 : (kind == 12) = false := by rw [beq_eq_false_iff_ne]; exact e12
                          have hr : (s, []) = R := by rw [HRC.out.1]; unfold callG; rw [if_neg e1, if_neg e2, if_neg e3, if_neg e4, if_neg e5, if_neg e6, if_neg e7, if_neg e8, if_neg e9, if_neg e10, if_neg e11, if_neg e12]
                          rw [hr] at HEND
                          clear hr HRC
                          clear e1 e2 e3 e4 e5 e6 e7 e8 e9 e10 e11 e12
                          go_wp2_with fail
                          go_ret
                          exact HEND.out _ HBD.out

set_option maxRecDepth 100000 in
set_option maxHeartbeats 4000000 in
theorem want17_rs (b : Nat) (O : Nat → Prop) (s : BS) (vall : Value) (av : Int → Value) (ax : Int → List Int) (kind oa ob oc ok ol : Int) (n0 n1 : Nat) (hn0 : n0 < B) (hn1 : n1 < B) (hok : -9223372036854775808 ≤ ok ∧ ok ≤ 9223372036854775807) (w : World) (hs : RSto w b O s)
    (hat : ∀ i W, Below w.heap.size w W → Calls Try.prog 94 #[vall, .int .i64 i] W fun e w' => e = .returned (av i) ∧ W = w') (hx : ∀ i, IVecX w O (av i) (ax i) ∧ (ax i).length ≤ 300) :
    Calls Try.prog 44 #[.pointer (some ⟨b, 0, none⟩), vall, .agg #[.int .i64 kind, .int .i64 oa, .int .i64 ob, .int .i64 oc, .int .i64 ok, .int .i64 ol, .int .u64 (n0 : Int), .int .u64 (n1 : Int)]] w (RetVR b O w (callG kind oa ok ol (n0 * B + n1) (ax oa) (ax ob) (ax oc) s)) := by
  have HS := Lib.hid hs
  have HX := Lib.hid hx
  have HAT := Lib.hid hat
  have HNV : Hid (Value.agg #[.int .u64 (n0 : Int), .int .u64 (n1 : Int)] = numV (n0 * B + n1)) := numV_mk n0 n1 hn1
  have H1 : Hid (∀ W, Below w.heap.size w W → Calls Try.prog 96 #[.agg #[.int .u64 (n0 : Int), .int .u64 (n1 : Int)], .int .i64 ok] W (RetVR b O w ((s, constBits (n0 * B + n1) (max 0 (min ok 256)).toNat)))) := fun W hW => by rw [HNV.out]; exact (const17_any (n0 * B + n1) ok W (numTwo_lt hn0 hn1)).mono fun e w' h => (h.rsto (HS.out.below hW)).pre hW
  have H2 : Hid (∀ W, Below w.heap.size w W → Calls Try.prog 12 #[.pointer (some ⟨b, 0, none⟩), .int .i64 oa, .int .i64 ok] W (RetVR b O w (((varsS oa (max 0 (min ok 64)).toNat s).1, (varsS oa (max 0 (min ok 64)).toNat s).2.reverse)))) := fun W hW => (vars_rs b O s oa ok W (HS.out.below hW) hok.1 hok.2).mono fun e w' h => h.pre hW
  have H3 : Hid (∀ W, Below w.heap.size w W → Calls Try.prog 97 #[.pointer (some ⟨b, 0, none⟩), av oa, av ob] W (RetVR b O w (zipS andF (ax oa) (ax ob) (max (ax oa).length (ax ob).length) s))) := fun W hW => (and17_rs b O s _ _ _ _ W (HS.out.below hW) ((HX.out oa).1.below hW) ((HX.out ob).1.below hW) (by have := (HX.out oa).2; omega) (by have := (HX.out ob).2; omega)).mono fun e w' h => h.pre hW
  have H4 : Hid (∀ W, Below w.heap.size w W → Calls Try.prog 98 #[.pointer (some ⟨b, 0, none⟩), av oa, av ob] W (RetVR b O w (zipS orF (ax oa) (ax ob) (max (ax oa).length (ax ob).length) s))) := fun W hW => (or17_rs b O s _ _ _ _ W (HS.out.below hW) ((HX.out oa).1.below hW) ((HX.out ob).1.below hW) (by have := (HX.out oa).2; omega) (by have := (HX.out ob).2; omega)).mono fun e w' h => h.pre hW
  have H5 : Hid (∀ W, Below w.heap.size w W → Calls Try.prog 99 #[.pointer (some ⟨b, 0, none⟩), av oa, av ob] W (RetVR b O w (zipS xorF (ax oa) (ax ob) (max (ax oa).length (ax ob).length) s))) := fun W hW => (xor17_rs b O s _ _ _ _ W (HS.out.below hW) ((HX.out oa).1.below hW) ((HX.out ob).1.below hW) (by have := (HX.out oa).2; omega) (by have := (HX.out ob).2; omega)).mono fun e w' h => h.pre hW
  have H6 : Hid (∀ W, Below w.heap.size w W → Calls Try.prog 100 #[.pointer (some ⟨b, 0, none⟩), av oa] W (RetVR b O w (mapS notF (ax oa) (ax oa).length s))) := fun W hW => (not17_rs b O s _ _ W (HS.out.below hW) ((HX.out oa).1.below hW) (by have := (HX.out oa).2; omega)).mono fun e w' h => h.pre hW
  have H7 : Hid (∀ W, Below w.heap.size w W → Calls Try.prog 101 #[.pointer (some ⟨b, 0, none⟩), .int .i64 ((ax oc).getD 0 0), av oa, av ob] W (RetVR b O w (zipS (fun s x y => iteF s ((ax oc).getD 0 0) x y) (ax oa) (ax ob) (max (ax oa).length (ax ob).length) s))) := fun W hW => (mux17_rs b O s _ _ _ _ _ W (HS.out.below hW) ((HX.out oa).1.below hW) ((HX.out ob).1.below hW) (by have := (HX.out oa).2; omega) (by have := (HX.out ob).2; omega)).mono fun e w' h => h.pre hW
  have H8 : Hid (∀ W, Below w.heap.size w W → Calls Try.prog 102 #[av oa, .int .i64 ok] W (RetVR b O w ((s, resizeL (ax oa) (max 0 (min ok 256)).toNat)))) := fun W hW => (resize17_any _ _ ok W ((HX.out oa).1.below hW).1 (by have := (HX.out oa).2; omega)).mono fun e w' h => (h.rsto (HS.out.below hW)).pre hW
  have H9 : Hid (∀ W, Below w.heap.size w W → Calls Try.prog 103 #[av oa, .int .i64 ok, .int .i64 ol] W (RetVR b O w ((s, sliceL (ax oa) ok ol)))) := fun W hW => (slice17_any _ _ ok ol W ((HX.out oa).1.below hW).1 (by have := (HX.out oa).2; omega)).mono fun e w' h => (h.rsto (HS.out.below hW)).pre hW
  have H10 : Hid (∀ W, Below w.heap.size w W → Calls Try.prog 104 #[av oa, av ob] W (RetVR b O w ((s, (ax ob) ++ (ax oa))))) := fun W hW => (cat17_any _ _ _ _ W ((HX.out oa).1.below hW).1 ((HX.out ob).1.below hW).1 (by have := (HX.out oa).2; omega) (by have := (HX.out ob).2; omega)).mono fun e w' h => (h.rsto (HS.out.below hW)).pre hW
  have H11 : Hid (∀ W, Below w.heap.size w W → Calls Try.prog 105 #[av oa, .int .i64 ok] W (RetVR b O w ((s, shlL (ax oa) (shAmt (ax oa).length ok))))) := fun W hW => (shl17_any _ _ ok W ((HX.out oa).1.below hW).1 (by have := (HX.out oa).2; omega)).mono fun e w' h => (h.rsto (HS.out.below hW)).pre hW
  have H12 : Hid (∀ W, Below w.heap.size w W → Calls Try.prog 106 #[av oa, .int .i64 ok] W (RetVR b O w ((s, shrL (ax oa) (shAmt (ax oa).length ok))))) := fun W hW => (shr17_any _ _ ok W ((HX.out oa).1.below hW).1 (by have := (HX.out oa).2; omega)).mono fun e w' h => (h.rsto (HS.out.below hW)).pre hW
  have HBIT : Hid (∀ W, Below w.heap.size w W → Calls Try.prog 95 #[av oc, .int .i64 0] W fun e w' => e = .returned (.int .i64 ((ax oc).getD 0 0)) ∧ W = w') := fun W hW => bit17_any (av oc) (ax oc) 0 W ((HX.out oc).1.below hW).1 (by have := (HX.out oc).2; omega) (by omega)
  obtain ⟨A, hA⟩ : ∃ A, A = w.alloc (.cells #[.int .i64 kind, .int .i64 oa, .int .i64 ob, .int .i64 oc, .int .i64 ok, .int .i64 ol, .int .u64 (n0 : Int), .int .u64 (n1 : Int)] 70) := ⟨_, rfl⟩
  have hBA : Below w.heap.size w A := by rw [hA]; exact (by repeat (first | exact Below.refl _ _ | assumption | refine Below.drew ?_ | refine Below.alloc ?_ (by first | omega | (simp <;> omega)) _ | refine Below.setCell ?_ (by first | omega | (simp <;> omega)) _ | refine Below.trans ?_ (Below.mono (by assumption) (by first | omega | (simp <;> omega)))))
  have p0 : A.cell? ⟨w.heap.size, 0, none⟩ = some (.int .i64 kind) := by rw [hA]; simp [go_sem]
  have p1 : A.cell? ⟨w.heap.size, 1, none⟩ = some (.int .i64 oa) := by rw [hA]; simp [go_sem]
  have p2 : A.cell? ⟨w.heap.size, 2, none⟩ = some (.int .i64 ob) := by rw [hA]; simp [go_sem]
  have p3 : A.cell? ⟨w.heap.size, 3, none⟩ = some (.int .i64 oc) := by rw [hA]; simp [go_sem]
  have p4 : A.cell? ⟨w.heap.size, 4, none⟩ = some (.int .i64 ok) := by rw [hA]; simp [go_sem]
  have p5 : A.cell? ⟨w.heap.size, 5, none⟩ = some (.int .i64 ol) := by rw [hA]; simp [go_sem]
  have p6 : A.cell? ⟨w.heap.size, 6, none⟩ = some (.int .u64 (n0 : Int)) := by rw [hA]; simp [go_sem]
  have p7 : A.cell? ⟨w.heap.size, 7, none⟩ = some (.int .u64 (n1 : Int)) := by rw [hA]; simp [go_sem]
  have HBA := Lib.hid hBA
  have HAA := Lib.hid hA
  have HEND : Hid (∀ W, Below w.heap.size w W → RetVR b O w (s, []) (.returned (.slice none 0 0)) W) := fun W hW => ⟨_, O, rfl, ⟨⟨IVec.nil _, (fun k hk _ => by cases hk), NilOk.nil⟩, fun k hk => by cases hk⟩, HS.out.below hW, Ext.of_below hW⟩
  obtain ⟨cz, hcz⟩ : ∃ cz, cz = (ax oc).getD 0 0 := ⟨_, rfl⟩
  rw [← hcz] at H7 HBIT
  obtain ⟨R, hR⟩ : ∃ R, R = callG kind oa ok ol (n0 * B + n1) (ax oa) (ax ob) (ax oc) s := ⟨_, rfl⟩
  rw [← hR]
  have HRC : Hid (R = callG kind oa ok ol (n0 * B + n1) (ax oa) (ax ob) (ax oc) s ∧ cz = (ax oc).getD 0 0) := ⟨hR, hcz⟩
  clear hs hx hat hA hBA HNV hn0 hn1 hok HX HS hR hcz
  go_enter Try.func44, Try.ntmps44
  go_wp2_with fail
  rw [← HAA.out]
  go_wp2_with fail
  go_quiet (first | (go_at_call 94; exact Calls.quiet_of_same ((HAT.out _ _ (below_drewN HBA.out _)).mono fun _ _ h => ⟨h.1, h.2.symm⟩)))
  obtain ⟨D, hD⟩ : ∃ D, D = A.drewN nq := ⟨_, rfl⟩
  have HBD : Hid (Below w.heap.size w D) := by show Below _ _ _; rw [hD]; exact below_drewN HBA.out _
  have p0 : D.cell? ⟨w.heap.size, 0, none⟩ = some (.int .i64 kind) := by rw [hD]; exact p0
  have p1 : D.cell? ⟨w.heap.size, 1, none⟩ = some (.int .i64 oa) := by rw [hD]; exact p1
  have p2 : D.cell? ⟨w.heap.size, 2, none⟩ = some (.int .i64 ob) := by rw [hD]; exact p2
  have p3 : D.cell? ⟨w.heap.size, 3, none⟩ = some (.int .i64 oc) := by rw [hD]; exact p3
  have p4 : D.cell? ⟨w.heap.size, 4, none⟩ = some (.int .i64 ok) := by rw [hD]; exact p4
  have p5 : D.cell? ⟨w.heap.size, 5, none⟩ = some (.int .i64 ol) := by rw [hD]; exact p5
  have p6 : D.cell? ⟨w.heap.size, 6, none⟩ = some (.int .u64 (n0 : Int)) := by rw [hD]; exact p6
  have p7 : D.cell? ⟨w.heap.size, 7, none⟩ = some (.int .u64 (n1 : Int)) := by rw [hD]; exact p7
  rw [← hD]
  clear hD
  by_cases e1 : kind = 1
  · subst e1
    have hr : (s, constBits (n0 * B + n1) (max 0 (min ok 256)).toNat) = R := by rw [HRC.out.1]; unfold callG; rw [if_pos rfl]
    have HK := Lib.hid (H1.out _ HBD.out)
    rw [hr] at HK
    clear hr HRC
    go_wp2_with fail
    refine HK.out.mono ?_
    rintro e w1 ⟨v, O1, rfl, hv⟩
    have HF := Lib.hid hv
    clear hv
    go_wp2_with fail
    go_ret
    exact ⟨_, O1, rfl, HF.out⟩
  · have f1 : (kind == 1) = false := by rw [beq_eq_false_iff_ne]; exact e1
    by_cases e2 : kind = 2
    · subst e2
      have hr : ((varsS oa (max 0 (min ok 64)).toNat s).1, (varsS oa (max 0 (min ok 64)).toNat s).2.reverse) = R := by rw [HRC.out.1]; unfold callG; rw [if_neg (by decide), if_pos rfl]
      have HK := Lib.hid (H2.out _ HBD.out)
      rw [hr] at HK
      clear hr HRC
      go_wp2_with fail
      refine HK.out.mono ?_
      rintro e w1 ⟨v, O1, rfl, hv⟩
      have HF := Lib.hid hv
      clear hv
      go_wp2_with fail
      go_ret
      exact ⟨_, O1, rfl, HF.out⟩
    · have f2 : (kind == 2) = false := by rw [beq_eq_false_iff_ne]; exact e2
      by_cases e3 : kind = 3
      · subst e3
        have hr : zipS andF (ax oa) (ax ob) (max (ax oa).length (ax ob).length) s = R := by rw [HRC.out.1]; unfold callG; rw [if_neg (by decide), if_neg (by decide), if_pos rfl]
        have HK := Lib.hid (H3.out _ HBD.out)
        rw [hr] at HK
        clear hr HRC
        go_wp2_with fail
        refine HK.out.mono ?_
        rintro e w1 ⟨v, O1, rfl, hv⟩
        have HF := Lib.hid hv
        clear hv
        go_wp2_with fail
        go_ret
        exact ⟨_, O1, rfl, HF.out⟩
      · have f3 : (kind == 3) = false := by rw [beq_eq_false_iff_ne]; exact e3
        by_cases e4 : kind = 4
        · subst e4
          have hr : zipS orF (ax oa) (ax ob) (max (ax oa).length (ax ob).length) s = R := by rw [HRC.out.1]; unfold callG; rw [if_neg (by decide), if_neg (by decide), if_neg (by decide), if_pos rfl]
          have HK := Lib.hid (H4.out _ HBD.out)
          rw [hr] at HK
          clear hr HRC
          go_wp2_with fail
          refine HK.out.mono ?_
          rintro e w1 ⟨v, O1, rfl, hv⟩
          have HF := Lib.hid hv
          clear hv
          go_wp2_with fail
          go_ret
          exact ⟨_, O1, rfl, HF.out⟩
        · have f4 : (kind == 4) = false := by rw [beq_eq_false_iff_ne]; exact e4
          by_cases e5 : kind = 5
          · subst e5
            have hr : zipS xorF (ax oa) (ax ob) (max (ax oa).length (ax ob).length) s = R := by rw [HRC.out.1]; unfold callG; rw [if_neg (by decide), if_neg (by decide), if_neg (by decide), if_neg (by decide), if_pos rfl]
            have HK := Lib.hid (H5.out _ HBD.out)
            rw [hr] at HK
            clear hr HRC
            go_wp2_with fail
            refine HK.out.mono ?_
            rintro e w1 ⟨v, O1, rfl, hv⟩
            have HF := Lib.hid hv
            clear hv
            go_wp2_with fail
            go_ret
            exact ⟨_, O1, rfl, HF.out⟩
          · have f5 : (kind == 5) = false := by rw [beq_eq_false_iff_ne]; exact e5
            by_cases e6 : kind = 6
            · subst e6
              have hr : mapS notF (ax oa) (ax oa).length s = R := by rw [HRC.out.1]; unfold callG; rw [if_neg (by decide), if_neg (by decide), if_neg (by decide), if_neg (by decide), if_neg (by decide), if_pos rfl]
              have HK := Lib.hid (H6.out _ HBD.out)
              rw [hr] at HK
              clear hr HRC
              go_wp2_with fail
              refine HK.out.mono ?_
              rintro e w1 ⟨v, O1, rfl, hv⟩
              have HF := Lib.hid hv
              clear hv
              go_wp2_with fail
              go_ret
              exact ⟨_, O1, rfl, HF.out⟩
            · have f6 : (kind == 6) = false := by rw [beq_eq_false_iff_ne]; exact e6
              by_cases e7 : kind = 7
              · subst e7
                have hr : zipS (fun s x y => iteF s cz x y) (ax oa) (ax ob) (max (ax oa).length (ax ob).length) s = R := by rw [HRC.out.1, HRC.out.2]; unfold callG; rw [if_neg (by decide), if_neg (by decide), if_neg (by decide), if_neg (by decide), if_neg (by decide), if_neg (by decide), if_pos rfl]
                have HK := Lib.hid (H7.out _ HBD.out)
                rw [hr] at HK
                clear hr HRC
                go_wp2_with (first
                  | (go_at_call 94; (with_reducible refine (HAT.out _ _ HBD.out).mono ?_); rintro e w1 ⟨rfl, rfl⟩)
                  | (go_at_call 95; (with_reducible refine (HBIT.out _ HBD.out).mono ?_); rintro e w1 ⟨rfl, rfl⟩))
                refine HK.out.mono ?_
                rintro e w1 ⟨v, O1, rfl, hv⟩
                have HF := Lib.hid hv
                clear hv
                go_wp2_with fail
                go_ret
                exact ⟨_, O1, rfl, HF.out⟩
              · have f7 : (kind == 7) = false := by rw [beq_eq_false_iff_ne]; exact e7
                by_cases e8 : kind = 8
                · subst e8
                  have hr : (s, resizeL (ax oa) (max 0 (min ok 256)).toNat) = R := by rw [HRC.out.1]; unfold callG; rw [if_neg (by decide), if_neg (by decide), if_neg (by decide), if_neg (by decide), if_neg (by decide), if_neg (by decide), if_neg (by decide), if_pos rfl]
                  have HK := Lib.hid (H8.out _ HBD.out)
                  rw [hr] at HK
                  clear hr HRC
                  go_wp2_with fail
                  refine HK.out.mono ?_
                  rintro e w1 ⟨v, O1, rfl, hv⟩
                  have HF := Lib.hid hv
                  clear hv
                  go_wp2_with fail
                  go_ret
                  exact ⟨_, O1, rfl, HF.out⟩
                · have f8 : (kind == 8) = false := by rw [beq_eq_false_iff_ne]; exact e8
                  by_cases e9 : kind = 9
                  · subst e9
                    have hr : (s, sliceL (ax oa) ok ol) = R := by rw [HRC.out.1]; unfold callG; rw [if_neg (by decide), if_neg (by decide), if_neg (by decide), if_neg (by decide), if_neg (by decide), if_neg (by decide), if_neg (by decide), if_neg (by decide), if_pos rfl]
                    have HK := Lib.hid (H9.out _ HBD.out)
                    rw [hr] at HK
                    clear hr HRC
                    go_wp2_with fail
                    refine HK.out.mono ?_
                    rintro e w1 ⟨v, O1, rfl, hv⟩
                    have HF := Lib.hid hv
                    clear hv
                    go_wp2_with fail
                    go_ret
                    exact ⟨_, O1, rfl, HF.out⟩
                  · have f9 : (kind == 9) = false := by rw [beq_eq_false_iff_ne]; exact e9
                    by_cases e10 : kind = 10
                    · subst e10
                      have hr : (s, (ax ob) ++ (ax oa)) = R := by rw [HRC.out.1]; unfold callG; rw [if_neg (by decide), if_neg (by decide), if_neg (by decide), if_neg (by decide), if_neg (by decide), if_neg (by decide), if_neg (by decide), if_neg (by decide), if_neg (by decide), if_pos rfl]
                      have HK := Lib.hid (H10.out _ HBD.out)
                      rw [hr] at HK
                      clear hr HRC
                      go_wp2_with fail
                      refine HK.out.mono ?_
                      rintro e w1 ⟨v, O1, rfl, hv⟩
                      have HF := Lib.hid hv
                      clear hv
                      go_wp2_with fail
                      go_ret
                      exact ⟨_, O1, rfl, HF.out⟩
                    · have f10 : (kind == 10) = false := by rw [beq_eq_false_iff_ne]; exact e10
                      by_cases e11 : kind = 11
                      · subst e11
                        have hr : (s, shlL (ax oa) (shAmt (ax oa).length ok)) = R := by rw [HRC.out.1]; unfold callG; rw [if_neg (by decide), if_neg (by decide), if_neg (by decide), if_neg (by decide), if_neg (by decide), if_neg (by decide), if_neg (by decide), if_neg (by decide), if_neg (by decide), if_neg (by decide), if_pos rfl]
                        have HK := Lib.hid (H11.out _ HBD.out)
                        rw [hr] at HK
                        clear hr HRC
                        go_wp2_with fail
                        refine HK.out.mono ?_
                        rintro e w1 ⟨v, O1, rfl, hv⟩
                        have HF := Lib.hid hv
                        clear hv
                        go_wp2_with fail
                        go_ret
                        exact ⟨_, O1, rfl, HF.out⟩
                      · have f11 : (kind == 11) = false := by rw [beq_eq_false_iff_ne]; exact e11
                        by_cases e12 : kind = 12
                        · subst e12
                          have hr : (s, shrL (ax oa) (shAmt (ax oa).length ok)) = R := by rw [HRC.out.1]; unfold callG; rw [if_neg (by decide), if_neg (by decide), if_neg (by decide), if_neg (by decide), if_neg (by decide), if_neg (by decide), if_neg (by decide), if_neg (by decide), if_neg (by decide), if_neg (by decide), if_neg (by decide), if_pos rfl]
                          have HK := Lib.hid (H12.out _ HBD.out)
                          rw [hr] at HK
                          clear hr HRC
                          go_wp2_with fail
                          refine HK.out.mono ?_
                          rintro e w1 ⟨v, O1, rfl, hv⟩
                          have HF := Lib.hid hv
                          clear hv
                          go_wp2_with fail
                          go_ret
                          exact ⟨_, O1, rfl, HF.out⟩
                        · have f12 : (kind == 12) = false := by rw [beq_eq_false_iff_ne]; exact e12
                          have hr : (s, []) = R := by rw [HRC.out.1]; unfold callG; rw [if_neg e1, if_neg e2, if_neg e3, if_neg e4, if_neg e5, if_neg e6, if_neg e7, if_neg e8, if_neg e9, if_neg e10, if_neg e11, if_neg e12]
                          rw [hr] at HEND
                          clear hr HRC
                          clear e1 e2 e3 e4 e5 e6 e7 e8 e9 e10 e11 e12
                          go_wp2_with fail
                          go_ret
                          exact HEND.out _ HBD.out

end Go.Proofs.Ytlnkflmnjkmhkaa
