/-
  Contracts of package symbv once more: the vector told is a row of the call's own.
-/
import Derived.Test.YtlnkflmnjkmhkaaJR20
import Derived.Test.YtlnkflmnjkmhkaaJR21
import Derived.Test.YtlnkflmnjkmhkaaJR24

namespace Go.Proofs.Ytlnkflmnjkmhkaa
open Go.RowKit Go.Maps

/-- Behind a call the store is r.1, and a row of the call's own is told. -/
def RetVO (b : Nat) (O : Nat → Prop) (w : World) (r : BS × List Int) (e : Ending) (w' : World) : Prop := ∃ v O', e = .returned v ∧ w'.ownsRow w.heap.size 3 1 v r.2.length (r.2.map (Value.int .i64)) ∧ (∀ g, v.ownBlock = some g → ¬ O' g) ∧ Sto w' b O' r.1 ∧ Ext O O' w w'
def RetVecO (w : World) (xs : List Int) (e : Ending) (w' : World) : Prop := ∃ v, e = .returned v ∧ w'.ownsRow w.heap.size 3 1 v xs.length (xs.map (Value.int .i64)) ∧ Below w.heap.size w w'
theorem own_of_heap {w : World} {g n : Nat} {xs : List Int} (hl : xs.length = n) (hm : n ≤ maxLen) (h : w.heap[g]? = some (.cells ((xs.map (Value.int .i64)).toArray) 3 (0, 0))) : w.ownsRow g 3 1 (.slice (some ⟨g, 0, none⟩) n n) xs.length (xs.map (Value.int .i64)) := by
  subst hl
  exact ⟨by simp, .inr ⟨g, xs.length, _, rfl, Nat.le_refl _, h, Nat.le_refl _, hm, by simp, (by rw [Nat.mul_one]; exact List.take_of_length_le (by simp))⟩⟩

set_option maxRecDepth 100000 in
set_option maxHeartbeats 1000000 in
theorem zip_new (f : Nat) (fst cp : Array Value) (g : BS → Int → Int → BS × Int) (b : Nat) (O : Nat → Prop) (s0 : BS) (va vb : Value) (xs ys : List Int) (w : World) (hs : Sto w b O s0) (ha : IVecX w O va xs) (hb : IVecX w O vb ys)
    (hxl : xs.length ≤ 1000000) (hyl : ys.length ≤ 1000000)
    (hf : ∀ (x y : Int) (s : BS) O' W, Ext O O' w W → Sto W b O' s → Calls Try.prog f (fst ++ (#[.int .i64 x, .int .i64 y] ++ cp)) W (RetS b O' W (g s x y)))
    (hcall : ∀ (av : Array Value) (W : World), (callFunc f av).run Try.prog W = .ok (.enter f av) W) :
    Calls Try.prog 81 #[va, vb, .func (.func f) fst cp] w (RetVO b O w (zipS g xs ys (max xs.length ys.length) s0)) := by
  obtain ⟨i0, hi, hz0, hz1, hz2⟩ := info_parts Try.infoInt
  obtain ⟨M, hM⟩ : ∃ M, M = max xs.length ys.length := ⟨_, rfl⟩
  have hMx : xs.length ≤ M := by omega
  have hMy : ys.length ≤ M := by omega
  have hMm : M ≤ 1000000 := by omega
  have hMo : M ≤ xs.length ∨ M ≤ ys.length := by omega
  rw [← hM]
  clear hM
  have HF := Lib.hid hf; clear hf
  have HS := Lib.hid hs; clear hs
  have HAX := Lib.hid ha
  have HBX := Lib.hid hb
  obtain ⟨pa, ca, rfl, ha3, ha4, -⟩ := ha.1.shape
  obtain ⟨pb, cb, rfl, hb3, hb4, -⟩ := hb.1.shape
  clear ha hb
  go_enter Try.func81, Try.ntmps81
  go_wp2_with (first
    | (at_make; refine wpList_make_own _ rfl _ _ 33 rfl w.heap.size 3 i0 (.int .i64 0) 1 Try.underlying33 hi hz0 hz1 .i64 .i64 _ M rfl rfl (by omega) (by rw [hz2]; omega) (by unfold maxLen; omega) (Nat.le_refl _) ?_; intro w0 hown0 hgrow0))
  all_goals
    have H0 : Hid (ZipAt b O w g xs ys s0 M 0 w0) := ⟨O, HS.out.below ((Below.refl _ _).grown hgrow0 (Nat.le_refl _) (fun k h => by cases h)), Ext.of_below ((Below.refl _ _).grown hgrow0 (Nat.le_refl _) (fun k h => by cases h)), fun h => by have := HS.out.lt _ h; omega, hown0⟩
    clear hown0 hgrow0
    go_loopw [7, 19] (fun v i wr => ∃ k : Nat, k ≤ M ∧ i = .int .i64 k ∧ v = .slice (some ⟨w.heap.size, 0, none⟩) k M ∧ Hid (ZipAt b O w g xs ys s0 M k wr))
      (fun _ i _ => M - (intOf i).toNat)
    case atStart => exact ⟨0, Nat.zero_le _, rfl, rfl, H0⟩
    case round =>
      obtain ⟨k, hk, rfl, rfl, HZ⟩ := hrel
      by_cases hlt : k < M
      · obtain ⟨O1, hs1, he1, hn1, hown1⟩ := HZ.out
        have hA := HAX.out.ext he1
        have hB := HBX.out.ext he1
        have HS1 := Lib.hid hs1
        have HE1 := Lib.hid he1
        have HN1 := Lib.hid hn1
        have HO1 := Lib.hid hown1
        clear hs1 he1 hn1 hown1
        by_cases hka : k < xs.length
        · by_cases hkb : k < ys.length
          · try (exfalso; omega)
            all_goals
              obtain ⟨pa', ca', ea', -, -, hac⟩ := hA.1
              obtain ⟨ba, oa, ea2, ha2, ha6⟩ := hac (by omega)
              simp only [Value.slice.injEq] at ea'
              obtain ⟨ea1, -, -⟩ := ea'
              subst ea1
              subst ea2
              have ga := ha6 k hka
              have ex : Hid (xs.getD k 0 = xs[k]) := by show _ = _; simp [hka]
              rw [ex.out] at ga
              clear hac ha6
              obtain ⟨pb', cb', eb', -, -, hbc⟩ := hB.1
              obtain ⟨bb, ob, eb2, hb2, hb6⟩ := hbc (by omega)
              simp only [Value.slice.injEq] at eb'
              obtain ⟨eb1, -, -⟩ := eb'
              subst eb1
              subst eb2
              have gb := hb6 k hkb
              have ey : Hid (ys.getD k 0 = ys[k]) := by show _ = _; simp [hkb]
              rw [ey.out] at gb
              clear hbc hb6
              clear hA hB
              go_wp2_with fail
              refine (HF.out _ _ _ O1 _ HE1.out HS1.out).mono ?_
              rintro e w1 ⟨rfl, O2, hs2, hx2⟩
              obtain ⟨he2, hn2, hown2⟩ := ZipAt.call HE1.out HN1.out HO1.out hs2 hx2
              have HS2 := Lib.hid hs2
              have HE2 := Lib.hid he2
              have HN2 := Lib.hid hn2
              clear hs2 hx2 he2 hn2
              go_wp2_with (at_builtin; refine wpList_append_fits _ rfl (.tmp 38) (.tmp 43) 33 rfl w.heap.size 3 i0 1 Try.underlying33 hi hz1 w.heap.size k M _ rfl (hown2.alloc _) ⟨w1.heap.size, 0, none⟩ 1 1 [.int .i64 _] rfl rfl (cell_one_new _ _ _) (ints_oneCell .i64 [_]) (by omega) ?_; intro w2 hown3 hgrow3)
              have HK : Hid (ZipAt b O w g xs ys s0 M (k + 1) w2) := ZipAt.push ex.out ey.out HS2.out HE2.out HN2.out hown3 hgrow3
              clear hown2 hown3 hgrow3
              go_roundw
              case rel => exact ⟨k + 1, by omega, by go_num, rfl, HK⟩
              case measure => simp [intOf]; omega
          · try (exfalso; omega)
            all_goals
              obtain ⟨pa', ca', ea', -, -, hac⟩ := hA.1
              obtain ⟨ba, oa, ea2, ha2, ha6⟩ := hac (by omega)
              simp only [Value.slice.injEq] at ea'
              obtain ⟨ea1, -, -⟩ := ea'
              subst ea1
              subst ea2
              have ga := ha6 k hka
              have ex : Hid (xs.getD k 0 = xs[k]) := by show _ = _; simp [hka]
              rw [ex.out] at ga
              clear hac ha6
              have ey : Hid (ys.getD k 0 = 0) := by show _ = _; simp [List.getElem?_eq_none (Nat.le_of_not_lt hkb)]
              clear hA hB
              go_wp2_with fail
              refine (HF.out _ _ _ O1 _ HE1.out HS1.out).mono ?_
              rintro e w1 ⟨rfl, O2, hs2, hx2⟩
              obtain ⟨he2, hn2, hown2⟩ := ZipAt.call HE1.out HN1.out HO1.out hs2 hx2
              have HS2 := Lib.hid hs2
              have HE2 := Lib.hid he2
              have HN2 := Lib.hid hn2
              clear hs2 hx2 he2 hn2
              go_wp2_with (at_builtin; refine wpList_append_fits _ rfl (.tmp 38) (.tmp 43) 33 rfl w.heap.size 3 i0 1 Try.underlying33 hi hz1 w.heap.size k M _ rfl (hown2.alloc _) ⟨w1.heap.size, 0, none⟩ 1 1 [.int .i64 _] rfl rfl (cell_one_new _ _ _) (ints_oneCell .i64 [_]) (by omega) ?_; intro w2 hown3 hgrow3)
              have HK : Hid (ZipAt b O w g xs ys s0 M (k + 1) w2) := ZipAt.push ex.out ey.out HS2.out HE2.out HN2.out hown3 hgrow3
              clear hown2 hown3 hgrow3
              go_roundw
              case rel => exact ⟨k + 1, by omega, by go_num, rfl, HK⟩
              case measure => simp [intOf]; omega
        · by_cases hkb : k < ys.length
          · try (exfalso; omega)
            all_goals
              have ex : Hid (xs.getD k 0 = 0) := by show _ = _; simp [List.getElem?_eq_none (Nat.le_of_not_lt hka)]
              obtain ⟨pb', cb', eb', -, -, hbc⟩ := hB.1
              obtain ⟨bb, ob, eb2, hb2, hb6⟩ := hbc (by omega)
              simp only [Value.slice.injEq] at eb'
              obtain ⟨eb1, -, -⟩ := eb'
              subst eb1
              subst eb2
              have gb := hb6 k hkb
              have ey : Hid (ys.getD k 0 = ys[k]) := by show _ = _; simp [hkb]
              rw [ey.out] at gb
              clear hbc hb6
              clear hA hB
              go_wp2_with fail
              refine (HF.out _ _ _ O1 _ HE1.out HS1.out).mono ?_
              rintro e w1 ⟨rfl, O2, hs2, hx2⟩
              obtain ⟨he2, hn2, hown2⟩ := ZipAt.call HE1.out HN1.out HO1.out hs2 hx2
              have HS2 := Lib.hid hs2
              have HE2 := Lib.hid he2
              have HN2 := Lib.hid hn2
              clear hs2 hx2 he2 hn2
              go_wp2_with (at_builtin; refine wpList_append_fits _ rfl (.tmp 38) (.tmp 43) 33 rfl w.heap.size 3 i0 1 Try.underlying33 hi hz1 w.heap.size k M _ rfl (hown2.alloc _) ⟨w1.heap.size, 0, none⟩ 1 1 [.int .i64 _] rfl rfl (cell_one_new _ _ _) (ints_oneCell .i64 [_]) (by omega) ?_; intro w2 hown3 hgrow3)
              have HK : Hid (ZipAt b O w g xs ys s0 M (k + 1) w2) := ZipAt.push ex.out ey.out HS2.out HE2.out HN2.out hown3 hgrow3
              clear hown2 hown3 hgrow3
              go_roundw
              case rel => exact ⟨k + 1, by omega, by go_num, rfl, HK⟩
              case measure => simp [intOf]; omega
          · exfalso; omega
      · obtain rfl : k = M := by omega
        go_wp2_with fail
        go_ret
        obtain ⟨O1, hs1, he1, hn1, hown1⟩ := HZ.out
        exact ⟨_, O1, rfl, by rw [zipS_len]; exact hown1, fun j hj => by cases hj; exact hn1, hs1, he1⟩

set_option maxRecDepth 100000 in
set_option maxHeartbeats 400000 in
theorem symbvAnd_new (b : Nat) (O : Nat → Prop) (s : BS) (va vb : Value) (xs ys : List Int) (w : World) (hs : Sto w b O s) (ha : IVecX w O va xs) (hb : IVecX w O vb ys) (hxl : xs.length ≤ 1000000) (hyl : ys.length ≤ 1000000) :
    Calls Try.prog 20 #[.pointer (some ⟨b, 0, none⟩), va, vb] w (RetVO b O w (zipS andF xs ys (max xs.length ys.length) s)) := by
  have HZ := Lib.hid (zip_new 82 #[.pointer (some ⟨b, 0, none⟩)] #[] andF b O s va vb xs ys w hs ha hb hxl hyl (fun x y s O' W _ h => and_sto b O' s x y W h) call_and)
  clear hs ha hb
  go_enter Try.func20, Try.ntmps20
  go_wp2_with fail
  refine HZ.out.mono ?_
  rintro e w1 ⟨v, O', rfl, hv⟩
  have HV := Lib.hid hv
  clear hv
  go_wp2_with fail
  go_ret
  exact ⟨_, O', rfl, HV.out⟩

set_option maxRecDepth 100000 in
set_option maxHeartbeats 400000 in
theorem symbvOr_new (b : Nat) (O : Nat → Prop) (s : BS) (va vb : Value) (xs ys : List Int) (w : World) (hs : Sto w b O s) (ha : IVecX w O va xs) (hb : IVecX w O vb ys) (hxl : xs.length ≤ 1000000) (hyl : ys.length ≤ 1000000) :
    Calls Try.prog 21 #[.pointer (some ⟨b, 0, none⟩), va, vb] w (RetVO b O w (zipS orF xs ys (max xs.length ys.length) s)) := by
  have HZ := Lib.hid (zip_new 83 #[.pointer (some ⟨b, 0, none⟩)] #[] orF b O s va vb xs ys w hs ha hb hxl hyl (fun x y s O' W _ h => or_sto b O' s x y W h) call_or)
  clear hs ha hb
  go_enter Try.func21, Try.ntmps21
  go_wp2_with fail
  refine HZ.out.mono ?_
  rintro e w1 ⟨v, O', rfl, hv⟩
  have HV := Lib.hid hv
  clear hv
  go_wp2_with fail
  go_ret
  exact ⟨_, O', rfl, HV.out⟩

set_option maxRecDepth 100000 in
set_option maxHeartbeats 400000 in
theorem symbvXor_new (b : Nat) (O : Nat → Prop) (s : BS) (va vb : Value) (xs ys : List Int) (w : World) (hs : Sto w b O s) (ha : IVecX w O va xs) (hb : IVecX w O vb ys) (hxl : xs.length ≤ 1000000) (hyl : ys.length ≤ 1000000) :
    Calls Try.prog 22 #[.pointer (some ⟨b, 0, none⟩), va, vb] w (RetVO b O w (zipS xorF xs ys (max xs.length ys.length) s)) := by
  have HZ := Lib.hid (zip_new 84 #[.pointer (some ⟨b, 0, none⟩)] #[] xorF b O s va vb xs ys w hs ha hb hxl hyl (fun x y s O' W _ h => xor_sto b O' s x y W h) call_xor)
  clear hs ha hb
  go_enter Try.func22, Try.ntmps22
  go_wp2_with fail
  refine HZ.out.mono ?_
  rintro e w1 ⟨v, O', rfl, hv⟩
  have HV := Lib.hid hv
  clear hv
  go_wp2_with fail
  go_ret
  exact ⟨_, O', rfl, HV.out⟩

set_option maxRecDepth 100000 in
set_option maxHeartbeats 400000 in
theorem symbvMux_new (b : Nat) (O : Nat → Prop) (s : BS) (c : Int) (va vb : Value) (xs ys : List Int) (w : World) (hs : Sto w b O s) (ha : IVecX w O va xs) (hb : IVecX w O vb ys) (hxl : xs.length ≤ 1000000) (hyl : ys.length ≤ 1000000) :
    Calls Try.prog 24 #[.pointer (some ⟨b, 0, none⟩), .int .i64 c, va, vb] w (RetVO b O w (zipS (fun s x y => iteF s c x y) xs ys (max xs.length ys.length) s)) := by
  obtain ⟨A, hA⟩ : ∃ A, A = ((w.alloc (.cells #[.pointer (some ⟨b, 0, none⟩)] 23)).alloc (.cells #[.int .i64 c] 3)) := ⟨_, rfl⟩
  have hB : Below w.heap.size w A := by rw [hA]; exact (by repeat (first | exact Below.refl _ _ | assumption | refine Below.drew ?_ | refine Below.alloc ?_ (by first | omega | (simp <;> omega)) _ | refine Below.setCell ?_ (by first | omega | (simp <;> omega)) _ | refine Below.trans ?_ (Below.mono (by assumption) (by first | omega | (simp <;> omega)))))
  have hlt := hs.lt
  have n0 : ¬ O w.heap.size := fun h => by have := hlt _ h; omega
  have n1 : ¬ O (w.heap.size + 1) := fun h => by have := hlt _ h; omega
  have l0 : w.heap.size < A.heap.size := by rw [hA]; simp; omega
  have l1 : w.heap.size + 1 < A.heap.size := by rw [hA]; simp
  have c0 : A.cell? ⟨w.heap.size, 0, none⟩ = some (.pointer (some ⟨b, 0, none⟩)) := by rw [hA]; simp [go_sem]
  have c1 : A.cell? ⟨w.heap.size + 1, 0, none⟩ = some (.int .i64 c) := by rw [hA]; simp [go_sem]
  have HZ := Lib.hid (zip_new 86 #[] #[.pointer (some ⟨w.heap.size, 0, none⟩), .pointer (some ⟨w.heap.size + 1, 0, none⟩)] (fun s x y => iteF s c x y) b O s va vb xs ys A (hs.below hB) (ha.below hB) (hb.below hB) hxl hyl
    (fun x y s O' W hE h => mux1_sto b O' s x y c _ _ W h ((hE.cell (p := ⟨w.heap.size, 0, none⟩) l0 n0).1.trans c0) ((hE.cell (p := ⟨w.heap.size + 1, 0, none⟩) l1 n1).1.trans c1)) call_mux1)
  have HB := Lib.hid hB
  clear hs ha hb hB hlt n0 n1 l0 l1 c0 c1
  go_enter Try.func24, Try.ntmps24
  go_wp2_with fail
  rw [← hA]
  clear hA
  refine HZ.out.mono ?_
  rintro e w1 ⟨v, O', rfl, hv1, hv1b, hv2, hv3⟩
  have HV : Hid (w1.ownsRow w.heap.size 3 1 v (zipS (fun s x y => iteF s c x y) xs ys (max xs.length ys.length) s).2.length ((zipS (fun s x y => iteF s c x y) xs ys (max xs.length ys.length) s).2.map (Value.int .i64)) ∧ (∀ g, v.ownBlock = some g → ¬ O' g) ∧ Sto w1 b O' (zipS (fun s x y => iteF s c x y) xs ys (max xs.length ys.length) s).1 ∧ Ext O O' w w1) := ⟨ownsRow_mono hv1 HB.out.size, hv1b, hv2, (Ext.of_below HB.out).trans hv3⟩
  clear hv1 hv1b hv2 hv3
  go_wp2_with fail
  go_ret
  exact ⟨_, O', rfl, HV.out⟩

set_option maxRecDepth 100000 in
set_option maxHeartbeats 800000 in
theorem symbvNot_new (b : Nat) (O : Nat → Prop) (s0 : BS) (va : Value) (xs : List Int) (w : World) (hs : Sto w b O s0) (ha : IVecX w O va xs) (hxl : xs.length ≤ 1000000) :
    Calls Try.prog 23 #[.pointer (some ⟨b, 0, none⟩), va] w (RetVO b O w (mapS notF xs xs.length s0)) := by
  obtain ⟨i0, hi, hz0, hz1, hz2⟩ := info_parts Try.infoInt
  have HS := Lib.hid hs
  have HAX := Lib.hid ha
  obtain ⟨pa, ca, rfl, ha3, ha4, -⟩ := ha.1.shape
  clear ha hs
  go_enter Try.func23, Try.ntmps23
  go_wp2_with (first
    | (at_make; refine wpList_make_full _ rfl _ _ 34 rfl w.heap.size 3 i0 (.int .i64 0) 1 Try.underlying34 hi hz0 hz1 .i64 .i64 _ _ xs.length rfl rfl rfl rfl (by rw [hz2]; omega) (by unfold maxLen; omega) (Nat.le_refl _) ?_; intro w0 hown0 hgrow0))
  rw [toList_madeCells_zero] at hown0
  have H0 : Hid (MapAt b O w (mapS notF xs 0 s0) xs.length w0) := ⟨O, HS.out.below ((Below.refl _ _).grown hgrow0 (Nat.le_refl _) (fun k h => by cases h)), Ext.of_below ((Below.refl _ _).grown hgrow0 (Nat.le_refl _) (fun k h => by cases h)), fun h => by have := HS.out.lt _ h; omega, by show w0.ownsRow _ _ _ _ _ (mapTo [] _); rw [mapTo_nil]; exact hown0⟩
  clear hown0 hgrow0
  go_loopw [13] (fun i wr => ∃ k : Nat, k ≤ xs.length ∧ i = .int .i64 k ∧ Hid (MapAt b O w (mapS notF xs k s0) xs.length wr))
    (fun i _ => xs.length - (intOf i).toNat)
  case atStart => exact ⟨0, Nat.zero_le _, rfl, H0⟩
  case round =>
    obtain ⟨k, hk, rfl, HZ⟩ := hrel
    by_cases hlt : k < xs.length
    · obtain ⟨O1, hs1, he1, hn1, hown1⟩ := HZ.out
      have hA := HAX.out.ext he1
      have HN : Hid (Calls Try.prog 85 #[.pointer (some ⟨b, 0, none⟩), .int .i64 (xs[k])] wr (RetS b O1 wr (notF (mapS notF xs k s0).1 (xs[k])))) := not_sto b O1 _ _ wr hs1
      have HE1 := Lib.hid he1
      have HN1 := Lib.hid hn1
      have HO1 := Lib.hid hown1
      clear hs1 he1 hn1 hown1
      obtain ⟨pa', ca', ea', -, -, hac⟩ := hA.1
      obtain ⟨ba, oa, ea2, ha2, ha6⟩ := hac (by omega)
      simp only [Value.slice.injEq] at ea'
      obtain ⟨ea1, -, -⟩ := ea'
      subst ea1
      subst ea2
      have ga := ha6 k hlt
      have ex : Hid (xs.getD k 0 = xs[k]) := by show _ = _; simp [hlt]
      rw [ex.out] at ga
      clear hac ha6 hA
      go_wp2_with fail
      refine HN.out.mono ?_
      rintro e w1 ⟨rfl, O2, hs2, hx2⟩
      obtain ⟨he2, hn2, hown2⟩ := own_call HE1.out HN1.out HO1.out hs2 hx2
      have hml : (mapS notF xs k s0).2.length = k := mapS_len _ _ _ _
      obtain ⟨⟨x, z1⟩, z2, z3⟩ := MapAt.push (z := (notF (mapS notF xs k s0).1 xs[k]).2) (by omega) hs2 he2 hn2 hown2
      rw [hml] at z1 z2 z3
      have HK : Hid (MapAt b O w (mapS notF xs (k + 1) s0) xs.length (w1.setCell ⟨w.heap.size, k, none⟩ (.int .i64 (notF (mapS notF xs k s0).1 xs[k]).2))) := by
        show MapAt _ _ _ _ _ _
        rw [mapS, ex.out]
        exact z3
      clear hs2 hx2 he2 hn2 hown2 z3 hml
      go_wp2_with fail
      go_roundw
      case rel => exact ⟨k + 1, by omega, by go_num, HK⟩
      case measure => simp [intOf]; omega
    · obtain rfl : k = xs.length := by omega
      go_wp2_with fail
      go_ret
      obtain ⟨O1, hs1, he1, hn1, hown1⟩ := HZ.out
      rw [mapTo_full _ _ (mapS_len _ _ _ _)] at hown1
      exact ⟨_, O1, rfl, by rw [mapS_len]; exact hown1, fun j hj => by cases hj; exact hn1, hs1, he1⟩

set_option maxRecDepth 100000 in
set_option maxHeartbeats 1600000 in
theorem symbvVars_new (b : Nat) (O : Nat → Prop) (s0 : BS) (first n : Int) (w : World) (hs : Sto w b O s0) (h0 : -9223372036854775808 ≤ n) (h1 : n ≤ 9223372036854775807) :
    Calls Try.prog 18 #[.pointer (some ⟨b, 0, none⟩), .int .i64 first, .int .i64 n] w (RetVO b O w ((varsS first (max 0 (min n 64)).toNat s0).1, (varsS first (max 0 (min n 64)).toNat s0).2.reverse)) := by
  obtain ⟨i0, hi, hz0, hz1, hz2⟩ := info_parts Try.infoInt
  have HS := Lib.hid hs
  clear hs
  obtain ⟨M, hM⟩ : ∃ M, M = (max 0 (min n 64)).toNat := ⟨_, rfl⟩
  have hM1 : M ≤ 64 := by omega
  have HM : Hid ((n ≤ 0 → M = 0) ∧ (0 ≤ n → n ≤ 64 → (M : Int) = n) ∧ (64 ≤ n → M = 64)) := ⟨by omega, by omega, by omega⟩
  rw [← hM]
  clear hM
  go_enter Try.func18, Try.ntmps18
  go_wp2_with (first
    | (at_make; refine wpList_make_full _ rfl _ _ 34 rfl w.heap.size 3 i0 (.int .i64 0) 1 Try.underlying34 hi hz0 hz1 .i64 .i64 _ _ M rfl rfl (by have := HM.out; omega) (by have := HM.out; omega) (by rw [hz2]; omega) (by unfold maxLen; omega) (Nat.le_refl _) ?_; intro w0 hown0 hgrow0))
  all_goals
    rw [toList_madeCells_zero] at hown0
    have H0 : Hid (VarsAt b O w (varsS first 0 s0) M w0) := ⟨O, HS.out.below ((Below.refl _ _).grown hgrow0 (Nat.le_refl _) (fun k h => by cases h)), Ext.of_below ((Below.refl _ _).grown hgrow0 (Nat.le_refl _) (fun k h => by cases h)), fun h => by have := HS.out.lt _ h; omega, by show w0.ownsRow _ _ _ _ _ (varTo [] _); rw [varTo_nil]; exact hown0⟩
    clear hown0 hgrow0
    go_loopw [15] (fun i wr => ∃ k : Nat, k ≤ M ∧ i = .int .i64 k ∧ Hid (VarsAt b O w (varsS first k s0) M wr))
      (fun i _ => M - (intOf i).toNat)
    case atStart => exact ⟨0, Nat.zero_le _, rfl, H0⟩
    case round =>
      obtain ⟨k, hk, rfl, HZ⟩ := hrel
      by_cases hlt : k < M
      · obtain ⟨O1, hs1, he1, hn1, hown1⟩ := HZ.out
        have HN : Hid (Calls Try.prog 10 #[.pointer (some ⟨b, 0, none⟩), .int .i64 (wrap64 (first + k))] wr (RetS b O1 wr (varF (varsS first k s0).1 (wrap64 (first + k))))) := var_sto b O1 _ _ wr hs1
        have HE1 := Lib.hid he1
        have HN1 := Lib.hid hn1
        have HO1 := Lib.hid hown1
        clear hs1 he1 hn1 hown1
        go_wp2_with fail
        refine HN.out.mono ?_
        rintro e w1 ⟨rfl, O2, hs2, hx2⟩
        obtain ⟨he2, hn2, hown2⟩ := own_call HE1.out HN1.out HO1.out hs2 hx2
        have hml : (varsS first k s0).2.length = k := varsS_len _ _ _
        obtain ⟨⟨x, z1⟩, z2, z3⟩ := VarsAt.push (z := (varF (varsS first k s0).1 (wrap64 (first + k))).2) hml hlt hs2 he2 hn2 hown2
        have HK : Hid (VarsAt b O w (varsS first (k + 1) s0) M (w1.setCell ⟨w.heap.size, M - 1 - k, none⟩ (.int .i64 (varF (varsS first k s0).1 (wrap64 (first + k))).2))) := z3
        clear hs2 hx2 he2 hn2 hown2 z3 hml
        go_wp2_with fail
        go_roundw
        case rel => exact ⟨k + 1, by omega, by go_num, HK⟩
        case measure => simp [intOf]; omega
      · obtain rfl : k = M := by omega
        go_wp2_with fail
        go_ret
        obtain ⟨O1, hs1, he1, hn1, hown1⟩ := HZ.out
        rw [varTo_full _ _ (varsS_len _ _ _)] at hown1
        exact ⟨_, O1, rfl, by rw [List.length_reverse, varsS_len]; exact hown1, fun j hj => by cases hj; exact hn1, hs1, he1⟩

set_option maxRecDepth 100000 in
set_option maxHeartbeats 1600000 in
theorem symbvResize_new (va : Value) (xs : List Int) (c : Int) (w : World) (ha : IVec w va xs) (hxl : xs.length ≤ 1000000) :
    Calls Try.prog 29 #[va, .int .i64 c] w (RetVecO w (resizeL xs (max 0 (min c 256)).toNat)) := by
  obtain ⟨i0, hi, hz0, hz1, hz2⟩ := info_parts Try.infoInt
  have HA := Lib.hid ha
  obtain ⟨pa, ca, rfl, ha3, ha4, -⟩ := ha.shape
  clear ha
  have HW := Lib.hid (width_any c w)
  have hsz : (Try.prog.info? 3).map (·.size) = some 1 := by rw [hi]; simp [hz1]
  have hMb : (max 0 (min c 256)).toNat ≤ 256 := by omega
  generalize (max 0 (min c 256)).toNat = M at *
  go_enter Try.func29, Try.ntmps29
  go_wp2_with fail
  refine HW.out.mono ?_
  rintro e w1 ⟨rfl, rfl⟩
  go_wp2_with (first
    | (at_make; refine wpList_make_full _ rfl _ _ 34 rfl w.heap.size 3 i0 (.int .i64 0) 1 Try.underlying34 hi hz0 hz1 .i64 .i64 _ _ M rfl rfl rfl rfl (by rw [hz2]; omega) (by unfold maxLen; omega) (Nat.le_refl _) ?_; intro w0 hown0 hgrow0; rw [toList_madeCells_zero] at hown0; have hb0 : Below w.heap.size w w0 := (Below.refl _ _).grown hgrow0 (Nat.le_refl _) (fun k h => by cases h); have hh := own_heap hown0)
    | (with_reducible refine wpList_copy_splice rfl (.tmp 9) (.tmp 10) 34 34 rfl 3 Try.underlying34 hsz _ _ M M xs.length ca rfl rfl w.heap.size 0 _ 3 hh ((xs.take (min xs.length M)).map (Value.int .i64)) (by rw [List.length_map, List.length_take]; exact Nat.min_eq_left (Nat.min_le_left _ _)) (fun h0 => ⟨rfl, part_src (HA.out.below hb0) _ (Nat.min_le_left _ _) (by simpa using h0)⟩) (by simp; omega) (ints_oneCell .i64 _) w.heap.size w hb0 (Nat.le_refl _) ?_; intro w2 hh2 hb2))
  go_ret
  refine ⟨_, rfl, ?_, hb2⟩
  refine own_of_heap (resizeL_len _ _) (by unfold maxLen; omega) ?_
  rw [hh2.out, resize_splice]

set_option maxRecDepth 100000 in
set_option maxHeartbeats 1600000 in
theorem symbvShl_new (va : Value) (xs : List Int) (c : Int) (w : World) (ha : IVec w va xs) (hxl : xs.length ≤ 1000000) :
    Calls Try.prog 26 #[va, .int .i64 c] w (RetVecO w (shlL xs (shAmt xs.length c))) := by
  obtain ⟨i0, hi, hz0, hz1, hz2⟩ := info_parts Try.infoInt
  have HA := Lib.hid ha
  obtain ⟨pa, ca, rfl, ha3, ha4, -⟩ := ha.shape
  clear ha
  have hsz : (Try.prog.info? 3).map (·.size) = some 1 := by rw [hi]; simp [hz1]
  by_cases hc0 : c < 0
  · have HE : Hid (shAmt xs.length c = 0) := by show _ = _; unfold shAmt; omega
    go_enter Try.func26, Try.ntmps26
    go_wp2_with (first
      | (at_make; refine wpList_make_full _ rfl _ _ 34 rfl w.heap.size 3 i0 (.int .i64 0) 1 Try.underlying34 hi hz0 hz1 .i64 .i64 _ _ xs.length rfl rfl rfl rfl (by rw [hz2]; omega) (by unfold maxLen; omega) (Nat.le_refl _) ?_; intro w0 hown0 hgrow0; rw [toList_madeCells_zero] at hown0; have hb0 : Below w.heap.size w w0 := (Below.refl _ _).grown hgrow0 (Nat.le_refl _) (fun k h => by cases h); have hh := own_heap hown0)
      | (with_reducible refine wpList_copy_splice rfl (.tmp 15) (.tmp 16) 34 34 rfl 3 Try.underlying34 hsz _ _ xs.length xs.length xs.length ca rfl rfl w.heap.size 0 _ 3 hh ((xs.take (xs.length - 0)).map (Value.int .i64)) (by rw [List.length_map, List.length_take]; simp) (fun h0 => ⟨rfl, part_src (HA.out.below hb0) _ (Nat.sub_le _ _) (by simpa using h0)⟩) (by simp) (ints_oneCell .i64 _) w.heap.size w hb0 (Nat.le_refl _) ?_; intro w2 hh2 hb2))
    go_ret
    refine ⟨_, rfl, ?_, hb2⟩
    rw [HE.out]
    refine own_of_heap (shlL_len xs 0) (by unfold maxLen; omega) ?_
    rw [hh2.out, ← shl_splice xs 0 (by omega)]
    try (first | rfl | simp [splice])
  · by_cases hc1 : c < xs.length
    · obtain ⟨k, rfl⟩ : ∃ k : Nat, c = (k : Int) := ⟨c.toNat, by omega⟩
      have HE : Hid (shAmt xs.length (k : Int) = k) := by show _ = _; unfold shAmt; omega
      have hk : k < xs.length := by omega
      go_enter Try.func26, Try.ntmps26
      go_wp2_with (first
        | (at_make; refine wpList_make_full _ rfl _ _ 34 rfl w.heap.size 3 i0 (.int .i64 0) 1 Try.underlying34 hi hz0 hz1 .i64 .i64 _ _ xs.length rfl rfl rfl rfl (by rw [hz2]; omega) (by unfold maxLen; omega) (Nat.le_refl _) ?_; intro w0 hown0 hgrow0; rw [toList_madeCells_zero] at hown0; have hb0 : Below w.heap.size w w0 := (Below.refl _ _).grown hgrow0 (Nat.le_refl _) (fun k h => by cases h); have hh := own_heap hown0)
        | (with_reducible refine wpList_copy_splice rfl (.tmp 15) (.tmp 16) 34 34 rfl 3 Try.underlying34 hsz _ _ (xs.length - k) (xs.length - k) xs.length ca rfl rfl w.heap.size k _ 3 hh ((xs.take (xs.length - k)).map (Value.int .i64)) (by rw [List.length_map, List.length_take]; exact (Nat.min_comm _ _)) (fun h0 => ⟨rfl, part_src (HA.out.below hb0) _ (Nat.sub_le _ _) (by omega)⟩) (by simp; omega) (ints_oneCell .i64 _) w.heap.size w hb0 (Nat.le_refl _) ?_; intro w2 hh2 hb2))
      go_ret
      refine ⟨_, rfl, ?_, hb2⟩
      rw [HE.out]
      refine own_of_heap (shlL_len xs k) (by unfold maxLen; omega) ?_
      rw [hh2.out, ← shl_splice xs k (by omega)]
      try (first | rfl | simp [splice])
    · by_cases hc2 : c = xs.length
      · subst hc2
        have HE : Hid (shAmt xs.length (xs.length : Int) = xs.length) := by show _ = _; unfold shAmt; omega
        go_enter Try.func26, Try.ntmps26
        go_wp2_with (first
          | (at_make; refine wpList_make_full _ rfl _ _ 34 rfl w.heap.size 3 i0 (.int .i64 0) 1 Try.underlying34 hi hz0 hz1 .i64 .i64 _ _ xs.length rfl rfl rfl rfl (by rw [hz2]; omega) (by unfold maxLen; omega) (Nat.le_refl _) ?_; intro w0 hown0 hgrow0; rw [toList_madeCells_zero] at hown0; have hb0 : Below w.heap.size w w0 := (Below.refl _ _).grown hgrow0 (Nat.le_refl _) (fun k h => by cases h); have hh := own_heap hown0)
          | (with_reducible refine wpList_copy_splice rfl (.tmp 15) (.tmp 16) 34 34 rfl 3 Try.underlying34 hsz _ _ 0 0 xs.length ca rfl rfl w.heap.size 0 _ 3 hh (([] : List Int).map (Value.int .i64)) (by simp) (fun h0 => by simp at h0) (by simp) (ints_oneCell .i64 _) w.heap.size w hb0 (Nat.le_refl _) ?_; intro w2 hh2 hb2))
        go_ret
        refine ⟨_, rfl, ?_, hb2⟩
        rw [HE.out]
        refine own_of_heap (shlL_len xs xs.length) (by unfold maxLen; omega) ?_
        rw [hh2.out, ← shl_splice xs xs.length (by omega)]
        try (first | rfl | simp [splice])
      · have hc3 : (xs.length : Int) < c := by omega
        have HE : Hid (shAmt xs.length c = xs.length) := by show _ = _; unfold shAmt; omega
        clear hc2 hc1
        go_enter Try.func26, Try.ntmps26
        go_wp2_with (first
          | (at_make; refine wpList_make_full _ rfl _ _ 34 rfl w.heap.size 3 i0 (.int .i64 0) 1 Try.underlying34 hi hz0 hz1 .i64 .i64 _ _ xs.length rfl rfl rfl rfl (by rw [hz2]; omega) (by unfold maxLen; omega) (Nat.le_refl _) ?_; intro w0 hown0 hgrow0; rw [toList_madeCells_zero] at hown0; have hb0 : Below w.heap.size w w0 := (Below.refl _ _).grown hgrow0 (Nat.le_refl _) (fun k h => by cases h); have hh := own_heap hown0)
          | (with_reducible refine wpList_copy_splice rfl (.tmp 15) (.tmp 16) 34 34 rfl 3 Try.underlying34 hsz _ _ 0 0 xs.length ca rfl rfl w.heap.size 0 _ 3 hh (([] : List Int).map (Value.int .i64)) (by simp) (fun h0 => by simp at h0) (by simp) (ints_oneCell .i64 _) w.heap.size w hb0 (Nat.le_refl _) ?_; intro w2 hh2 hb2))
        go_ret
        refine ⟨_, rfl, ?_, hb2⟩
        rw [HE.out]
        refine own_of_heap (shlL_len xs xs.length) (by unfold maxLen; omega) ?_
        rw [hh2.out, ← shl_splice xs xs.length (by omega)]
        try (first | rfl | simp [splice])

set_option maxRecDepth 100000 in
set_option maxHeartbeats 1600000 in
theorem symbvShr_new (va : Value) (xs : List Int) (c : Int) (w : World) (ha : IVec w va xs) (hxl : xs.length ≤ 1000000) :
    Calls Try.prog 27 #[va, .int .i64 c] w (RetVecO w (shrL xs (shAmt xs.length c))) := by
  obtain ⟨i0, hi, hz0, hz1, hz2⟩ := info_parts Try.infoInt
  have HA := Lib.hid ha
  obtain ⟨pa, ca, rfl, ha3, ha4, -⟩ := ha.shape
  clear ha
  have hsz : (Try.prog.info? 3).map (·.size) = some 1 := by rw [hi]; simp [hz1]
  by_cases h0 : xs.length = 0
  · have hx : shrL xs (shAmt xs.length c) = [] := List.eq_nil_of_length_eq_zero (by rw [shrL_len, h0])
    rw [hx]
    clear hx
    generalize hn : xs.length = n at *
    subst h0
    clear hn HA hxl
    by_cases hc0 : c < 0
    · go_enter Try.func27, Try.ntmps27
      go_wp2_with (first
        | (at_make; refine wpList_make_full _ rfl _ _ 34 rfl w.heap.size 3 i0 (.int .i64 0) 1 Try.underlying34 hi hz0 hz1 .i64 .i64 _ _ 0 rfl rfl rfl rfl (by rw [hz2]; omega) (by unfold maxLen; omega) (Nat.le_refl _) ?_; intro w0 hown0 hgrow0; rw [toList_madeCells_zero] at hown0; have hb0 : Below w.heap.size w w0 := (Below.refl _ _).grown hgrow0 (Nat.le_refl _) (fun k h => by cases h); have hh := own_heap hown0)
        | (with_reducible refine wpList_copy_splice rfl (.tmp 9) (.tmp 16) 34 34 rfl 3 Try.underlying34 hsz _ _ 0 0 0 _ rfl rfl w.heap.size 0 _ 3 hh (([] : List Int).map (Value.int .i64)) (by simp) (fun h0 => by simp at h0) (by simp) (ints_oneCell .i64 _) w.heap.size w hb0 (Nat.le_refl _) ?_; intro w2 hh2 hb2))
      go_ret
      refine ⟨_, rfl, own_of_heap (n := 0) (xs := []) rfl (by unfold maxLen; omega) ?_, hb2⟩
      rw [hh2.out]
      simp [splice]
    · by_cases hc1 : c = 0
      · subst hc1
        go_enter Try.func27, Try.ntmps27
        go_wp2_with (first
          | (at_make; refine wpList_make_full _ rfl _ _ 34 rfl w.heap.size 3 i0 (.int .i64 0) 1 Try.underlying34 hi hz0 hz1 .i64 .i64 _ _ 0 rfl rfl rfl rfl (by rw [hz2]; omega) (by unfold maxLen; omega) (Nat.le_refl _) ?_; intro w0 hown0 hgrow0; rw [toList_madeCells_zero] at hown0; have hb0 : Below w.heap.size w w0 := (Below.refl _ _).grown hgrow0 (Nat.le_refl _) (fun k h => by cases h); have hh := own_heap hown0)
          | (with_reducible refine wpList_copy_splice rfl (.tmp 9) (.tmp 16) 34 34 rfl 3 Try.underlying34 hsz _ _ 0 0 0 _ rfl rfl w.heap.size 0 _ 3 hh (([] : List Int).map (Value.int .i64)) (by simp) (fun h0 => by simp at h0) (by simp) (ints_oneCell .i64 _) w.heap.size w hb0 (Nat.le_refl _) ?_; intro w2 hh2 hb2))
        all_goals
          go_ret
          refine ⟨_, rfl, own_of_heap (n := 0) (xs := []) rfl (by unfold maxLen; omega) ?_, hb2⟩
          rw [hh2.out]
          simp [splice]
      · have hc2 : 0 < c := by omega
        clear hc1
        go_enter Try.func27, Try.ntmps27
        go_wp2_with (first
          | (at_make; refine wpList_make_full _ rfl _ _ 34 rfl w.heap.size 3 i0 (.int .i64 0) 1 Try.underlying34 hi hz0 hz1 .i64 .i64 _ _ 0 rfl rfl rfl rfl (by rw [hz2]; omega) (by unfold maxLen; omega) (Nat.le_refl _) ?_; intro w0 hown0 hgrow0; rw [toList_madeCells_zero] at hown0; have hb0 : Below w.heap.size w w0 := (Below.refl _ _).grown hgrow0 (Nat.le_refl _) (fun k h => by cases h); have hh := own_heap hown0)
          | (with_reducible refine wpList_copy_splice rfl (.tmp 9) (.tmp 16) 34 34 rfl 3 Try.underlying34 hsz _ _ 0 0 0 _ rfl rfl w.heap.size 0 _ 3 hh (([] : List Int).map (Value.int .i64)) (by simp) (fun h0 => by simp at h0) (by simp) (ints_oneCell .i64 _) w.heap.size w hb0 (Nat.le_refl _) ?_; intro w2 hh2 hb2))
        all_goals
          go_ret
          refine ⟨_, rfl, own_of_heap (n := 0) (xs := []) rfl (by unfold maxLen; omega) ?_, hb2⟩
          rw [hh2.out]
          simp [splice]
  · obtain ⟨b0, o0, epa, -, -⟩ := (by obtain ⟨p1, c1, e1, -, -, h4⟩ := HA.out; simp only [Value.slice.injEq, true_and] at e1; obtain ⟨b, off, hp, hlt, hc⟩ := h4 (by omega); exact ⟨b, off, e1.1.trans hp, hlt, hc⟩ : ∃ b off, pa = some ⟨b, off, none⟩ ∧ b < w.heap.size ∧ ∀ i, i < xs.length → w.cell? ⟨b, off + i, none⟩ = some (.int .i64 (xs.getD i 0)))
    subst epa
    by_cases hc0 : c < 0
    · have HE : Hid (shAmt xs.length c = 0) := by show _ = _; unfold shAmt; omega
      go_enter Try.func27, Try.ntmps27
      go_wp2_with (first
        | (at_make; refine wpList_make_full _ rfl _ _ 34 rfl w.heap.size 3 i0 (.int .i64 0) 1 Try.underlying34 hi hz0 hz1 .i64 .i64 _ _ xs.length rfl rfl rfl rfl (by rw [hz2]; omega) (by unfold maxLen; omega) (Nat.le_refl _) ?_; intro w0 hown0 hgrow0; rw [toList_madeCells_zero] at hown0; have hb0 : Below w.heap.size w w0 := (Below.refl _ _).grown hgrow0 (Nat.le_refl _) (fun k h => by cases h); have hh := own_heap hown0)
        | (with_reducible refine wpList_copy_splice rfl (.tmp 9) (.tmp 16) 34 34 rfl 3 Try.underlying34 hsz _ _ xs.length xs.length xs.length ca rfl rfl w.heap.size 0 _ 3 hh (xs.map (Value.int .i64)) (by simp) (fun _ => ⟨rfl, copy_src (HA.out.below hb0) (by omega)⟩) (by simp) (ints_oneCell .i64 _) w.heap.size w hb0 (Nat.le_refl _) ?_; intro w2 hh2 hb2))
      go_ret
      refine ⟨_, rfl, ?_, hb2⟩
      rw [HE.out]
      refine own_of_heap (shrL_len xs 0) (by unfold maxLen; omega) ?_
      rw [hh2.out, ← shr_splice xs 0 (by omega)]
      try (first | rfl | simp [splice])
    · by_cases hc1 : c < xs.length
      · obtain ⟨k, rfl⟩ : ∃ k : Nat, c = (k : Int) := ⟨c.toNat, by omega⟩
        have HE : Hid (shAmt xs.length (k : Int) = k) := by show _ = _; unfold shAmt; omega
        have hk : k < xs.length := by omega
        have hkc : ¬ ca = k := by omega
        go_enter Try.func27, Try.ntmps27
        go_wp2_with (first
          | (at_make; refine wpList_make_full _ rfl _ _ 34 rfl w.heap.size 3 i0 (.int .i64 0) 1 Try.underlying34 hi hz0 hz1 .i64 .i64 _ _ xs.length rfl rfl rfl rfl (by rw [hz2]; omega) (by unfold maxLen; omega) (Nat.le_refl _) ?_; intro w0 hown0 hgrow0; rw [toList_madeCells_zero] at hown0; have hb0 : Below w.heap.size w w0 := (Below.refl _ _).grown hgrow0 (Nat.le_refl _) (fun k h => by cases h); have hh := own_heap hown0)
          | (with_reducible refine wpList_copy_splice rfl (.tmp 9) (.tmp 16) 34 34 rfl 3 Try.underlying34 hsz _ _ xs.length xs.length (xs.length - k) (ca - k) rfl rfl w.heap.size 0 _ 3 hh ((xs.drop k).map (Value.int .i64)) (by rw [List.length_map, List.length_drop]; exact (Nat.min_eq_left (by omega)).symm) (fun _ => ⟨rfl, drop_src (HA.out.below hb0) k hk⟩) (by simp) (ints_oneCell .i64 _) w.heap.size w hb0 (Nat.le_refl _) ?_; intro w2 hh2 hb2))
        go_ret
        refine ⟨_, rfl, ?_, hb2⟩
        rw [HE.out]
        refine own_of_heap (shrL_len xs k) (by unfold maxLen; omega) ?_
        rw [hh2.out, ← shr_splice xs k (by omega)]
        try (first | rfl | simp [splice])
      · by_cases hc2 : c = xs.length
        · subst hc2
          have HE : Hid (shAmt xs.length (xs.length : Int) = xs.length) := by show _ = _; unfold shAmt; omega
          go_enter Try.func27, Try.ntmps27
          go_wp2_with (first
            | (at_make; refine wpList_make_full _ rfl _ _ 34 rfl w.heap.size 3 i0 (.int .i64 0) 1 Try.underlying34 hi hz0 hz1 .i64 .i64 _ _ xs.length rfl rfl rfl rfl (by rw [hz2]; omega) (by unfold maxLen; omega) (Nat.le_refl _) ?_; intro w0 hown0 hgrow0; rw [toList_madeCells_zero] at hown0; have hb0 : Below w.heap.size w w0 := (Below.refl _ _).grown hgrow0 (Nat.le_refl _) (fun k h => by cases h); have hh := own_heap hown0)
            | (with_reducible refine wpList_copy_splice rfl (.tmp 9) (.tmp 16) 34 34 rfl 3 Try.underlying34 hsz _ _ xs.length xs.length 0 0 rfl rfl w.heap.size 0 _ 3 hh (([] : List Int).map (Value.int .i64)) (by simp) (fun h0 => by simp at h0) (by simp) (ints_oneCell .i64 _) w.heap.size w hb0 (Nat.le_refl _) ?_; intro w2 hh2 hb2)
            | (with_reducible refine wpList_copy_splice rfl (.tmp 9) (.tmp 16) 34 34 rfl 3 Try.underlying34 hsz _ _ xs.length xs.length 0 (ca - xs.length) rfl rfl w.heap.size 0 _ 3 hh (([] : List Int).map (Value.int .i64)) (by simp) (fun h0 => by simp at h0) (by simp) (ints_oneCell .i64 _) w.heap.size w hb0 (Nat.le_refl _) ?_; intro w2 hh2 hb2))
          all_goals
            go_ret
            refine ⟨_, rfl, ?_, hb2⟩
            rw [HE.out]
            refine own_of_heap (shrL_len xs xs.length) (by unfold maxLen; omega) ?_
            rw [hh2.out, ← shr_splice xs xs.length (by omega)]
            try (first | rfl | simp [splice])
        · have hc3 : (xs.length : Int) < c := by omega
          have HE : Hid (shAmt xs.length c = xs.length) := by show _ = _; unfold shAmt; omega
          clear hc2 hc1
          go_enter Try.func27, Try.ntmps27
          go_wp2_with (first
            | (at_make; refine wpList_make_full _ rfl _ _ 34 rfl w.heap.size 3 i0 (.int .i64 0) 1 Try.underlying34 hi hz0 hz1 .i64 .i64 _ _ xs.length rfl rfl rfl rfl (by rw [hz2]; omega) (by unfold maxLen; omega) (Nat.le_refl _) ?_; intro w0 hown0 hgrow0; rw [toList_madeCells_zero] at hown0; have hb0 : Below w.heap.size w w0 := (Below.refl _ _).grown hgrow0 (Nat.le_refl _) (fun k h => by cases h); have hh := own_heap hown0)
            | (with_reducible refine wpList_copy_splice rfl (.tmp 9) (.tmp 16) 34 34 rfl 3 Try.underlying34 hsz _ _ xs.length xs.length 0 0 rfl rfl w.heap.size 0 _ 3 hh (([] : List Int).map (Value.int .i64)) (by simp) (fun h0 => by simp at h0) (by simp) (ints_oneCell .i64 _) w.heap.size w hb0 (Nat.le_refl _) ?_; intro w2 hh2 hb2)
            | (with_reducible refine wpList_copy_splice rfl (.tmp 9) (.tmp 16) 34 34 rfl 3 Try.underlying34 hsz _ _ xs.length xs.length 0 (ca - xs.length) rfl rfl w.heap.size 0 _ 3 hh (([] : List Int).map (Value.int .i64)) (by simp) (fun h0 => by simp at h0) (by simp) (ints_oneCell .i64 _) w.heap.size w hb0 (Nat.le_refl _) ?_; intro w2 hh2 hb2))
          all_goals
            go_ret
            refine ⟨_, rfl, ?_, hb2⟩
            rw [HE.out]
            refine own_of_heap (shrL_len xs xs.length) (by unfold maxLen; omega) ?_
            rw [hh2.out, ← shr_splice xs xs.length (by omega)]
            try (first | rfl | simp [splice])

set_option maxRecDepth 100000 in
set_option maxHeartbeats 1600000 in
theorem symbvCat_new (va vb : Value) (xs ys : List Int) (w : World) (ha : IVec w va xs) (hb : IVec w vb ys) (hna : NilOk va) (hnb : NilOk vb) (hxl : xs.length ≤ 1000000) (hyl : ys.length ≤ 1000000) :
    Calls Try.prog 25 #[va, vb] w (RetVecO w (ys ++ xs)) := by
  have HA := Lib.hid ha
  have HB := Lib.hid hb
  have HNA := Lib.hid hna
  have HNB := Lib.hid hnb
  have hem := own_empty w
  obtain ⟨pa, ca, rfl, ha3, ha4, -⟩ := ha.shape
  obtain ⟨pb, cb, rfl, hb3, hb4, -⟩ := hb.shape
  clear ha hb hna hnb
  go_enter Try.func25, Try.ntmps25
  go_wp2_with (first
    | (at_builtin; refine append_vec rfl (.tmp 5) (.tmp 6) rfl w.heap.size _ [] rfl hem _ ys rfl (HB.out.below ((Below.refl w.heap.size w).alloc (Nat.le_refl _) _)) HNB.out (by simp; omega) (by simp) ?_; intro v1 w1 hown1 hgrow1; have hb1 : Below w.heap.size w w1 := ((Below.refl w.heap.size w).alloc (Nat.le_refl _) _).grown hgrow1 (by simp) (fun k h => by cases h; exact Nat.le_refl _))
    | (at_builtin; refine append_vec rfl (.tmp 7) (.tmp 8) rfl w.heap.size _ ([] ++ ys) rfl hown1 _ xs rfl (HA.out.below hb1) HNA.out (by simp; omega) hb1.size ?_; intro v2 w2 hown2 hgrow2))
  have hb2 : Below w.heap.size w w2 := hb1.grown hgrow2 hb1.size (fun k h => (hown1.lt k h).1)
  have Q : Hid (w2.ownsRow w.heap.size 3 1 v2 (ys ++ xs).length ((ys ++ xs).map (Value.int .i64)) ∧ Below w.heap.size w w2) := ⟨hown2, hb2⟩
  clear hb2 hb1 hown1 hgrow1 hown2 hgrow2 hem
  go_ret
  exact ⟨_, rfl, Q.out⟩

set_option maxRecDepth 100000 in
set_option maxHeartbeats 1600000 in
theorem symbvSlice_new (va : Value) (xs : List Int) (hi lo : Int) (w : World) (ha : IVec w va xs) (hxl : xs.length ≤ 1000000) :
    Calls Try.prog 28 #[va, .int .i64 hi, .int .i64 lo] w (RetVecO w (sliceL xs hi lo)) := by
  have HA := Lib.hid ha
  obtain ⟨pa, ca, rfl, ha3, ha4, -⟩ := ha.shape
  have hem := own_empty w
  clear ha
  by_cases h0 : lo < 0
  · have HE : Hid (sliceL xs hi lo = []) := by show _ = _; unfold sliceL; rw [if_pos (Or.inl h0)]
    go_enter Try.func28, Try.ntmps28
    go_wp2_with fail
    go_ret
    exact ⟨_, rfl, by rw [HE.out]; exact ⟨rfl, .inl ⟨rfl, rfl⟩⟩, Below.refl _ _⟩
  · obtain ⟨L, rfl⟩ : ∃ L : Nat, lo = (L : Int) := ⟨lo.toNat, by omega⟩
    by_cases h1 : hi < (L : Int)
    · have HE : Hid (sliceL xs hi L = []) := by show _ = _; unfold sliceL; rw [if_pos (Or.inr (Or.inl h1))]
      go_enter Try.func28, Try.ntmps28
      go_wp2_with fail
      go_ret
      exact ⟨_, rfl, by rw [HE.out]; exact ⟨rfl, .inl ⟨rfl, rfl⟩⟩, Below.refl _ _⟩
    · by_cases h2 : xs.length ≤ L
      · have HE : Hid (sliceL xs hi L = []) := by show _ = _; unfold sliceL; rw [if_pos (Or.inr (Or.inr (by omega)))]
        go_enter Try.func28, Try.ntmps28
        go_wp2_with fail
        go_ret
        exact ⟨_, rfl, by rw [HE.out]; exact ⟨rfl, .inl ⟨rfl, rfl⟩⟩, Below.refl _ _⟩
      · obtain ⟨H, rfl⟩ : ∃ H : Nat, hi = (H : Int) := ⟨hi.toNat, by omega⟩
        by_cases h3 : (H : Int) ≤ (xs.length : Int) - 1
        · obtain ⟨b0, o0, rfl, hsub⟩ := sub_vec HA.out L (H + 1) (by omega) (by omega) (by omega)
          have HSUB := Lib.hid hsub
          have HE : Hid (sliceL xs (H : Int) (L : Int) = (xs.drop L).take (H + 1 - L)) := by
            show _ = _
            unfold sliceL
            rw [if_neg (by omega)]
            congr 1
            omega
          have hk : ¬ ca = L := by omega
          clear hsub h0
          go_enter Try.func28, Try.ntmps28
          go_wp2_with (at_builtin; refine append_vec rfl (.tmp 20) (.tmp 29) rfl w.heap.size _ [] rfl hem _ ((xs.drop L).take (H + 1 - L)) rfl (HSUB.out.below ((Below.refl w.heap.size w).alloc (Nat.le_refl _) _)) (NilOk.some _ _ _) (by simp; omega) (by simp) ?_; intro v1 w1 hown1 hgrow1; have hb1 : Below w.heap.size w w1 := ((Below.refl w.heap.size w).alloc (Nat.le_refl _) _).grown hgrow1 (by simp) (fun k h => by cases h; exact Nat.le_refl _))
          have Q : Hid (w1.ownsRow w.heap.size 3 1 v1 ((xs.drop L).take (H + 1 - L)).length (((xs.drop L).take (H + 1 - L)).map (Value.int .i64)) ∧ Below w.heap.size w w1) := ⟨hown1, hb1⟩
          clear hb1 hown1 hgrow1 hem
          go_ret
          exact ⟨_, rfl, by rw [HE.out]; exact Q.out⟩
        · obtain ⟨b0, o0, rfl, hsub⟩ := sub_vec HA.out L xs.length (by omega) (by omega) (by omega)
          have HSUB := Lib.hid hsub
          have HE : Hid (sliceL xs (H : Int) (L : Int) = (xs.drop L).take (xs.length - L)) := by
            show _ = _
            unfold sliceL
            rw [if_neg (by omega)]
            congr 1
            omega
          have hk : ¬ ca = L := by omega
          clear hsub h0
          go_enter Try.func28, Try.ntmps28
          go_wp2_with (at_builtin; refine append_vec rfl (.tmp 20) (.tmp 29) rfl w.heap.size _ [] rfl hem _ ((xs.drop L).take (xs.length - L)) rfl (HSUB.out.below ((Below.refl w.heap.size w).alloc (Nat.le_refl _) _)) (NilOk.some _ _ _) (by simp; omega) (by simp) ?_; intro v1 w1 hown1 hgrow1; have hb1 : Below w.heap.size w w1 := ((Below.refl w.heap.size w).alloc (Nat.le_refl _) _).grown hgrow1 (by simp) (fun k h => by cases h; exact Nat.le_refl _))
          have Q : Hid (w1.ownsRow w.heap.size 3 1 v1 ((xs.drop L).take (xs.length - L)).length (((xs.drop L).take (xs.length - L)).map (Value.int .i64)) ∧ Below w.heap.size w w1) := ⟨hown1, hb1⟩
          clear hb1 hown1 hgrow1 hem
          go_ret
          exact ⟨_, rfl, by rw [HE.out]; exact Q.out⟩

set_option maxRecDepth 100000 in
set_option maxHeartbeats 1600000 in
theorem symbvConst_new (n : Nat) (k : Int) (w : World) (hn : n < B * B) :
    Calls Try.prog 19 #[numV n, .int .i64 k] w (RetVecO w (constBits n (max 0 (min k 256)).toNat)) := by
  obtain ⟨i0, hi, hz0, hz1, hz2⟩ := info_parts Try.infoInt
  obtain ⟨M, hM⟩ : ∃ M, M = (max 0 (min k 256)).toNat := ⟨_, rfl⟩
  have hM1 : M ≤ 256 := by omega
  have HW : Hid (∀ W, Calls Try.prog 79 #[.int .i64 k] W fun e w' => e = .returned (.int .i64 (M : Int)) ∧ W = w') := by
    show ∀ _, _
    rw [hM]; exact width_any k
  rw [← hM]
  clear hM
  obtain ⟨y, z, he, -, -⟩ := numV_parts n
  have HN : Hid (∀ (i : Nat) W, Calls Try.prog 80 #[.agg #[.int .u64 (y : Int), .int .u64 (z : Int)], .int .i64 (i : Int)] W fun e w' => e = .returned (.bool (bitB n (i : Nat))) ∧ Below W.heap.size W w') := by
    show ∀ _ _, _
    rw [← he]; exact fun i W => numBit_any n i W hn
  clear hn
  rw [he]
  clear he
  go_enter Try.func19, Try.ntmps19
  go_wp2_with (first
    | (go_at_call 79; refine (HW.out _).mono ?_; rintro e w1 ⟨rfl, rfl⟩)
    | (at_make; refine wpList_make_full _ rfl _ _ 34 rfl (w.heap.size + 1) 3 i0 (.int .i64 0) 1 Try.underlying34 hi hz0 hz1 .i64 .i64 _ _ M rfl rfl rfl rfl (by rw [hz2]; omega) (by unfold maxLen; omega) (by simp) ?_; intro w0 hown0 hgrow0))
  rw [toList_madeCells_zero, ← constTo_zero n] at hown0
  have hsz : (w.alloc (.cells #[.int .u64 (y : Int), .int .u64 (z : Int)] 41)).heap.size = w.heap.size + 1 := by simp
  rw [hsz] at hown0
  clear hsz
  have hb0 : Below (w.heap.size + 1) (w.alloc (.cells #[.int .u64 (y : Int), .int .u64 (z : Int)] 41)) w0 := (Below.refl _ _).grown hgrow0 (by simp) (fun k h => by cases h)
  go_loopw [12] (fun i wr => ∃ k : Nat, k ≤ M ∧ i = .int .i64 k ∧ wr.ownsRow (w.heap.size + 1) 3 1 (.slice (some ⟨w.heap.size + 1, 0, none⟩) M M) M (constTo n M k) ∧ Below (w.heap.size + 1) (w.alloc (.cells #[.int .u64 (y : Int), .int .u64 (z : Int)] 41)) wr)
    (fun i _ => M - (intOf i).toNat)
  case atStart => exact ⟨0, Nat.zero_le _, rfl, hown0, hb0⟩
  case round =>
    obtain ⟨k, hk, rfl, hown, hnx⟩ := hrel
    have hsize := hnx.size
    simp at hsize
    by_cases hlt : k < M
    · have hcy : wr.cell? ⟨w.heap.size, 0, none⟩ = some (.int .u64 (y : Int)) := by rw [hnx.cell (p := ⟨w.heap.size, 0, none⟩) (by simp)]; simp [go_sem]
      have hcz : wr.cell? ⟨w.heap.size, 1, none⟩ = some (.int .u64 (z : Int)) := by rw [hnx.cell (p := ⟨w.heap.size, 1, none⟩) (by simp)]; simp [go_sem]
      by_cases hbit : bitB n (k : Nat) = true
      · have HS := Lib.hid (constTo_yes n M k hlt hbit)
        go_wp2_with fail
        refine (HN.out k _).mono ?_
        rintro e w1 ⟨rfl, hb1⟩
        have hown1 := own_below hown hb1
        have z1 : ∃ x, w1.cell? ⟨w.heap.size + 1, k, none⟩ = some x := by
          rw [hown1.cellAt k (by omega)]; exact ⟨_, List.getElem?_eq_getElem (by simp [constTo]; omega)⟩
        obtain ⟨x, z1⟩ := z1
        have z2 := hown1.frozenAt k
        have Z := Lib.hid (hown1.stored k (.int .i64 1)).1
        have hz := hb1.size
        go_wp2_with fail
        go_roundw
        case rel => exact ⟨k + 1, by omega, by go_num, HS.out ▸ Z.out, (hnx.trans (hb1.mono (by omega))).setCell (by simp) _⟩
        case measure => simp [intOf]; omega
      · have hbit' : bitB n (k : Nat) = false := by simpa using hbit
        have HS := Lib.hid (constTo_no n M k hbit')
        clear hbit
        go_wp2_with fail
        refine (HN.out k _).mono ?_
        rintro e w1 ⟨rfl, hb1⟩
        have hown1 := Lib.hid (own_below hown hb1)
        have hz := hb1.size
        go_wp2_with fail
        go_roundw
        case rel => exact ⟨k + 1, by omega, by go_num, HS.out ▸ hown1.out, hnx.trans (hb1.mono (by omega))⟩
        case measure => simp [intOf]; omega
    · obtain rfl : k = M := by omega
      go_wp2_with fail
      go_ret
      exact ⟨_, rfl, by rw [constBits_len]; exact ownsRow_mono (constTo_end n k ▸ hown) (Nat.le_succ _), ((Below.refl _ _).alloc (Nat.le_refl _) _).trans (hnx.mono (by omega))⟩

end Go.Proofs.Ytlnkflmnjkmhkaa
