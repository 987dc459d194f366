/-
  Lemmas, joined: ZipS, VecS, VecS2, VecS3, Holds.
-/
import Derived.Test.YtlnkflmnjkmhkaaJO08
import Derived.Test.YtlnkflmnjkmhkaaJO06
import Derived.Test.YtlnkflmnjkmhkaaJO10
/-
  symbv.zip at a store that is there: element by element, each call turns the store.
-/
namespace Go.Proofs.Ytlnkflmnjkmhkaa
open Go.RowKit Go.Maps

/-- Element by element; the store behind it, and what is told. -/
def zipS (g : BS → Int → Int → BS × Int) (xs ys : List Int) : Nat → BS → BS × List Int
  | 0, s => (s, [])
  | n + 1, s => ((g (zipS g xs ys n s).1 (xs.getD n 0) (ys.getD n 0)).1, (zipS g xs ys n s).2 ++ [(g (zipS g xs ys n s).1 (xs.getD n 0) (ys.getD n 0)).2])
theorem zipS_len (g : BS → Int → Int → BS × Int) (xs ys : List Int) (n : Nat) (s : BS) : (zipS g xs ys n s).2.length = n := by
  induction n with
  | zero => rfl
  | succ n ih => simp [zipS, ih]

/-- How a call ends that hands back a vector and turns the store. -/
def RetVS (b : Nat) (O : Nat → Prop) (w : World) (r : BS × List Int) (e : Ending) (w' : World) : Prop :=
  ∃ v O', e = .returned v ∧ IVecX w' O' v r.2 ∧ Sto w' b O' r.1 ∧ Ext O O' w w'

/-- A row of the call's own is beside the store's blocks, and stays where they turn. -/
theorem own_ext {w w' : World} {O O' : Nat → Prop} {base e size n : Nat} {v : Value} {xs : List Value} (h : w.ownsRow base e size v n xs) (hO : ∀ g, v.ownBlock = some g → ¬ O g) (he : Ext O O' w w') :
    w'.ownsRow base e size v n xs ∧ ∀ g, v.ownBlock = some g → ¬ O' g := by
  have hlt := h.lt
  refine ⟨?_, fun g hg hO' => ?_⟩
  · obtain ⟨hl, h⟩ := h
    refine ⟨hl, ?_⟩
    rcases h with h | ⟨g, cap, cur, h1, h2, h3, h4⟩
    · exact .inl h
    · have hg : v.ownBlock = some g := by rw [h1]; rfl
      exact .inr ⟨g, cap, cur, h1, h2, by rw [he.1.block g (hlt g hg).2 (hO g hg)]; exact h3, h4⟩
  · rcases he.2 g hO' with h1 | h1
    · exact hO g hg h1
    · have := (hlt g hg).2; omega

/-- What holds at a round's head: the store, the row, and that nothing beside them has changed. -/
def ZipAt (b : Nat) (O : Nat → Prop) (w : World) (g : BS → Int → Int → BS × Int) (xs ys : List Int) (s0 : BS) (M k : Nat) (wr : World) : Prop :=
  ∃ O', Sto wr b O' (zipS g xs ys k s0).1 ∧ Ext O O' w wr ∧ ¬ O' w.heap.size ∧ wr.ownsRow w.heap.size 3 1 (.slice (some ⟨w.heap.size, 0, none⟩) k M) k ((zipS g xs ys k s0).2.map (Value.int .i64))

/-- A call in a round. -/
theorem ZipAt.call {b : Nat} {O O1 O2 : Nat → Prop} {w wr w1 : World} {s1 : BS} {M k : Nat} {zs : List Value} (he : Ext O O1 w wr) (hg : ¬ O1 w.heap.size) (hown : wr.ownsRow w.heap.size 3 1 (.slice (some ⟨w.heap.size, 0, none⟩) k M) k zs)
    (hs : Sto w1 b O2 s1) (hx : Ext O1 O2 wr w1) : Ext O O2 w w1 ∧ ¬ O2 w.heap.size ∧ w1.ownsRow w.heap.size 3 1 (.slice (some ⟨w.heap.size, 0, none⟩) k M) k zs := by
  obtain ⟨h1, h2⟩ := own_ext hown (fun g h => by cases h; exact hg) hx
  exact ⟨he.trans hx, h2 _ rfl, h1⟩

/-- Behind the append of a round. -/
theorem ZipAt.push {b : Nat} {O O2 : Nat → Prop} {w w1 w2 : World} {o : Obj} {g : BS → Int → Int → BS × Int} {xs ys : List Int} {s0 : BS} {M k : Nat} {x y : Int} (hx : xs.getD k 0 = x) (hy : ys.getD k 0 = y)
    (hs : Sto w1 b O2 (g (zipS g xs ys k s0).1 x y).1) (he : Ext O O2 w w1) (hn : ¬ O2 w.heap.size)
    (hown : w2.ownsRow w.heap.size 3 1 (.slice (some ⟨w.heap.size, 0, none⟩) (k + 1) M) (k + 1) ((zipS g xs ys k s0).2.map (Value.int .i64) ++ [Value.int .i64 (g (zipS g xs ys k s0).1 x y).2]))
    (hg : (w1.alloc o).grownBy w2 (some w.heap.size)) : ZipAt b O w g xs ys s0 M (k + 1) w2 := by
  have e : zipS g xs ys (k + 1) s0 = ((g (zipS g xs ys k s0).1 x y).1, (zipS g xs ys k s0).2 ++ [(g (zipS g xs ys k s0).1 x y).2]) := by rw [zipS, hx, hy]
  refine ⟨O2, ?_, (he.alloc o).grown hg (fun j hj => by cases hj; exact Nat.le_refl _), hn, ?_⟩
  · rw [e]
    refine (hs.below ((Below.refl w1.heap.size w1).alloc (Nat.le_refl _) o)).kept fun j hj => hg.block j ?_ (fun h => hn (by cases h; exact hj))
    have := hs.lt j hj
    simp
    omega
  · rw [e]
    simpa using hown

set_option maxRecDepth 100000 in
set_option maxHeartbeats 1000000 in
theorem zip_sto (f : Nat) (fst cp : Array Value) (g : BS → Int → Int → BS × Int) (b : Nat) (O : Nat → Prop) (s0 : BS) (va vb : Value) (xs ys : List Int) (w : World) (hs : Sto w b O s0) (ha : IVecX w O va xs) (hb : IVecX w O vb ys)
    (hxl : xs.length ≤ 1000000) (hyl : ys.length ≤ 1000000)
    (hf : ∀ (x y : Int) (s : BS) O' W, Ext O O' w W → Sto W b O' s → Calls Try.prog f (fst ++ (#[.int .i64 x, .int .i64 y] ++ cp)) W (RetS b O' W (g s x y)))
    (hcall : ∀ (av : Array Value) (W : World), (callFunc f av).run Try.prog W = .ok (.enter f av) W) :
    Calls Try.prog 81 #[va, vb, .func (.func f) fst cp] w (RetVS b O w (zipS g xs ys (max xs.length ys.length) s0)) := by
  obtain ⟨i0, hi, hz0, hz1, hz2⟩ := info_parts Try.infoInt
  obtain ⟨M, hM⟩ : ∃ M, M = max xs.length ys.length := ⟨_, rfl⟩
  have hMx : xs.length ≤ M := by omega
  have hMy : ys.length ≤ M := by omega
  have hMm : M ≤ 1000000 := by omega
  have hMo : M ≤ xs.length ∨ M ≤ ys.length := by omega
  rw [← hM]
  clear hM
  have HF := Lib.hid hf; clear hf
  have HS := Lib.hid hs; clear hs
  have HAX := Lib.hid ha
  have HBX := Lib.hid hb
  obtain ⟨pa, ca, rfl, ha3, ha4, -⟩ := ha.1.shape
  obtain ⟨pb, cb, rfl, hb3, hb4, -⟩ := hb.1.shape
  clear ha hb
  go_enter Try.func81, Try.ntmps81
  go_wp2_with (first
    | (at_make; refine wpList_make_own _ rfl _ _ 33 rfl w.heap.size 3 i0 (.int .i64 0) 1 Try.underlying33 hi hz0 hz1 .i64 .i64 _ M rfl rfl (by omega) (by rw [hz2]; omega) (by unfold maxLen; omega) (Nat.le_refl _) ?_; intro w0 hown0 hgrow0))
  all_goals
    have H0 : Hid (ZipAt b O w g xs ys s0 M 0 w0) := ⟨O, HS.out.below ((Below.refl _ _).grown hgrow0 (Nat.le_refl _) (fun k h => by cases h)), Ext.of_below ((Below.refl _ _).grown hgrow0 (Nat.le_refl _) (fun k h => by cases h)), fun h => by have := HS.out.lt _ h; omega, hown0⟩
    clear hown0 hgrow0
    go_loopw [7, 19] (fun v i wr => ∃ k : Nat, k ≤ M ∧ i = .int .i64 k ∧ v = .slice (some ⟨w.heap.size, 0, none⟩) k M ∧ Hid (ZipAt b O w g xs ys s0 M k wr))
      (fun _ i _ => M - (intOf i).toNat)
    case atStart => exact ⟨0, Nat.zero_le _, rfl, rfl, H0⟩
    case round =>
      obtain ⟨k, hk, rfl, rfl, HZ⟩ := hrel
      by_cases hlt : k < M
      · obtain ⟨O1, hs1, he1, hn1, hown1⟩ := HZ.out
        have hA := HAX.out.ext he1
        have hB := HBX.out.ext he1
        have HS1 := Lib.hid hs1
        have HE1 := Lib.hid he1
        have HN1 := Lib.hid hn1
        have HO1 := Lib.hid hown1
        clear hs1 he1 hn1 hown1
        by_cases hka : k < xs.length
        · by_cases hkb : k < ys.length
          · try (exfalso; omega)
            all_goals
              obtain ⟨pa', ca', ea', -, -, hac⟩ := hA.1
              obtain ⟨ba, oa, ea2, ha2, ha6⟩ := hac (by omega)
              simp only [Value.slice.injEq] at ea'
              obtain ⟨ea1, -, -⟩ := ea'
              subst ea1
              subst ea2
              have ga := ha6 k hka
              have ex : Hid (xs.getD k 0 = xs[k]) := by show _ = _; simp [hka]
              rw [ex.out] at ga
              clear hac ha6
              obtain ⟨pb', cb', eb', -, -, hbc⟩ := hB.1
              obtain ⟨bb, ob, eb2, hb2, hb6⟩ := hbc (by omega)
              simp only [Value.slice.injEq] at eb'
              obtain ⟨eb1, -, -⟩ := eb'
              subst eb1
              subst eb2
              have gb := hb6 k hkb
              have ey : Hid (ys.getD k 0 = ys[k]) := by show _ = _; simp [hkb]
              rw [ey.out] at gb
              clear hbc hb6
              clear hA hB
              go_wp2_with fail
              refine (HF.out _ _ _ O1 _ HE1.out HS1.out).mono ?_
              rintro e w1 ⟨rfl, O2, hs2, hx2⟩
              obtain ⟨he2, hn2, hown2⟩ := ZipAt.call HE1.out HN1.out HO1.out hs2 hx2
              have HS2 := Lib.hid hs2
              have HE2 := Lib.hid he2
              have HN2 := Lib.hid hn2
              clear hs2 hx2 he2 hn2
              go_wp2_with (at_builtin; refine wpList_append_fits _ rfl (.tmp 38) (.tmp 43) 33 rfl w.heap.size 3 i0 1 Try.underlying33 hi hz1 w.heap.size k M _ rfl (hown2.alloc _) ⟨w1.heap.size, 0, none⟩ 1 1 [.int .i64 _] rfl rfl (cell_one_new _ _ _) (ints_oneCell .i64 [_]) (by omega) ?_; intro w2 hown3 hgrow3)
              have HK : Hid (ZipAt b O w g xs ys s0 M (k + 1) w2) := ZipAt.push ex.out ey.out HS2.out HE2.out HN2.out hown3 hgrow3
              clear hown2 hown3 hgrow3
              go_roundw
              case rel => exact ⟨k + 1, by omega, by go_num, rfl, HK⟩
              case measure => simp [intOf]; omega
          · try (exfalso; omega)
            all_goals
              obtain ⟨pa', ca', ea', -, -, hac⟩ := hA.1
              obtain ⟨ba, oa, ea2, ha2, ha6⟩ := hac (by omega)
              simp only [Value.slice.injEq] at ea'
              obtain ⟨ea1, -, -⟩ := ea'
              subst ea1
              subst ea2
              have ga := ha6 k hka
              have ex : Hid (xs.getD k 0 = xs[k]) := by show _ = _; simp [hka]
              rw [ex.out] at ga
              clear hac ha6
              have ey : Hid (ys.getD k 0 = 0) := by show _ = _; simp [List.getElem?_eq_none (Nat.le_of_not_lt hkb)]
              clear hA hB
              go_wp2_with fail
              refine (HF.out _ _ _ O1 _ HE1.out HS1.out).mono ?_
              rintro e w1 ⟨rfl, O2, hs2, hx2⟩
              obtain ⟨he2, hn2, hown2⟩ := ZipAt.call HE1.out HN1.out HO1.out hs2 hx2
              have HS2 := Lib.hid hs2
              have HE2 := Lib.hid he2
              have HN2 := Lib.hid hn2
              clear hs2 hx2 he2 hn2
              go_wp2_with (at_builtin; refine wpList_append_fits _ rfl (.tmp 38) (.tmp 43) 33 rfl w.heap.size 3 i0 1 Try.underlying33 hi hz1 w.heap.size k M _ rfl (hown2.alloc _) ⟨w1.heap.size, 0, none⟩ 1 1 [.int .i64 _] rfl rfl (cell_one_new _ _ _) (ints_oneCell .i64 [_]) (by omega) ?_; intro w2 hown3 hgrow3)
              have HK : Hid (ZipAt b O w g xs ys s0 M (k + 1) w2) := ZipAt.push ex.out ey.out HS2.out HE2.out HN2.out hown3 hgrow3
              clear hown2 hown3 hgrow3
              go_roundw
              case rel => exact ⟨k + 1, by omega, by go_num, rfl, HK⟩
              case measure => simp [intOf]; omega
        · by_cases hkb : k < ys.length
          · try (exfalso; omega)
            all_goals
              have ex : Hid (xs.getD k 0 = 0) := by show _ = _; simp [List.getElem?_eq_none (Nat.le_of_not_lt hka)]
              obtain ⟨pb', cb', eb', -, -, hbc⟩ := hB.1
              obtain ⟨bb, ob, eb2, hb2, hb6⟩ := hbc (by omega)
              simp only [Value.slice.injEq] at eb'
              obtain ⟨eb1, -, -⟩ := eb'
              subst eb1
              subst eb2
              have gb := hb6 k hkb
              have ey : Hid (ys.getD k 0 = ys[k]) := by show _ = _; simp [hkb]
              rw [ey.out] at gb
              clear hbc hb6
              clear hA hB
              go_wp2_with fail
              refine (HF.out _ _ _ O1 _ HE1.out HS1.out).mono ?_
              rintro e w1 ⟨rfl, O2, hs2, hx2⟩
              obtain ⟨he2, hn2, hown2⟩ := ZipAt.call HE1.out HN1.out HO1.out hs2 hx2
              have HS2 := Lib.hid hs2
              have HE2 := Lib.hid he2
              have HN2 := Lib.hid hn2
              clear hs2 hx2 he2 hn2
              go_wp2_with (at_builtin; refine wpList_append_fits _ rfl (.tmp 38) (.tmp 43) 33 rfl w.heap.size 3 i0 1 Try.underlying33 hi hz1 w.heap.size k M _ rfl (hown2.alloc _) ⟨w1.heap.size, 0, none⟩ 1 1 [.int .i64 _] rfl rfl (cell_one_new _ _ _) (ints_oneCell .i64 [_]) (by omega) ?_; intro w2 hown3 hgrow3)
              have HK : Hid (ZipAt b O w g xs ys s0 M (k + 1) w2) := ZipAt.push ex.out ey.out HS2.out HE2.out HN2.out hown3 hgrow3
              clear hown2 hown3 hgrow3
              go_roundw
              case rel => exact ⟨k + 1, by omega, by go_num, rfl, HK⟩
              case measure => simp [intOf]; omega
          · exfalso; omega
      · obtain rfl : k = M := by omega
        go_wp2_with fail
        go_ret
        obtain ⟨O1, hs1, he1, hn1, hown1⟩ := HZ.out
        exact ⟨_, O1, rfl, ⟨IVec.of_owns (zipS_len _ _ _ _ _) hown1, fun j hj _ => by cases hj; exact hn1, NilOk.some _ _ _⟩, hs1, he1⟩

end Go.Proofs.Ytlnkflmnjkmhkaa

/-
  Contracts of package symbv at a store that is there: And, Or, Xor, Mux, Not, Vars.
-/
namespace Go.Proofs.Ytlnkflmnjkmhkaa
open Go.RowKit Go.Maps

set_option maxRecDepth 100000 in
set_option maxHeartbeats 400000 in
theorem symbvAnd_sto (b : Nat) (O : Nat → Prop) (s : BS) (va vb : Value) (xs ys : List Int) (w : World) (hs : Sto w b O s) (ha : IVecX w O va xs) (hb : IVecX w O vb ys) (hxl : xs.length ≤ 1000000) (hyl : ys.length ≤ 1000000) :
    Calls Try.prog 20 #[.pointer (some ⟨b, 0, none⟩), va, vb] w (RetVS b O w (zipS andF xs ys (max xs.length ys.length) s)) := by
  have HZ := Lib.hid (zip_sto 82 #[.pointer (some ⟨b, 0, none⟩)] #[] andF b O s va vb xs ys w hs ha hb hxl hyl (fun x y s O' W _ h => and_sto b O' s x y W h) call_and)
  clear hs ha hb
  go_enter Try.func20, Try.ntmps20
  go_wp2_with fail
  refine HZ.out.mono ?_
  rintro e w1 ⟨v, O', rfl, hv⟩
  have HV := Lib.hid hv
  clear hv
  go_wp2_with fail
  go_ret
  exact ⟨_, O', rfl, HV.out⟩

set_option maxRecDepth 100000 in
set_option maxHeartbeats 400000 in
theorem symbvOr_sto (b : Nat) (O : Nat → Prop) (s : BS) (va vb : Value) (xs ys : List Int) (w : World) (hs : Sto w b O s) (ha : IVecX w O va xs) (hb : IVecX w O vb ys) (hxl : xs.length ≤ 1000000) (hyl : ys.length ≤ 1000000) :
    Calls Try.prog 21 #[.pointer (some ⟨b, 0, none⟩), va, vb] w (RetVS b O w (zipS orF xs ys (max xs.length ys.length) s)) := by
  have HZ := Lib.hid (zip_sto 83 #[.pointer (some ⟨b, 0, none⟩)] #[] orF b O s va vb xs ys w hs ha hb hxl hyl (fun x y s O' W _ h => or_sto b O' s x y W h) call_or)
  clear hs ha hb
  go_enter Try.func21, Try.ntmps21
  go_wp2_with fail
  refine HZ.out.mono ?_
  rintro e w1 ⟨v, O', rfl, hv⟩
  have HV := Lib.hid hv
  clear hv
  go_wp2_with fail
  go_ret
  exact ⟨_, O', rfl, HV.out⟩

set_option maxRecDepth 100000 in
set_option maxHeartbeats 400000 in
theorem symbvXor_sto (b : Nat) (O : Nat → Prop) (s : BS) (va vb : Value) (xs ys : List Int) (w : World) (hs : Sto w b O s) (ha : IVecX w O va xs) (hb : IVecX w O vb ys) (hxl : xs.length ≤ 1000000) (hyl : ys.length ≤ 1000000) :
    Calls Try.prog 22 #[.pointer (some ⟨b, 0, none⟩), va, vb] w (RetVS b O w (zipS xorF xs ys (max xs.length ys.length) s)) := by
  have HZ := Lib.hid (zip_sto 84 #[.pointer (some ⟨b, 0, none⟩)] #[] xorF b O s va vb xs ys w hs ha hb hxl hyl (fun x y s O' W _ h => xor_sto b O' s x y W h) call_xor)
  clear hs ha hb
  go_enter Try.func22, Try.ntmps22
  go_wp2_with fail
  refine HZ.out.mono ?_
  rintro e w1 ⟨v, O', rfl, hv⟩
  have HV := Lib.hid hv
  clear hv
  go_wp2_with fail
  go_ret
  exact ⟨_, O', rfl, HV.out⟩

set_option maxRecDepth 100000 in
set_option maxHeartbeats 400000 in
theorem mux1_sto (b : Nat) (O : Nat → Prop) (s : BS) (x y c : Int) (p q : Addr) (W : World) (hs : Sto W b O s) (hp : W.cell? p = some (.pointer (some ⟨b, 0, none⟩))) (hq : W.cell? q = some (.int .i64 c)) :
    Calls Try.prog 86 #[.int .i64 x, .int .i64 y, .pointer (some p), .pointer (some q)] W (RetS b O W (iteF s c x y)) := by
  have HI := Lib.hid (ite_sto b O s c x y W hs)
  clear hs
  go_enter Try.func86, Try.ntmps86
  go_wp2_with fail
  refine HI.out.mono ?_
  rintro e w1 ⟨rfl, h⟩
  have H := Lib.hid h
  clear h
  go_wp2_with fail
  go_ret
  exact ⟨rfl, H.out⟩

set_option maxRecDepth 100000 in
set_option maxHeartbeats 400000 in
theorem symbvMux_sto (b : Nat) (O : Nat → Prop) (s : BS) (c : Int) (va vb : Value) (xs ys : List Int) (w : World) (hs : Sto w b O s) (ha : IVecX w O va xs) (hb : IVecX w O vb ys) (hxl : xs.length ≤ 1000000) (hyl : ys.length ≤ 1000000) :
    Calls Try.prog 24 #[.pointer (some ⟨b, 0, none⟩), .int .i64 c, va, vb] w (RetVS b O w (zipS (fun s x y => iteF s c x y) xs ys (max xs.length ys.length) s)) := by
  obtain ⟨A, hA⟩ : ∃ A, A = ((w.alloc (.cells #[.pointer (some ⟨b, 0, none⟩)] 23)).alloc (.cells #[.int .i64 c] 3)) := ⟨_, rfl⟩
  have hB : Below w.heap.size w A := by rw [hA]; exact (by repeat (first | exact Below.refl _ _ | assumption | refine Below.drew ?_ | refine Below.alloc ?_ (by first | omega | (simp <;> omega)) _ | refine Below.setCell ?_ (by first | omega | (simp <;> omega)) _ | refine Below.trans ?_ (Below.mono (by assumption) (by first | omega | (simp <;> omega)))))
  have hlt := hs.lt
  have n0 : ¬ O w.heap.size := fun h => by have := hlt _ h; omega
  have n1 : ¬ O (w.heap.size + 1) := fun h => by have := hlt _ h; omega
  have l0 : w.heap.size < A.heap.size := by rw [hA]; simp; omega
  have l1 : w.heap.size + 1 < A.heap.size := by rw [hA]; simp
  have c0 : A.cell? ⟨w.heap.size, 0, none⟩ = some (.pointer (some ⟨b, 0, none⟩)) := by rw [hA]; simp [go_sem]
  have c1 : A.cell? ⟨w.heap.size + 1, 0, none⟩ = some (.int .i64 c) := by rw [hA]; simp [go_sem]
  have HZ := Lib.hid (zip_sto 86 #[] #[.pointer (some ⟨w.heap.size, 0, none⟩), .pointer (some ⟨w.heap.size + 1, 0, none⟩)] (fun s x y => iteF s c x y) b O s va vb xs ys A (hs.below hB) (ha.below hB) (hb.below hB) hxl hyl
    (fun x y s O' W hE h => mux1_sto b O' s x y c _ _ W h ((hE.cell (p := ⟨w.heap.size, 0, none⟩) l0 n0).1.trans c0) ((hE.cell (p := ⟨w.heap.size + 1, 0, none⟩) l1 n1).1.trans c1)) call_mux1)
  have HB := Lib.hid hB
  clear hs ha hb hB hlt n0 n1 l0 l1 c0 c1
  go_enter Try.func24, Try.ntmps24
  go_wp2_with fail
  rw [← hA]
  clear hA
  refine HZ.out.mono ?_
  rintro e w1 ⟨v, O', rfl, hv1, hv2, hv3⟩
  have HV : Hid (IVecX w1 O' v (zipS (fun s x y => iteF s c x y) xs ys (max xs.length ys.length) s).2 ∧ Sto w1 b O' (zipS (fun s x y => iteF s c x y) xs ys (max xs.length ys.length) s).1 ∧ Ext O O' w w1) := ⟨hv1, hv2, (Ext.of_below HB.out).trans hv3⟩
  clear hv1 hv2 hv3
  go_wp2_with fail
  go_ret
  exact ⟨_, O', rfl, HV.out⟩

/-- Element by element, of one list. -/
def mapS (g : BS → Int → BS × Int) (xs : List Int) : Nat → BS → BS × List Int
  | 0, s => (s, [])
  | n + 1, s => ((g (mapS g xs n s).1 (xs.getD n 0)).1, (mapS g xs n s).2 ++ [(g (mapS g xs n s).1 (xs.getD n 0)).2])
theorem mapS_len (g : BS → Int → BS × Int) (xs : List Int) (n : Nat) (s : BS) : (mapS g xs n s).2.length = n := by
  induction n with
  | zero => rfl
  | succ n ih => simp [mapS, ih]

/-- A row of n that holds the first ones already. -/
def mapTo (zs : List Int) (n : Nat) : List Value := (zs ++ List.replicate (n - zs.length) 0).map (Value.int .i64)
theorem mapTo_nil (n : Nat) : mapTo [] n = List.replicate n (Value.int .i64 0) := by simp [mapTo]
theorem mapTo_full (zs : List Int) (n : Nat) (h : zs.length = n) : mapTo zs n = zs.map (Value.int .i64) := by simp [mapTo, h]
theorem mapTo_set (zs : List Int) (n : Nat) (z : Int) (h : zs.length < n) : (mapTo zs n).set zs.length (.int .i64 z) = mapTo (zs ++ [z]) n := by
  unfold mapTo
  obtain ⟨m, hm⟩ : ∃ m, n - zs.length = m + 1 := ⟨n - zs.length - 1, by omega⟩
  have h2 : n - (zs ++ [z]).length = m := by simp; omega
  rw [h2, hm, List.replicate_succ]
  simp

/-- What holds at a round's head where a row that was made is filled. -/
def MapAt (b : Nat) (O : Nat → Prop) (w : World) (r : BS × List Int) (M : Nat) (wr : World) : Prop :=
  ∃ O', Sto wr b O' r.1 ∧ Ext O O' w wr ∧ ¬ O' w.heap.size ∧ wr.ownsRow w.heap.size 3 1 (.slice (some ⟨w.heap.size, 0, none⟩) M M) M (mapTo r.2 M)

theorem own_call {b : Nat} {O O1 O2 : Nat → Prop} {w wr w1 : World} {s1 : BS} {M k : Nat} {zs : List Value} (he : Ext O O1 w wr) (hg : ¬ O1 w.heap.size) (hown : wr.ownsRow w.heap.size 3 1 (.slice (some ⟨w.heap.size, 0, none⟩) k M) k zs)
    (hs : Sto w1 b O2 s1) (hx : Ext O1 O2 wr w1) : Ext O O2 w w1 ∧ ¬ O2 w.heap.size ∧ w1.ownsRow w.heap.size 3 1 (.slice (some ⟨w.heap.size, 0, none⟩) k M) k zs := ZipAt.call he hg hown hs hx

theorem Ext.setNew {O O' : Nat → Prop} {w w1 : World} (h : Ext O O' w w1) {g j : Nat} (hg : w.heap.size ≤ g) (x : Value) : Ext O O' w (w1.setCell ⟨g, j, none⟩ x) :=
  ⟨⟨h.1.os, h.1.tape, h.1.output, by simpa [World.setCell] using h.1.size, fun k hk hO => (Below.heap_setCell w1 ⟨g, j, none⟩ x k (by show k ≠ g; omega)).trans (h.1.block k hk hO)⟩, h.2⟩
theorem Sto.setNew {w : World} {b : Nat} {O : Nat → Prop} {s : BS} (h : Sto w b O s) {g j : Nat} (hg : ¬ O g) (x : Value) : Sto (w.setCell ⟨g, j, none⟩ x) b O s :=
  h.kept fun k hk => Below.heap_setCell w ⟨g, j, none⟩ x k (fun e => hg (by rw [show g = k from e.symm]; exact hk))

/-- The cell that a round stores into. -/
theorem mapCell {w1 : World} {g k M : Nat} {zs : List Value} {e : TypeId} (hl : zs.length = M) (hk : k < M) (h : w1.ownsRow g e 1 (.slice (some ⟨g, 0, none⟩) M M) M zs) (z : Value) :
    (∃ x, w1.cell? ⟨g, k, none⟩ = some x) ∧ w1.frozen? ⟨g, k, none⟩ = false ∧ (w1.setCell ⟨g, k, none⟩ z).ownsRow g e 1 (.slice (some ⟨g, 0, none⟩) M M) M (zs.set k z) := by
  refine ⟨⟨zs[k]'(by omega), ?_⟩, h.frozenAt k, (h.stored k z).1⟩
  rw [h.cellAt k (by omega)]
  exact List.getElem?_eq_getElem (by omega)

end Go.Proofs.Ytlnkflmnjkmhkaa

/-
  Contracts of package symbv at a store that is there: Not, Vars.
-/
namespace Go.Proofs.Ytlnkflmnjkmhkaa
open Go.RowKit Go.Maps

/-- Behind the store of a round. -/
theorem MapAt.push {b : Nat} {O O2 : Nat → Prop} {w w1 : World} {s1 : BS} {zs : List Int} {z : Int} {M : Nat} (hl : zs.length < M)
    (hs : Sto w1 b O2 s1) (he : Ext O O2 w w1) (hn : ¬ O2 w.heap.size) (hown : w1.ownsRow w.heap.size 3 1 (.slice (some ⟨w.heap.size, 0, none⟩) M M) M (mapTo zs M)) :
    (∃ x, w1.cell? ⟨w.heap.size, zs.length, none⟩ = some x) ∧ w1.frozen? ⟨w.heap.size, zs.length, none⟩ = false ∧ MapAt b O w (s1, zs ++ [z]) M (w1.setCell ⟨w.heap.size, zs.length, none⟩ (.int .i64 z)) := by
  have hml : (mapTo zs M).length = M := by unfold mapTo; simp; omega
  obtain ⟨h1, h2, h3⟩ := mapCell hml hl hown (.int .i64 z)
  refine ⟨h1, h2, O2, hs.setNew hn _, he.setNew (Nat.le_refl _) _, hn, ?_⟩
  rw [mapTo_set zs M z hl] at h3
  exact h3

set_option maxRecDepth 100000 in
set_option maxHeartbeats 800000 in
theorem symbvNot_sto (b : Nat) (O : Nat → Prop) (s0 : BS) (va : Value) (xs : List Int) (w : World) (hs : Sto w b O s0) (ha : IVecX w O va xs) (hxl : xs.length ≤ 1000000) :
    Calls Try.prog 23 #[.pointer (some ⟨b, 0, none⟩), va] w (RetVS b O w (mapS notF xs xs.length s0)) := by
  obtain ⟨i0, hi, hz0, hz1, hz2⟩ := info_parts Try.infoInt
  have HS := Lib.hid hs
  have HAX := Lib.hid ha
  obtain ⟨pa, ca, rfl, ha3, ha4, -⟩ := ha.1.shape
  clear ha hs
  go_enter Try.func23, Try.ntmps23
  go_wp2_with (first
    | (at_make; refine wpList_make_full _ rfl _ _ 34 rfl w.heap.size 3 i0 (.int .i64 0) 1 Try.underlying34 hi hz0 hz1 .i64 .i64 _ _ xs.length rfl rfl rfl rfl (by rw [hz2]; omega) (by unfold maxLen; omega) (Nat.le_refl _) ?_; intro w0 hown0 hgrow0))
  rw [toList_madeCells_zero] at hown0
  have H0 : Hid (MapAt b O w (mapS notF xs 0 s0) xs.length w0) := ⟨O, HS.out.below ((Below.refl _ _).grown hgrow0 (Nat.le_refl _) (fun k h => by cases h)), Ext.of_below ((Below.refl _ _).grown hgrow0 (Nat.le_refl _) (fun k h => by cases h)), fun h => by have := HS.out.lt _ h; omega, by show w0.ownsRow _ _ _ _ _ (mapTo [] _); rw [mapTo_nil]; exact hown0⟩
  clear hown0 hgrow0
  go_loopw [13] (fun i wr => ∃ k : Nat, k ≤ xs.length ∧ i = .int .i64 k ∧ Hid (MapAt b O w (mapS notF xs k s0) xs.length wr))
    (fun i _ => xs.length - (intOf i).toNat)
  case atStart => exact ⟨0, Nat.zero_le _, rfl, H0⟩
  case round =>
    obtain ⟨k, hk, rfl, HZ⟩ := hrel
    by_cases hlt : k < xs.length
    · obtain ⟨O1, hs1, he1, hn1, hown1⟩ := HZ.out
      have hA := HAX.out.ext he1
      have HN : Hid (Calls Try.prog 85 #[.pointer (some ⟨b, 0, none⟩), .int .i64 (xs[k])] wr (RetS b O1 wr (notF (mapS notF xs k s0).1 (xs[k])))) := not_sto b O1 _ _ wr hs1
      have HE1 := Lib.hid he1
      have HN1 := Lib.hid hn1
      have HO1 := Lib.hid hown1
      clear hs1 he1 hn1 hown1
      obtain ⟨pa', ca', ea', -, -, hac⟩ := hA.1
      obtain ⟨ba, oa, ea2, ha2, ha6⟩ := hac (by omega)
      simp only [Value.slice.injEq] at ea'
      obtain ⟨ea1, -, -⟩ := ea'
      subst ea1
      subst ea2
      have ga := ha6 k hlt
      have ex : Hid (xs.getD k 0 = xs[k]) := by show _ = _; simp [hlt]
      rw [ex.out] at ga
      clear hac ha6 hA
      go_wp2_with fail
      refine HN.out.mono ?_
      rintro e w1 ⟨rfl, O2, hs2, hx2⟩
      obtain ⟨he2, hn2, hown2⟩ := own_call HE1.out HN1.out HO1.out hs2 hx2
      have hml : (mapS notF xs k s0).2.length = k := mapS_len _ _ _ _
      obtain ⟨⟨x, z1⟩, z2, z3⟩ := MapAt.push (z := (notF (mapS notF xs k s0).1 xs[k]).2) (by omega) hs2 he2 hn2 hown2
      rw [hml] at z1 z2 z3
      have HK : Hid (MapAt b O w (mapS notF xs (k + 1) s0) xs.length (w1.setCell ⟨w.heap.size, k, none⟩ (.int .i64 (notF (mapS notF xs k s0).1 xs[k]).2))) := by
        show MapAt _ _ _ _ _ _
        rw [mapS, ex.out]
        exact z3
      clear hs2 hx2 he2 hn2 hown2 z3 hml
      go_wp2_with fail
      go_roundw
      case rel => exact ⟨k + 1, by omega, by go_num, HK⟩
      case measure => simp [intOf]; omega
    · obtain rfl : k = xs.length := by omega
      go_wp2_with fail
      go_ret
      obtain ⟨O1, hs1, he1, hn1, hown1⟩ := HZ.out
      rw [mapTo_full _ _ (mapS_len _ _ _ _)] at hown1
      exact ⟨_, O1, rfl, ⟨IVec.of_owns (mapS_len _ _ _ _) hown1, fun j hj _ => by cases hj; exact hn1, NilOk.some _ _ _⟩, hs1, he1⟩

end Go.Proofs.Ytlnkflmnjkmhkaa

/-
  Contract of symbv.Vars at a store that is there.
-/
namespace Go.Proofs.Ytlnkflmnjkmhkaa
open Go.RowKit Go.Maps

/-- The variables from first on, as many as n, in the order of their making. -/
def varsS (first : Int) : Nat → BS → BS × List Int
  | 0, s => (s, [])
  | n + 1, s => ((varF (varsS first n s).1 (wrap64 (first + n))).1, (varsS first n s).2 ++ [(varF (varsS first n s).1 (wrap64 (first + n))).2])
theorem varsS_len (first : Int) (n : Nat) (s : BS) : (varsS first n s).2.length = n := by
  induction n with
  | zero => rfl
  | succ n ih => simp [varsS, ih]

/-- A row of n that holds the last ones already. -/
def varTo (zs : List Int) (n : Nat) : List Value := (List.replicate (n - zs.length) 0 ++ zs.reverse).map (Value.int .i64)
theorem varTo_nil (n : Nat) : varTo [] n = List.replicate n (Value.int .i64 0) := by simp [varTo]
theorem varTo_full (zs : List Int) (n : Nat) (h : zs.length = n) : varTo zs n = zs.reverse.map (Value.int .i64) := by simp [varTo, h]
theorem varTo_set (zs : List Int) (n : Nat) (z : Int) (h : zs.length < n) : (varTo zs n).set (n - 1 - zs.length) (.int .i64 z) = varTo (zs ++ [z]) n := by
  unfold varTo
  obtain ⟨m, hm⟩ : ∃ m, n - zs.length = m + 1 := ⟨n - zs.length - 1, by omega⟩
  have h2 : n - (zs ++ [z]).length = m := by simp; omega
  have h3 : n - 1 - zs.length = m := by omega
  rw [h2, hm, h3, List.replicate_succ']
  simp only [List.map_append, List.map_replicate, List.map_cons, List.map_nil, List.reverse_append, List.reverse_cons, List.reverse_nil, List.nil_append, List.append_assoc]
  rw [List.set_append_right _ _ (by simp)]
  simp

def VarsAt (b : Nat) (O : Nat → Prop) (w : World) (r : BS × List Int) (M : Nat) (wr : World) : Prop :=
  ∃ O', Sto wr b O' r.1 ∧ Ext O O' w wr ∧ ¬ O' w.heap.size ∧ wr.ownsRow w.heap.size 3 1 (.slice (some ⟨w.heap.size, 0, none⟩) M M) M (varTo r.2 M)

theorem VarsAt.push {b : Nat} {O O2 : Nat → Prop} {w w1 : World} {s1 : BS} {zs : List Int} {z : Int} {M k : Nat} (hk : zs.length = k) (hl : k < M)
    (hs : Sto w1 b O2 s1) (he : Ext O O2 w w1) (hn : ¬ O2 w.heap.size) (hown : w1.ownsRow w.heap.size 3 1 (.slice (some ⟨w.heap.size, 0, none⟩) M M) M (varTo zs M)) :
    (∃ x, w1.cell? ⟨w.heap.size, M - 1 - k, none⟩ = some x) ∧ w1.frozen? ⟨w.heap.size, M - 1 - k, none⟩ = false ∧ VarsAt b O w (s1, zs ++ [z]) M (w1.setCell ⟨w.heap.size, M - 1 - k, none⟩ (.int .i64 z)) := by
  subst hk
  have hml : (varTo zs M).length = M := by unfold varTo; simp; omega
  obtain ⟨h1, h2, h3⟩ := mapCell hml (show M - 1 - zs.length < M by omega) hown (.int .i64 z)
  refine ⟨h1, h2, O2, hs.setNew hn _, he.setNew (Nat.le_refl _) _, hn, ?_⟩
  rw [varTo_set zs M z hl] at h3
  exact h3

set_option maxRecDepth 100000 in
set_option maxHeartbeats 1600000 in
theorem symbvVars_sto (b : Nat) (O : Nat → Prop) (s0 : BS) (first n : Int) (w : World) (hs : Sto w b O s0) (h0 : -9223372036854775808 ≤ n) (h1 : n ≤ 9223372036854775807) :
    Calls Try.prog 18 #[.pointer (some ⟨b, 0, none⟩), .int .i64 first, .int .i64 n] w (RetVS b O w ((varsS first (max 0 (min n 64)).toNat s0).1, (varsS first (max 0 (min n 64)).toNat s0).2.reverse)) := by
  obtain ⟨i0, hi, hz0, hz1, hz2⟩ := info_parts Try.infoInt
  have HS := Lib.hid hs
  clear hs
  obtain ⟨M, hM⟩ : ∃ M, M = (max 0 (min n 64)).toNat := ⟨_, rfl⟩
  have hM1 : M ≤ 64 := by omega
  have HM : Hid ((n ≤ 0 → M = 0) ∧ (0 ≤ n → n ≤ 64 → (M : Int) = n) ∧ (64 ≤ n → M = 64)) := ⟨by omega, by omega, by omega⟩
  rw [← hM]
  clear hM
  go_enter Try.func18, Try.ntmps18
  go_wp2_with (first
    | (at_make; refine wpList_make_full _ rfl _ _ 34 rfl w.heap.size 3 i0 (.int .i64 0) 1 Try.underlying34 hi hz0 hz1 .i64 .i64 _ _ M rfl rfl (by have := HM.out; omega) (by have := HM.out; omega) (by rw [hz2]; omega) (by unfold maxLen; omega) (Nat.le_refl _) ?_; intro w0 hown0 hgrow0))
  all_goals
    rw [toList_madeCells_zero] at hown0
    have H0 : Hid (VarsAt b O w (varsS first 0 s0) M w0) := ⟨O, HS.out.below ((Below.refl _ _).grown hgrow0 (Nat.le_refl _) (fun k h => by cases h)), Ext.of_below ((Below.refl _ _).grown hgrow0 (Nat.le_refl _) (fun k h => by cases h)), fun h => by have := HS.out.lt _ h; omega, by show w0.ownsRow _ _ _ _ _ (varTo [] _); rw [varTo_nil]; exact hown0⟩
    clear hown0 hgrow0
    go_loopw [15] (fun i wr => ∃ k : Nat, k ≤ M ∧ i = .int .i64 k ∧ Hid (VarsAt b O w (varsS first k s0) M wr))
      (fun i _ => M - (intOf i).toNat)
    case atStart => exact ⟨0, Nat.zero_le _, rfl, H0⟩
    case round =>
      obtain ⟨k, hk, rfl, HZ⟩ := hrel
      by_cases hlt : k < M
      · obtain ⟨O1, hs1, he1, hn1, hown1⟩ := HZ.out
        have HN : Hid (Calls Try.prog 10 #[.pointer (some ⟨b, 0, none⟩), .int .i64 (wrap64 (first + k))] wr (RetS b O1 wr (varF (varsS first k s0).1 (wrap64 (first + k))))) := var_sto b O1 _ _ wr hs1
        have HE1 := Lib.hid he1
        have HN1 := Lib.hid hn1
        have HO1 := Lib.hid hown1
        clear hs1 he1 hn1 hown1
        go_wp2_with fail
        refine HN.out.mono ?_
        rintro e w1 ⟨rfl, O2, hs2, hx2⟩
        obtain ⟨he2, hn2, hown2⟩ := own_call HE1.out HN1.out HO1.out hs2 hx2
        have hml : (varsS first k s0).2.length = k := varsS_len _ _ _
        obtain ⟨⟨x, z1⟩, z2, z3⟩ := VarsAt.push (z := (varF (varsS first k s0).1 (wrap64 (first + k))).2) hml hlt hs2 he2 hn2 hown2
        have HK : Hid (VarsAt b O w (varsS first (k + 1) s0) M (w1.setCell ⟨w.heap.size, M - 1 - k, none⟩ (.int .i64 (varF (varsS first k s0).1 (wrap64 (first + k))).2))) := z3
        clear hs2 hx2 he2 hn2 hown2 z3 hml
        go_wp2_with fail
        go_roundw
        case rel => exact ⟨k + 1, by omega, by go_num, HK⟩
        case measure => simp [intOf]; omega
      · obtain rfl : k = M := by omega
        go_wp2_with fail
        go_ret
        obtain ⟨O1, hs1, he1, hn1, hown1⟩ := HZ.out
        rw [varTo_full _ _ (varsS_len _ _ _)] at hown1
        exact ⟨_, O1, rfl, ⟨IVec.of_owns (by rw [List.length_reverse]; exact varsS_len _ _ _) hown1, fun j hj _ => by cases hj; exact hn1, NilOk.some _ _ _⟩, hs1, he1⟩

end Go.Proofs.Ytlnkflmnjkmhkaa

/-
  Contract of (*Store).Holds at a store that is there.
-/
namespace Go.Proofs.Ytlnkflmnjkmhkaa
open Go.RowKit Go.Maps

/-- The value reads as a list of truths. -/
def BVec (w : World) (v : Value) (bs : List Bool) : Prop :=
  ∃ pa cap, v = .slice pa bs.length cap ∧ bs.length ≤ cap ∧ cap ≤ maxLen ∧
    (0 < bs.length → ∃ b off, pa = some ⟨b, off, none⟩ ∧ b < w.heap.size ∧ ∀ i, i < bs.length → w.cell? ⟨b, off + i, none⟩ = some (.bool (bs.getD i false)))
theorem BVec.below {w w' : World} {v : Value} {bs : List Bool} (h : BVec w v bs) (hb : Below w.heap.size w w') : BVec w' v bs := by
  obtain ⟨pa, cap, h1, h2, h3, h4⟩ := h
  refine ⟨pa, cap, h1, h2, h3, fun h0 => ?_⟩
  obtain ⟨b, off, e, hlt, hc⟩ := h4 h0
  exact ⟨b, off, e, Nat.lt_of_lt_of_le hlt hb.size, fun i hi => by rw [hb.cell (p := ⟨b, off + i, none⟩) hlt]; exact hc i hi⟩

/-- What the bits say of a variable. -/
def qOf (bs : List Bool) (v : Int) : Bool := bs.getD v.toNat false

set_option maxRecDepth 100000 in
set_option maxHeartbeats 400000 in
theorem none_at (b : Nat) (c : Int) (w : World) (hc : (c == 0) = false) (h : w.cell? ⟨b, 0, none⟩ = some (.int .i64 c)) :
    Calls Try.prog 78 #[.pointer (some ⟨b, 0, none⟩)] w fun e w' => e = .returned (.bool false) ∧ w = w' := by
  go_enter Try.func78, Try.ntmps78
  go_wp2
  go_ret
  exact ⟨rfl, rfl⟩

set_option maxRecDepth 100000 in
set_option maxHeartbeats 2000000 in
theorem holds_sto (b : Nat) (O : Nat → Prop) (s : BS) (a : Int) (vb : Value) (bs : List Bool) (w : World) (hs : Sto w b O s) (hbv : BVec w vb bs) (hbl : bs.length ≤ 1000000) :
    Calls Try.prog 90 #[.pointer (some ⟨b, 0, none⟩), .int .i64 a, vb] w fun e w' => e = .returned (.bool (valP s.nodes (qOf bs) (rightP s.nodes a))) ∧ Below w.heap.size w w' := by
  obtain ⟨told, hI, ho, -⟩ := hs
  obtain ⟨pa, cb, rfl, hb1, hb2, hb3⟩ := hbv
  have HR := Lib.hid (right_any b O s told a w hI)
  have HI := Lib.hid hI
  have HO := Lib.hid ho
  have HB := Lib.hid hb3
  obtain ⟨vn, m1, m2, c0, c1, c2, c3, c4, fz, own, hm12, hnb, hm1, hm2, hO, hcp1, hcp2, -⟩ := hI
  have hcap : ((s.cap : Int) == 0) = false := by rw [beq_eq_false_iff_ne]; omega
  clear c1 c2 c3 c4 fz own hm12 hnb hm1 hm2 hO ho hb3
  have HIS : Hid (Is s.nodes (rightP s.nodes a)) := rightP_is _ _
  obtain ⟨r0, hr0⟩ : ∃ r0, r0 = rightP s.nodes a := ⟨_, rfl⟩
  rw [← hr0] at HR HIS ⊢
  clear hr0
  go_enter Try.func90, Try.ntmps90
  go_wp2_with fail
  refine (none_at b _ w hcap c0).mono ?_
  rintro e w1 ⟨rfl, rfl⟩
  go_wp2_with fail
  refine HR.out.mono ?_
  rintro e w1 ⟨rfl, rfl⟩
  clear HR c0
  go_wp2_with fail
  go_loopw [1] (fun x wr => ∃ r : Int, x = .int .i64 r ∧ Hid (Is s.nodes r ∧ valP s.nodes (qOf bs) r = valP s.nodes (qOf bs) r0 ∧ Below w.heap.size w wr)) (fun x _ => (intOf x).toNat)
  case atStart => exact ⟨r0, rfl, HIS.out, rfl, Below.refl _ _⟩
  case round =>
    obtain ⟨r, rfl, HK⟩ := hrel
    obtain ⟨k1, k2, k3⟩ := HK.out
    by_cases h2 : r < 2
    · have HE : Hid (valP s.nodes (qOf bs) r0 = (r == 1)) := by
        show _ = _
        rw [← k2, valP_two h2]
      have HB3 := Lib.hid k3
      have h2' : ¬ (1 < r) := by omega
      clear k1 k2 k3 h2
      go_wp2_with fail
      go_ret
      exact ⟨by rw [HE.out]; rfl, HB3.out⟩
    · obtain ⟨k, rfl⟩ : ∃ k : Nat, r = (k : Int) + 2 := ⟨(r - 2).toNat, by omega⟩
      have hk : k < s.nodes.length := by unfold Is at k1; omega
      obtain ⟨g, cn, t, ht, c1, hcn, hle, n0, n1, n2⟩ := (HI.out.below k3).node k hk
      have e2 : ((k : Int) + 2 - 2).toNat = k := by omega
      have HV : Hid (valP s.nodes (qOf bs) r0 = if qOf bs t.a then valP s.nodes (qOf bs) t.c else valP s.nodes (qOf bs) t.b) := by
        show _ = _
        rw [← k2, valP_node HO.out _ k1 (by omega) (by rw [e2]; exact ht)]
      have HT : Hid ((0 ≤ t.a ∧ t.a < 64) ∧ (0 ≤ t.b ∧ t.b < (k : Int) + 2) ∧ (0 ≤ t.c ∧ t.c < (k : Int) + 2)) := ⟨HO.out.var _ _ ht, HO.out.lo _ _ ht, HO.out.hi _ _ ht⟩
      have HIB : Hid (Is s.nodes t.b ∧ Is s.nodes t.c) := by
        have := HT.out
        exact ⟨by unfold Is; omega, by unfold Is; omega⟩
      have hv0 : 0 ≤ t.a := HT.out.1.1
      have hv1 : t.a < 64 := HT.out.1.2
      have HB3 := Lib.hid k3
      clear ht k1 k2 e2
      by_cases hin : t.a < bs.length
      · obtain ⟨bb, ob, rfl, hbb, hbc⟩ := HB.out (by omega)
        obtain ⟨v, hv⟩ : ∃ v : Nat, t.a = (v : Int) := ⟨t.a.toNat, by omega⟩
        have r1 : wr.cell? ⟨bb, ob + v, none⟩ = some (.bool (qOf bs t.a)) := by
          rw [HB3.out.cell (p := ⟨bb, ob + v, none⟩) hbb, hbc v (by omega), hv]
          rfl
        have hbb2 : bb < wr.heap.size := Nat.lt_of_lt_of_le hbb k3.size
        have r2 : ∀ o, (wr.alloc o).cell? ⟨bb, ob + v, none⟩ = some (.bool (qOf bs t.a)) := fun o => (World.cell?_alloc_lt wr o ⟨bb, ob + v, none⟩ hbb2).trans r1
        have HQ : Hid (qOf bs (v : Int) = qOf bs t.a) := by show _ = _; rw [hv]
        rw [hv] at n0 hin hv0 hv1 r1 r2
        clear hbc hv k3
        cases hq : qOf bs (v : Int)
        all_goals
          rw [hq] at r1 r2
          have HQ2 : Hid (qOf bs t.a = _) := HQ.out.symm.trans hq
          clear hq
          go_wp2_with fail
          go_roundw
          case rel => first | exact ⟨t.c, rfl, HIB.out.2, by rw [HV.out, HQ2.out]; rfl, HB3.out.alloc HB3.out.size _⟩ | exact ⟨t.b, rfl, HIB.out.1, by rw [HV.out, HQ2.out]; rfl, HB3.out.alloc HB3.out.size _⟩
          case measure => have := HT.out; simp [intOf]; omega
      · have HQ2 : Hid (qOf bs t.a = false) := by show _ = _; unfold qOf; rw [List.getD_eq_getElem?_getD, List.getElem?_eq_none (by omega)]; rfl
        clear k3
        go_wp2_with fail
        go_roundw
        case rel => exact ⟨t.b, rfl, HIB.out.1, by rw [HV.out, HQ2.out]; rfl, HB3.out.alloc HB3.out.size _⟩
        case measure => have := HT.out; simp [intOf]; omega

end Go.Proofs.Ytlnkflmnjkmhkaa
