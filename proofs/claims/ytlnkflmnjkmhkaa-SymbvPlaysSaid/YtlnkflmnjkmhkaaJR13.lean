/-
  Lemmas, joined: SymopS, VecS, VecS2.
-/
import Derived.Test.YtlnkflmnjkmhkaaJR12
import Derived.Test.YtlnkflmnjkmhkaaJR11
/-
  Contracts of symop's truths at a store that is there: Eq, Less, AtMost, Any, by their plain laws.
-/
namespace Go.Proofs.Ytlnkflmnjkmhkaa
open Go.RowKit Go.Maps

def truthS (s : BS) (a : Int) : Int := if s.full then 0 else a

set_option maxRecDepth 100000 in
set_option maxHeartbeats 400000 in
theorem truth_sto (b : Nat) (O : Nat → Prop) (s : BS) (a : Int) (w : World) (hs : Sto w b O s) :
    Calls Try.prog 109 #[.pointer (some ⟨b, 0, none⟩), .int .i64 a] w fun e w' => e = .returned (.int .i64 (truthS s a)) ∧ w = w' := by
  have HM := Lib.hid (full_sto b O s w hs)
  clear hs
  unfold truthS
  generalize s.full = f at *
  cases f
  all_goals
    go_enter Try.func109, Try.ntmps109
    go_wp2_with (go_at_call 16; refine HM.out.mono ?_; rintro e w1 ⟨rfl, rfl⟩)
    go_ret
    exact ⟨rfl, rfl⟩

/-- A fold over pairs of bits: the store and what is told. -/
def foldP (g : BS → Int → Int → Int → BS × Int) (xs ys : List Int) (t0 : Int) (s : BS) : Nat → BS × Int
  | 0 => (s, t0)
  | n + 1 => g (foldP g xs ys t0 s n).1 (foldP g xs ys t0 s n).2 (xs.getD n 0) (ys.getD n 0)
/-- A fold over bits. -/
def foldI (g : Nat → BS → Int → Int → BS × Int) (xs : List Int) (t0 : Int) (s : BS) : Nat → BS × Int
  | 0 => (s, t0)
  | n + 1 => g n (foldI g xs t0 s n).1 (foldI g xs t0 s n).2 (xs.getD n 0)

theorem foldP_sto (f : Nat) (g : BS → Int → Int → Int → BS × Int) (b bS : Nat) (O : Nat → Prop) (s : BS) (v : Value) (M : Nat) (xs ys : List Int) (t0 : Int) (w : World) (hM : M ≤ 1000000) (hv : PVecX w O v M (pairAt xs ys)) (hs : Sto w b O s) (hS : w.cell? ⟨bS, 0, none⟩ = some (.pointer (some ⟨b, 0, none⟩))) (hn : ¬ O bS)
    (hcall : ∀ (av : Array Value) (W : World), (callFunc f av).run Try.prog W = .ok (.enter f av) W)
    (hf : ∀ (t x y : Int) s' O' W, Sto W b O' s' → W.cell? ⟨bS, 0, none⟩ = some (.pointer (some ⟨b, 0, none⟩)) → ¬ O' bS → Calls Try.prog f #[.int .i64 t, .agg #[.int .i64 x, .int .i64 y], .pointer (some ⟨bS, 0, none⟩)] W (RetS b O' W (g s' t x y))) :
    Calls Try.prog 110 #[v, .int .i64 t0, .func (.func f) #[] #[.pointer (some ⟨bS, 0, none⟩)]] w (RetS b O w (foldP g xs ys t0 s M)) := by
  refine (fold_bits f #[] #[.pointer (some ⟨bS, 0, none⟩)] v M (pairAt xs ys) (fun k t W => t = (foldP g xs ys t0 s k).2 ∧ ∃ O', Sto W b O' (foldP g xs ys t0 s k).1 ∧ Ext O O' w W ∧ PVecX W O' v M (pairAt xs ys)) t0 w hM ⟨rfl, O, hs, Ext.refl _ _, hv⟩ ?_ ?_ hcall ?_).mono ?_
  · rintro k t W ⟨-, O', -, -, h⟩
    exact h.pvec
  · rintro k t W W' ⟨h0, O', h1, h2, h3⟩ hb
    exact ⟨h0, O', h1.below hb, h2.trans (Ext.of_below hb), h3.ext (Ext.of_below hb)⟩
  · rintro k hk t W ⟨rfl, O', h1, h2, h3⟩
    have e := h2.cell (p := ⟨bS, 0, none⟩) (cell_there hS).1 hn
    refine (hf _ _ _ _ O' W h1 (e.1.trans hS) e.2.2).mono fun e' w' ⟨q1, O'', q2, q3⟩ => ⟨_, q1, rfl, O'', q2, h2.trans q3, h3.ext q3⟩
  · rintro e w' ⟨r, h1, rfl, O', h2, h3, -⟩
    exact ⟨h1, O', h2, h3⟩

def eqStep (s : BS) (t x y : Int) : BS × Int := andF (notF (xorF s x y).1 (xorF s x y).2).1 t (notF (xorF s x y).1 (xorF s x y).2).2
def lessStep (s : BS) (t x y : Int) : BS × Int := iteF (xorF s x y).1 (xorF s x y).2 y t

theorem heldS {O O' : Nat → Prop} {W w1 : World} {bS g : Nat} {po : Option Addr} {x y : Int} (he : Ext O O' W w1) (hn : ¬ O bS) (hg : ¬ O g) (h : W.cell? ⟨bS, 0, none⟩ = some (.pointer po) ∧ W.cell? ⟨g, 0, none⟩ = some (.int .i64 x) ∧ W.cell? ⟨g, 1, none⟩ = some (.int .i64 y)) :
    w1.cell? ⟨bS, 0, none⟩ = some (.pointer po) ∧ w1.cell? ⟨g, 0, none⟩ = some (.int .i64 x) ∧ w1.cell? ⟨g, 1, none⟩ = some (.int .i64 y) :=
  ⟨(he.cell (p := ⟨bS, 0, none⟩) (cell_there h.1).1 hn).1.trans h.1, (he.cell (p := ⟨g, 0, none⟩) (cell_there h.2.1).1 hg).1.trans h.2.1, (he.cell (p := ⟨g, 1, none⟩) (cell_there h.2.2).1 hg).1.trans h.2.2⟩

set_option maxRecDepth 100000 in
set_option maxHeartbeats 800000 in
theorem eq1_sto (b bS : Nat) (O : Nat → Prop) (s : BS) (t x y : Int) (w : World) (hs : Sto w b O s) (hS : w.cell? ⟨bS, 0, none⟩ = some (.pointer (some ⟨b, 0, none⟩))) (hn : ¬ O bS) :
    Calls Try.prog 112 #[.int .i64 t, .agg #[.int .i64 x, .int .i64 y], .pointer (some ⟨bS, 0, none⟩)] w (RetS b O w (eqStep s t x y)) := by
  have HD := Lib.hid hs
  have hlS := (cell_there hS).1
  have H1 : Hid (∀ W, Sto W b O s → Calls Try.prog 84 #[.pointer (some ⟨b, 0, none⟩), .int .i64 x, .int .i64 y] W (RetS b O W (xorF s x y))) := fun W hW => xor_sto b O s x y W hW
  have H2 : Hid (∀ O' W, Sto W b O' (xorF s x y).1 → Calls Try.prog 85 #[.pointer (some ⟨b, 0, none⟩), .int .i64 (xorF s x y).2] W (RetS b O' W (notF (xorF s x y).1 (xorF s x y).2))) := fun O' W hW => not_sto b O' _ _ W hW
  have H3 : Hid (∀ O' W, Sto W b O' (notF (xorF s x y).1 (xorF s x y).2).1 → Calls Try.prog 82 #[.pointer (some ⟨b, 0, none⟩), .int .i64 t, .int .i64 (notF (xorF s x y).1 (xorF s x y).2).2] W (RetS b O' W (eqStep s t x y))) := fun O' W hW => and_sto b O' _ _ _ W hW
  generalize eqStep s t x y = r3 at *
  generalize notF (xorF s x y).1 (xorF s x y).2 = r2 at *
  generalize xorF s x y = r1 at *
  obtain ⟨s1, i1⟩ := r1
  obtain ⟨s2, i2⟩ := r2
  obtain ⟨s3, i3⟩ := r3
  dsimp only at H1 H2 H3 ⊢
  clear hs
  go_enter Try.func112, Try.ntmps112
  go_wp2_with fail
  generalize hX : w.alloc (.cells #[.int .i64 x, .int .i64 y] 131) = X
  have hBX : Below w.heap.size w X := by rw [← hX]; exact (by repeat (first | exact Below.refl _ _ | assumption | refine Below.drew ?_ | refine Below.alloc ?_ (by first | omega | (simp <;> omega)) _ | refine Below.setCell ?_ (by first | omega | (simp <;> omega)) _ | refine Below.trans ?_ (Below.mono (by assumption) (by first | omega | (simp <;> omega)))))
  have hsX : w.heap.size < X.heap.size := by rw [← hX]; simp
  have sX : X.cell? ⟨bS, 0, none⟩ = some (.pointer (some ⟨b, 0, none⟩)) := (hBX.cell hlS).trans hS
  have x0 : X.cell? ⟨w.heap.size, 0, none⟩ = some (.int .i64 x) := by rw [← hX]; simp [go_sem]
  have x1 : X.cell? ⟨w.heap.size, 1, none⟩ = some (.int .i64 y) := by rw [← hX]; simp [go_sem]
  have hlX := (cell_there sX).1
  have HBX := Lib.hid hBX
  have hg : ¬ O w.heap.size := fun h => by have := HD.out.lt _ h; omega
  have HSX : Hid (Sto X.drew b O s) := HD.out.below (below_drewN hBX 1)
  clear hX hBX hS
  go_region_held3 (fun w' => w'.cell? ⟨bS, 0, none⟩ = some (.pointer (some ⟨b, 0, none⟩)) ∧ w'.cell? ⟨w.heap.size, 0, none⟩ = some (.int .i64 x) ∧ w'.cell? ⟨w.heap.size, 1, none⟩ = some (.int .i64 y))
    (first | exact ⟨sX, x0, x1⟩ | exact heldS HE2.out hn1 hg1 (by assumption) | exact heldS HE1.out hn hg (by assumption) | go_keep)
    (first | (go_at_call 84; refine (H1.out _ HSX.out).mono ?_; rintro e w1 ⟨rfl, O1, hs1, he1⟩; dsimp only at hs1; have HS1 := Lib.hid hs1; have HE1 := Lib.hid he1; have hn1 : ¬ O1 bS := (he1.cell (p := ⟨bS, 0, none⟩) hlX hn).2.2; have hg1 : ¬ O1 w.heap.size := (he1.cell (p := ⟨w.heap.size, 0, none⟩) hsX hg).2.2; clear hs1 he1) | (go_at_call 85; refine (H2.out _ _ HS1.out).mono ?_; rintro e w2 ⟨rfl, O2, hs2, he2⟩; dsimp only at hs2; have HS2 := Lib.hid hs2; have HE2 := Lib.hid he2; clear hs2 he2))
  rename_i hH
  obtain ⟨s1, -, -⟩ := hH
  go_wp2_with fail
  refine (H3.out _ _ HS2.out).mono ?_
  rintro e w3 ⟨rfl, O3, hs3, he3⟩
  dsimp only at hs3
  have HS3 := Lib.hid hs3
  have HE3 := Lib.hid he3
  clear hs3 he3
  go_wp2_with fail
  go_ret
  exact ⟨rfl, O3, HS3.out, (Ext.of_below (below_drewN HBX.out 1)).trans (HE1.out.trans (HE2.out.trans HE3.out))⟩

set_option maxRecDepth 100000 in
set_option maxHeartbeats 800000 in
theorem less1_sto (b bS : Nat) (O : Nat → Prop) (s : BS) (t x y : Int) (w : World) (hs : Sto w b O s) (hS : w.cell? ⟨bS, 0, none⟩ = some (.pointer (some ⟨b, 0, none⟩))) (hn : ¬ O bS) :
    Calls Try.prog 113 #[.int .i64 t, .agg #[.int .i64 x, .int .i64 y], .pointer (some ⟨bS, 0, none⟩)] w (RetS b O w (lessStep s t x y)) := by
  have HD := Lib.hid hs
  have hlS := (cell_there hS).1
  have H1 : Hid (∀ W, Below w.heap.size w W → Calls Try.prog 84 #[.pointer (some ⟨b, 0, none⟩), .int .i64 x, .int .i64 y] W (RetS b O W (xorF s x y))) := fun W hW => xor_sto b O s x y W (hs.below hW)
  have H2 : Hid (∀ O' W, Sto W b O' (xorF s x y).1 → Calls Try.prog 87 #[.pointer (some ⟨b, 0, none⟩), .int .i64 (xorF s x y).2, .int .i64 y, .int .i64 t] W (RetS b O' W (lessStep s t x y))) := fun O' W hW => ite_sto b O' _ _ _ _ W hW
  have hg : ¬ O w.heap.size := fun h => by have := hs.lt _ h; omega
  generalize lessStep s t x y = r2 at *
  generalize xorF s x y = r1 at *
  obtain ⟨s1, i1⟩ := r1
  obtain ⟨s2, i2⟩ := r2
  dsimp only at H1 H2 ⊢
  clear hs
  go_enter Try.func113, Try.ntmps113
  go_wp2_with fail
  refine (H1.out _ (by repeat (first | exact Below.refl _ _ | assumption | refine Below.drew ?_ | refine Below.alloc ?_ (by first | omega | (simp <;> omega)) _ | refine Below.setCell ?_ (by first | omega | (simp <;> omega)) _ | refine Below.trans ?_ (Below.mono (by assumption) (by first | omega | (simp <;> omega)))))).mono ?_
  rintro e w1 ⟨rfl, O1, hs1, he1⟩
  dsimp only at hs1
  have hB1 : Below w.heap.size w (w.alloc (.cells #[.int .i64 x, .int .i64 y] 131)) := (by repeat (first | exact Below.refl _ _ | assumption | refine Below.drew ?_ | refine Below.alloc ?_ (by first | omega | (simp <;> omega)) _ | refine Below.setCell ?_ (by first | omega | (simp <;> omega)) _ | refine Below.trans ?_ (Below.mono (by assumption) (by first | omega | (simp <;> omega)))))
  have s1c : w1.cell? ⟨bS, 0, none⟩ = some (.pointer (some ⟨b, 0, none⟩)) := (he1.cell (p := ⟨bS, 0, none⟩) (by simp; omega) hn).1.trans ((hB1.cell hlS).trans hS)
  have x1 : w1.cell? ⟨w.heap.size, 1, none⟩ = some (.int .i64 y) := by rw [(he1.cell (p := ⟨w.heap.size, 1, none⟩) (by simp) hg).1]; simp [go_sem]
  have HS1 := Lib.hid hs1
  have HE1 : Hid (Ext O O1 w w1) := (Ext.of_below hB1).trans he1
  clear hS hs1 he1 hB1
  go_wp2_with fail
  refine (H2.out _ _ HS1.out).mono ?_
  rintro e w2 ⟨rfl, O2, hs2, he2⟩
  dsimp only at hs2
  have HS2 := Lib.hid hs2
  have HE2 := Lib.hid he2
  clear hs2 he2
  go_wp2_with fail
  go_ret
  exact ⟨rfl, O2, HS2.out, HE1.out.trans HE2.out⟩

end Go.Proofs.Ytlnkflmnjkmhkaa

/-
  Contracts of package symbv at a store that is there: And, Or, Xor, Mux, Not, Vars.
-/
namespace Go.Proofs.Ytlnkflmnjkmhkaa
open Go.RowKit Go.Maps

set_option maxRecDepth 100000 in
set_option maxHeartbeats 400000 in
theorem symbvAnd_sto (b : Nat) (O : Nat → Prop) (s : BS) (va vb : Value) (xs ys : List Int) (w : World) (hs : Sto w b O s) (ha : IVecX w O va xs) (hb : IVecX w O vb ys) (hxl : xs.length ≤ 1000000) (hyl : ys.length ≤ 1000000) :
    Calls Try.prog 20 #[.pointer (some ⟨b, 0, none⟩), va, vb] w (RetVS b O w (zipS andF xs ys (max xs.length ys.length) s)) := by
  have HZ := Lib.hid (zip_sto 82 #[.pointer (some ⟨b, 0, none⟩)] #[] andF b O s va vb xs ys w hs ha hb hxl hyl (fun x y s O' W _ h => and_sto b O' s x y W h) call_and)
  clear hs ha hb
  go_enter Try.func20, Try.ntmps20
  go_wp2_with fail
  refine HZ.out.mono ?_
  rintro e w1 ⟨v, O', rfl, hv⟩
  have HV := Lib.hid hv
  clear hv
  go_wp2_with fail
  go_ret
  exact ⟨_, O', rfl, HV.out⟩

set_option maxRecDepth 100000 in
set_option maxHeartbeats 400000 in
theorem symbvOr_sto (b : Nat) (O : Nat → Prop) (s : BS) (va vb : Value) (xs ys : List Int) (w : World) (hs : Sto w b O s) (ha : IVecX w O va xs) (hb : IVecX w O vb ys) (hxl : xs.length ≤ 1000000) (hyl : ys.length ≤ 1000000) :
    Calls Try.prog 21 #[.pointer (some ⟨b, 0, none⟩), va, vb] w (RetVS b O w (zipS orF xs ys (max xs.length ys.length) s)) := by
  have HZ := Lib.hid (zip_sto 83 #[.pointer (some ⟨b, 0, none⟩)] #[] orF b O s va vb xs ys w hs ha hb hxl hyl (fun x y s O' W _ h => or_sto b O' s x y W h) call_or)
  clear hs ha hb
  go_enter Try.func21, Try.ntmps21
  go_wp2_with fail
  refine HZ.out.mono ?_
  rintro e w1 ⟨v, O', rfl, hv⟩
  have HV := Lib.hid hv
  clear hv
  go_wp2_with fail
  go_ret
  exact ⟨_, O', rfl, HV.out⟩

set_option maxRecDepth 100000 in
set_option maxHeartbeats 400000 in
theorem symbvXor_sto (b : Nat) (O : Nat → Prop) (s : BS) (va vb : Value) (xs ys : List Int) (w : World) (hs : Sto w b O s) (ha : IVecX w O va xs) (hb : IVecX w O vb ys) (hxl : xs.length ≤ 1000000) (hyl : ys.length ≤ 1000000) :
    Calls Try.prog 22 #[.pointer (some ⟨b, 0, none⟩), va, vb] w (RetVS b O w (zipS xorF xs ys (max xs.length ys.length) s)) := by
  have HZ := Lib.hid (zip_sto 84 #[.pointer (some ⟨b, 0, none⟩)] #[] xorF b O s va vb xs ys w hs ha hb hxl hyl (fun x y s O' W _ h => xor_sto b O' s x y W h) call_xor)
  clear hs ha hb
  go_enter Try.func22, Try.ntmps22
  go_wp2_with fail
  refine HZ.out.mono ?_
  rintro e w1 ⟨v, O', rfl, hv⟩
  have HV := Lib.hid hv
  clear hv
  go_wp2_with fail
  go_ret
  exact ⟨_, O', rfl, HV.out⟩

set_option maxRecDepth 100000 in
set_option maxHeartbeats 400000 in
theorem mux1_sto (b : Nat) (O : Nat → Prop) (s : BS) (x y c : Int) (p q : Addr) (W : World) (hs : Sto W b O s) (hp : W.cell? p = some (.pointer (some ⟨b, 0, none⟩))) (hq : W.cell? q = some (.int .i64 c)) :
    Calls Try.prog 86 #[.int .i64 x, .int .i64 y, .pointer (some p), .pointer (some q)] W (RetS b O W (iteF s c x y)) := by
  have HI := Lib.hid (ite_sto b O s c x y W hs)
  clear hs
  go_enter Try.func86, Try.ntmps86
  go_wp2_with fail
  refine HI.out.mono ?_
  rintro e w1 ⟨rfl, h⟩
  have H := Lib.hid h
  clear h
  go_wp2_with fail
  go_ret
  exact ⟨rfl, H.out⟩

set_option maxRecDepth 100000 in
set_option maxHeartbeats 400000 in
theorem symbvMux_sto (b : Nat) (O : Nat → Prop) (s : BS) (c : Int) (va vb : Value) (xs ys : List Int) (w : World) (hs : Sto w b O s) (ha : IVecX w O va xs) (hb : IVecX w O vb ys) (hxl : xs.length ≤ 1000000) (hyl : ys.length ≤ 1000000) :
    Calls Try.prog 24 #[.pointer (some ⟨b, 0, none⟩), .int .i64 c, va, vb] w (RetVS b O w (zipS (fun s x y => iteF s c x y) xs ys (max xs.length ys.length) s)) := by
  obtain ⟨A, hA⟩ : ∃ A, A = ((w.alloc (.cells #[.pointer (some ⟨b, 0, none⟩)] 23)).alloc (.cells #[.int .i64 c] 3)) := ⟨_, rfl⟩
  have hB : Below w.heap.size w A := by rw [hA]; exact (by repeat (first | exact Below.refl _ _ | assumption | refine Below.drew ?_ | refine Below.alloc ?_ (by first | omega | (simp <;> omega)) _ | refine Below.setCell ?_ (by first | omega | (simp <;> omega)) _ | refine Below.trans ?_ (Below.mono (by assumption) (by first | omega | (simp <;> omega)))))
  have hlt := hs.lt
  have n0 : ¬ O w.heap.size := fun h => by have := hlt _ h; omega
  have n1 : ¬ O (w.heap.size + 1) := fun h => by have := hlt _ h; omega
  have l0 : w.heap.size < A.heap.size := by rw [hA]; simp; omega
  have l1 : w.heap.size + 1 < A.heap.size := by rw [hA]; simp
  have c0 : A.cell? ⟨w.heap.size, 0, none⟩ = some (.pointer (some ⟨b, 0, none⟩)) := by rw [hA]; simp [go_sem]
  have c1 : A.cell? ⟨w.heap.size + 1, 0, none⟩ = some (.int .i64 c) := by rw [hA]; simp [go_sem]
  have HZ := Lib.hid (zip_sto 86 #[] #[.pointer (some ⟨w.heap.size, 0, none⟩), .pointer (some ⟨w.heap.size + 1, 0, none⟩)] (fun s x y => iteF s c x y) b O s va vb xs ys A (hs.below hB) (ha.below hB) (hb.below hB) hxl hyl
    (fun x y s O' W hE h => mux1_sto b O' s x y c _ _ W h ((hE.cell (p := ⟨w.heap.size, 0, none⟩) l0 n0).1.trans c0) ((hE.cell (p := ⟨w.heap.size + 1, 0, none⟩) l1 n1).1.trans c1)) call_mux1)
  have HB := Lib.hid hB
  clear hs ha hb hB hlt n0 n1 l0 l1 c0 c1
  go_enter Try.func24, Try.ntmps24
  go_wp2_with fail
  rw [← hA]
  clear hA
  refine HZ.out.mono ?_
  rintro e w1 ⟨v, O', rfl, hv1, hv2, hv3⟩
  have HV : Hid (IVecX w1 O' v (zipS (fun s x y => iteF s c x y) xs ys (max xs.length ys.length) s).2 ∧ Sto w1 b O' (zipS (fun s x y => iteF s c x y) xs ys (max xs.length ys.length) s).1 ∧ Ext O O' w w1) := ⟨hv1, hv2, (Ext.of_below HB.out).trans hv3⟩
  clear hv1 hv2 hv3
  go_wp2_with fail
  go_ret
  exact ⟨_, O', rfl, HV.out⟩

/-- Element by element, of one list. -/
def mapS (g : BS → Int → BS × Int) (xs : List Int) : Nat → BS → BS × List Int
  | 0, s => (s, [])
  | n + 1, s => ((g (mapS g xs n s).1 (xs.getD n 0)).1, (mapS g xs n s).2 ++ [(g (mapS g xs n s).1 (xs.getD n 0)).2])
theorem mapS_len (g : BS → Int → BS × Int) (xs : List Int) (n : Nat) (s : BS) : (mapS g xs n s).2.length = n := by
  induction n with
  | zero => rfl
  | succ n ih => simp [mapS, ih]

/-- A row of n that holds the first ones already. -/
def mapTo (zs : List Int) (n : Nat) : List Value := (zs ++ List.replicate (n - zs.length) 0).map (Value.int .i64)
theorem mapTo_nil (n : Nat) : mapTo [] n = List.replicate n (Value.int .i64 0) := by simp [mapTo]
theorem mapTo_full (zs : List Int) (n : Nat) (h : zs.length = n) : mapTo zs n = zs.map (Value.int .i64) := by simp [mapTo, h]
theorem mapTo_set (zs : List Int) (n : Nat) (z : Int) (h : zs.length < n) : (mapTo zs n).set zs.length (.int .i64 z) = mapTo (zs ++ [z]) n := by
  unfold mapTo
  obtain ⟨m, hm⟩ : ∃ m, n - zs.length = m + 1 := ⟨n - zs.length - 1, by omega⟩
  have h2 : n - (zs ++ [z]).length = m := by simp; omega
  rw [h2, hm, List.replicate_succ]
  simp

/-- What holds at a round's head where a row that was made is filled. -/
def MapAt (b : Nat) (O : Nat → Prop) (w : World) (r : BS × List Int) (M : Nat) (wr : World) : Prop :=
  ∃ O', Sto wr b O' r.1 ∧ Ext O O' w wr ∧ ¬ O' w.heap.size ∧ wr.ownsRow w.heap.size 3 1 (.slice (some ⟨w.heap.size, 0, none⟩) M M) M (mapTo r.2 M)

theorem own_call {b : Nat} {O O1 O2 : Nat → Prop} {w wr w1 : World} {s1 : BS} {M k : Nat} {zs : List Value} (he : Ext O O1 w wr) (hg : ¬ O1 w.heap.size) (hown : wr.ownsRow w.heap.size 3 1 (.slice (some ⟨w.heap.size, 0, none⟩) k M) k zs)
    (hs : Sto w1 b O2 s1) (hx : Ext O1 O2 wr w1) : Ext O O2 w w1 ∧ ¬ O2 w.heap.size ∧ w1.ownsRow w.heap.size 3 1 (.slice (some ⟨w.heap.size, 0, none⟩) k M) k zs := ZipAt.call he hg hown hs hx

theorem Ext.setNew {O O' : Nat → Prop} {w w1 : World} (h : Ext O O' w w1) {g j : Nat} (hg : w.heap.size ≤ g) (x : Value) : Ext O O' w (w1.setCell ⟨g, j, none⟩ x) :=
  ⟨⟨h.1.os, h.1.tape, h.1.output, by simpa [World.setCell] using h.1.size, fun k hk hO => (Below.heap_setCell w1 ⟨g, j, none⟩ x k (by show k ≠ g; omega)).trans (h.1.block k hk hO)⟩, h.2⟩
theorem Sto.setNew {w : World} {b : Nat} {O : Nat → Prop} {s : BS} (h : Sto w b O s) {g j : Nat} (hg : ¬ O g) (x : Value) : Sto (w.setCell ⟨g, j, none⟩ x) b O s :=
  h.kept fun k hk => Below.heap_setCell w ⟨g, j, none⟩ x k (fun e => hg (by rw [show g = k from e.symm]; exact hk))

/-- The cell that a round stores into. -/
theorem mapCell {w1 : World} {g k M : Nat} {zs : List Value} {e : TypeId} (hl : zs.length = M) (hk : k < M) (h : w1.ownsRow g e 1 (.slice (some ⟨g, 0, none⟩) M M) M zs) (z : Value) :
    (∃ x, w1.cell? ⟨g, k, none⟩ = some x) ∧ w1.frozen? ⟨g, k, none⟩ = false ∧ (w1.setCell ⟨g, k, none⟩ z).ownsRow g e 1 (.slice (some ⟨g, 0, none⟩) M M) M (zs.set k z) := by
  refine ⟨⟨zs[k]'(by omega), ?_⟩, h.frozenAt k, (h.stored k z).1⟩
  rw [h.cellAt k (by omega)]
  exact List.getElem?_eq_getElem (by omega)

end Go.Proofs.Ytlnkflmnjkmhkaa

/-
  Contracts of package symbv at a store that is there: Not, Vars.
-/
namespace Go.Proofs.Ytlnkflmnjkmhkaa
open Go.RowKit Go.Maps

/-- Behind the store of a round. -/
theorem MapAt.push {b : Nat} {O O2 : Nat → Prop} {w w1 : World} {s1 : BS} {zs : List Int} {z : Int} {M : Nat} (hl : zs.length < M)
    (hs : Sto w1 b O2 s1) (he : Ext O O2 w w1) (hn : ¬ O2 w.heap.size) (hown : w1.ownsRow w.heap.size 3 1 (.slice (some ⟨w.heap.size, 0, none⟩) M M) M (mapTo zs M)) :
    (∃ x, w1.cell? ⟨w.heap.size, zs.length, none⟩ = some x) ∧ w1.frozen? ⟨w.heap.size, zs.length, none⟩ = false ∧ MapAt b O w (s1, zs ++ [z]) M (w1.setCell ⟨w.heap.size, zs.length, none⟩ (.int .i64 z)) := by
  have hml : (mapTo zs M).length = M := by unfold mapTo; simp; omega
  obtain ⟨h1, h2, h3⟩ := mapCell hml hl hown (.int .i64 z)
  refine ⟨h1, h2, O2, hs.setNew hn _, he.setNew (Nat.le_refl _) _, hn, ?_⟩
  rw [mapTo_set zs M z hl] at h3
  exact h3

set_option maxRecDepth 100000 in
set_option maxHeartbeats 800000 in
theorem symbvNot_sto (b : Nat) (O : Nat → Prop) (s0 : BS) (va : Value) (xs : List Int) (w : World) (hs : Sto w b O s0) (ha : IVecX w O va xs) (hxl : xs.length ≤ 1000000) :
    Calls Try.prog 23 #[.pointer (some ⟨b, 0, none⟩), va] w (RetVS b O w (mapS notF xs xs.length s0)) := by
  obtain ⟨i0, hi, hz0, hz1, hz2⟩ := info_parts Try.infoInt
  have HS := Lib.hid hs
  have HAX := Lib.hid ha
  obtain ⟨pa, ca, rfl, ha3, ha4, -⟩ := ha.1.shape
  clear ha hs
  go_enter Try.func23, Try.ntmps23
  go_wp2_with (first
    | (at_make; refine wpList_make_full _ rfl _ _ 34 rfl w.heap.size 3 i0 (.int .i64 0) 1 Try.underlying34 hi hz0 hz1 .i64 .i64 _ _ xs.length rfl rfl rfl rfl (by rw [hz2]; omega) (by unfold maxLen; omega) (Nat.le_refl _) ?_; intro w0 hown0 hgrow0))
  rw [toList_madeCells_zero] at hown0
  have H0 : Hid (MapAt b O w (mapS notF xs 0 s0) xs.length w0) := ⟨O, HS.out.below ((Below.refl _ _).grown hgrow0 (Nat.le_refl _) (fun k h => by cases h)), Ext.of_below ((Below.refl _ _).grown hgrow0 (Nat.le_refl _) (fun k h => by cases h)), fun h => by have := HS.out.lt _ h; omega, by show w0.ownsRow _ _ _ _ _ (mapTo [] _); rw [mapTo_nil]; exact hown0⟩
  clear hown0 hgrow0
  go_loopw [13] (fun i wr => ∃ k : Nat, k ≤ xs.length ∧ i = .int .i64 k ∧ Hid (MapAt b O w (mapS notF xs k s0) xs.length wr))
    (fun i _ => xs.length - (intOf i).toNat)
  case atStart => exact ⟨0, Nat.zero_le _, rfl, H0⟩
  case round =>
    obtain ⟨k, hk, rfl, HZ⟩ := hrel
    by_cases hlt : k < xs.length
    · obtain ⟨O1, hs1, he1, hn1, hown1⟩ := HZ.out
      have hA := HAX.out.ext he1
      have HN : Hid (Calls Try.prog 85 #[.pointer (some ⟨b, 0, none⟩), .int .i64 (xs[k])] wr (RetS b O1 wr (notF (mapS notF xs k s0).1 (xs[k])))) := not_sto b O1 _ _ wr hs1
      have HE1 := Lib.hid he1
      have HN1 := Lib.hid hn1
      have HO1 := Lib.hid hown1
      clear hs1 he1 hn1 hown1
      obtain ⟨pa', ca', ea', -, -, hac⟩ := hA.1
      obtain ⟨ba, oa, ea2, ha2, ha6⟩ := hac (by omega)
      simp only [Value.slice.injEq] at ea'
      obtain ⟨ea1, -, -⟩ := ea'
      subst ea1
      subst ea2
      have ga := ha6 k hlt
      have ex : Hid (xs.getD k 0 = xs[k]) := by show _ = _; simp [hlt]
      rw [ex.out] at ga
      clear hac ha6 hA
      go_wp2_with fail
      refine HN.out.mono ?_
      rintro e w1 ⟨rfl, O2, hs2, hx2⟩
      obtain ⟨he2, hn2, hown2⟩ := own_call HE1.out HN1.out HO1.out hs2 hx2
      have hml : (mapS notF xs k s0).2.length = k := mapS_len _ _ _ _
      obtain ⟨⟨x, z1⟩, z2, z3⟩ := MapAt.push (z := (notF (mapS notF xs k s0).1 xs[k]).2) (by omega) hs2 he2 hn2 hown2
      rw [hml] at z1 z2 z3
      have HK : Hid (MapAt b O w (mapS notF xs (k + 1) s0) xs.length (w1.setCell ⟨w.heap.size, k, none⟩ (.int .i64 (notF (mapS notF xs k s0).1 xs[k]).2))) := by
        show MapAt _ _ _ _ _ _
        rw [mapS, ex.out]
        exact z3
      clear hs2 hx2 he2 hn2 hown2 z3 hml
      go_wp2_with fail
      go_roundw
      case rel => exact ⟨k + 1, by omega, by go_num, HK⟩
      case measure => simp [intOf]; omega
    · obtain rfl : k = xs.length := by omega
      go_wp2_with fail
      go_ret
      obtain ⟨O1, hs1, he1, hn1, hown1⟩ := HZ.out
      rw [mapTo_full _ _ (mapS_len _ _ _ _)] at hown1
      exact ⟨_, O1, rfl, ⟨IVec.of_owns (mapS_len _ _ _ _) hown1, fun j hj _ => by cases hj; exact hn1, NilOk.some _ _ _⟩, hs1, he1⟩

end Go.Proofs.Ytlnkflmnjkmhkaa
