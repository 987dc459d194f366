/-
  Lemmas, joined: SymopS, SymopS2, AgreeS.
-/
import Derived.Test.YtlnkflmnjkmhkaaJO22
import Derived.Test.YtlnkflmnjkmhkaaJO10
import Derived.Test.YtlnkflmnjkmhkaaJO11
/-
  Contracts of symop's truths at a store that is there: Eq, Less, AtMost, Any, by their plain laws.
-/
namespace Go.Proofs.Ytlnkflmnjkmhkaa
open Go.RowKit Go.Maps

def truthS (s : BS) (a : Int) : Int := if s.full then 0 else a

set_option maxRecDepth 100000 in
set_option maxHeartbeats 400000 in
theorem truth_sto (b : Nat) (O : Nat → Prop) (s : BS) (a : Int) (w : World) (hs : Sto w b O s) :
    Calls Try.prog 109 #[.pointer (some ⟨b, 0, none⟩), .int .i64 a] w fun e w' => e = .returned (.int .i64 (truthS s a)) ∧ w = w' := by
  have HM := Lib.hid (full_sto b O s w hs)
  clear hs
  unfold truthS
  generalize s.full = f at *
  cases f
  all_goals
    go_enter Try.func109, Try.ntmps109
    go_wp2_with (go_at_call 16; refine HM.out.mono ?_; rintro e w1 ⟨rfl, rfl⟩)
    go_ret
    exact ⟨rfl, rfl⟩

/-- A fold over pairs of bits: the store and what is told. -/
def foldP (g : BS → Int → Int → Int → BS × Int) (xs ys : List Int) (t0 : Int) (s : BS) : Nat → BS × Int
  | 0 => (s, t0)
  | n + 1 => g (foldP g xs ys t0 s n).1 (foldP g xs ys t0 s n).2 (xs.getD n 0) (ys.getD n 0)
/-- A fold over bits. -/
def foldI (g : Nat → BS → Int → Int → BS × Int) (xs : List Int) (t0 : Int) (s : BS) : Nat → BS × Int
  | 0 => (s, t0)
  | n + 1 => g n (foldI g xs t0 s n).1 (foldI g xs t0 s n).2 (xs.getD n 0)

theorem foldP_sto (f : Nat) (g : BS → Int → Int → Int → BS × Int) (b bS : Nat) (O : Nat → Prop) (s : BS) (v : Value) (M : Nat) (xs ys : List Int) (t0 : Int) (w : World) (hM : M ≤ 1000000) (hv : PVecX w O v M (pairAt xs ys)) (hs : Sto w b O s) (hS : w.cell? ⟨bS, 0, none⟩ = some (.pointer (some ⟨b, 0, none⟩))) (hn : ¬ O bS)
    (hcall : ∀ (av : Array Value) (W : World), (callFunc f av).run Try.prog W = .ok (.enter f av) W)
    (hf : ∀ (t x y : Int) s' O' W, Sto W b O' s' → W.cell? ⟨bS, 0, none⟩ = some (.pointer (some ⟨b, 0, none⟩)) → ¬ O' bS → Calls Try.prog f #[.int .i64 t, .agg #[.int .i64 x, .int .i64 y], .pointer (some ⟨bS, 0, none⟩)] W (RetS b O' W (g s' t x y))) :
    Calls Try.prog 110 #[v, .int .i64 t0, .func (.func f) #[] #[.pointer (some ⟨bS, 0, none⟩)]] w (RetS b O w (foldP g xs ys t0 s M)) := by
  refine (fold_bits f #[] #[.pointer (some ⟨bS, 0, none⟩)] v M (pairAt xs ys) (fun k t W => t = (foldP g xs ys t0 s k).2 ∧ ∃ O', Sto W b O' (foldP g xs ys t0 s k).1 ∧ Ext O O' w W ∧ PVecX W O' v M (pairAt xs ys)) t0 w hM ⟨rfl, O, hs, Ext.refl _ _, hv⟩ ?_ ?_ hcall ?_).mono ?_
  · rintro k t W ⟨-, O', -, -, h⟩
    exact h.pvec
  · rintro k t W W' ⟨h0, O', h1, h2, h3⟩ hb
    exact ⟨h0, O', h1.below hb, h2.trans (Ext.of_below hb), h3.ext (Ext.of_below hb)⟩
  · rintro k hk t W ⟨rfl, O', h1, h2, h3⟩
    have e := h2.cell (p := ⟨bS, 0, none⟩) (cell_there hS).1 hn
    refine (hf _ _ _ _ O' W h1 (e.1.trans hS) e.2.2).mono fun e' w' ⟨q1, O'', q2, q3⟩ => ⟨_, q1, rfl, O'', q2, h2.trans q3, h3.ext q3⟩
  · rintro e w' ⟨r, h1, rfl, O', h2, h3, -⟩
    exact ⟨h1, O', h2, h3⟩

def eqStep (s : BS) (t x y : Int) : BS × Int := andF (notF (xorF s x y).1 (xorF s x y).2).1 t (notF (xorF s x y).1 (xorF s x y).2).2
def lessStep (s : BS) (t x y : Int) : BS × Int := iteF (xorF s x y).1 (xorF s x y).2 y t

theorem heldS {O O' : Nat → Prop} {W w1 : World} {bS g : Nat} {po : Option Addr} {x y : Int} (he : Ext O O' W w1) (hn : ¬ O bS) (hg : ¬ O g) (h : W.cell? ⟨bS, 0, none⟩ = some (.pointer po) ∧ W.cell? ⟨g, 0, none⟩ = some (.int .i64 x) ∧ W.cell? ⟨g, 1, none⟩ = some (.int .i64 y)) :
    w1.cell? ⟨bS, 0, none⟩ = some (.pointer po) ∧ w1.cell? ⟨g, 0, none⟩ = some (.int .i64 x) ∧ w1.cell? ⟨g, 1, none⟩ = some (.int .i64 y) :=
  ⟨(he.cell (p := ⟨bS, 0, none⟩) (cell_there h.1).1 hn).1.trans h.1, (he.cell (p := ⟨g, 0, none⟩) (cell_there h.2.1).1 hg).1.trans h.2.1, (he.cell (p := ⟨g, 1, none⟩) (cell_there h.2.2).1 hg).1.trans h.2.2⟩

set_option maxRecDepth 100000 in
set_option maxHeartbeats 800000 in
theorem eq1_sto (b bS : Nat) (O : Nat → Prop) (s : BS) (t x y : Int) (w : World) (hs : Sto w b O s) (hS : w.cell? ⟨bS, 0, none⟩ = some (.pointer (some ⟨b, 0, none⟩))) (hn : ¬ O bS) :
    Calls Try.prog 112 #[.int .i64 t, .agg #[.int .i64 x, .int .i64 y], .pointer (some ⟨bS, 0, none⟩)] w (RetS b O w (eqStep s t x y)) := by
  have HD := Lib.hid hs
  have hlS := (cell_there hS).1
  have H1 : Hid (∀ W, Sto W b O s → Calls Try.prog 84 #[.pointer (some ⟨b, 0, none⟩), .int .i64 x, .int .i64 y] W (RetS b O W (xorF s x y))) := fun W hW => xor_sto b O s x y W hW
  have H2 : Hid (∀ O' W, Sto W b O' (xorF s x y).1 → Calls Try.prog 85 #[.pointer (some ⟨b, 0, none⟩), .int .i64 (xorF s x y).2] W (RetS b O' W (notF (xorF s x y).1 (xorF s x y).2))) := fun O' W hW => not_sto b O' _ _ W hW
  have H3 : Hid (∀ O' W, Sto W b O' (notF (xorF s x y).1 (xorF s x y).2).1 → Calls Try.prog 82 #[.pointer (some ⟨b, 0, none⟩), .int .i64 t, .int .i64 (notF (xorF s x y).1 (xorF s x y).2).2] W (RetS b O' W (eqStep s t x y))) := fun O' W hW => and_sto b O' _ _ _ W hW
  generalize eqStep s t x y = r3 at *
  generalize notF (xorF s x y).1 (xorF s x y).2 = r2 at *
  generalize xorF s x y = r1 at *
  obtain ⟨s1, i1⟩ := r1
  obtain ⟨s2, i2⟩ := r2
  obtain ⟨s3, i3⟩ := r3
  dsimp only at H1 H2 H3 ⊢
  clear hs
  go_enter Try.func112, Try.ntmps112
  go_wp2_with fail
  generalize hX : w.alloc (.cells #[.int .i64 x, .int .i64 y] 131) = X
  have hBX : Below w.heap.size w X := by rw [← hX]; exact (by repeat (first | exact Below.refl _ _ | assumption | refine Below.drew ?_ | refine Below.alloc ?_ (by first | omega | (simp <;> omega)) _ | refine Below.setCell ?_ (by first | omega | (simp <;> omega)) _ | refine Below.trans ?_ (Below.mono (by assumption) (by first | omega | (simp <;> omega)))))
  have hsX : w.heap.size < X.heap.size := by rw [← hX]; simp
  have sX : X.cell? ⟨bS, 0, none⟩ = some (.pointer (some ⟨b, 0, none⟩)) := (hBX.cell hlS).trans hS
  have x0 : X.cell? ⟨w.heap.size, 0, none⟩ = some (.int .i64 x) := by rw [← hX]; simp [go_sem]
  have x1 : X.cell? ⟨w.heap.size, 1, none⟩ = some (.int .i64 y) := by rw [← hX]; simp [go_sem]
  have hlX := (cell_there sX).1
  have HBX := Lib.hid hBX
  have hg : ¬ O w.heap.size := fun h => by have := HD.out.lt _ h; omega
  have HSX : Hid (Sto X.drew b O s) := HD.out.below (below_drewN hBX 1)
  clear hX hBX hS
  go_region_held3 (fun w' => w'.cell? ⟨bS, 0, none⟩ = some (.pointer (some ⟨b, 0, none⟩)) ∧ w'.cell? ⟨w.heap.size, 0, none⟩ = some (.int .i64 x) ∧ w'.cell? ⟨w.heap.size, 1, none⟩ = some (.int .i64 y))
    (first | exact ⟨sX, x0, x1⟩ | exact heldS HE2.out hn1 hg1 (by assumption) | exact heldS HE1.out hn hg (by assumption) | go_keep)
    (first | (go_at_call 84; refine (H1.out _ HSX.out).mono ?_; rintro e w1 ⟨rfl, O1, hs1, he1⟩; dsimp only at hs1; have HS1 := Lib.hid hs1; have HE1 := Lib.hid he1; have hn1 : ¬ O1 bS := (he1.cell (p := ⟨bS, 0, none⟩) hlX hn).2.2; have hg1 : ¬ O1 w.heap.size := (he1.cell (p := ⟨w.heap.size, 0, none⟩) hsX hg).2.2; clear hs1 he1) | (go_at_call 85; refine (H2.out _ _ HS1.out).mono ?_; rintro e w2 ⟨rfl, O2, hs2, he2⟩; dsimp only at hs2; have HS2 := Lib.hid hs2; have HE2 := Lib.hid he2; clear hs2 he2))
  rename_i hH
  obtain ⟨s1, -, -⟩ := hH
  go_wp2_with fail
  refine (H3.out _ _ HS2.out).mono ?_
  rintro e w3 ⟨rfl, O3, hs3, he3⟩
  dsimp only at hs3
  have HS3 := Lib.hid hs3
  have HE3 := Lib.hid he3
  clear hs3 he3
  go_wp2_with fail
  go_ret
  exact ⟨rfl, O3, HS3.out, (Ext.of_below (below_drewN HBX.out 1)).trans (HE1.out.trans (HE2.out.trans HE3.out))⟩

set_option maxRecDepth 100000 in
set_option maxHeartbeats 800000 in
theorem less1_sto (b bS : Nat) (O : Nat → Prop) (s : BS) (t x y : Int) (w : World) (hs : Sto w b O s) (hS : w.cell? ⟨bS, 0, none⟩ = some (.pointer (some ⟨b, 0, none⟩))) (hn : ¬ O bS) :
    Calls Try.prog 113 #[.int .i64 t, .agg #[.int .i64 x, .int .i64 y], .pointer (some ⟨bS, 0, none⟩)] w (RetS b O w (lessStep s t x y)) := by
  have HD := Lib.hid hs
  have hlS := (cell_there hS).1
  have H1 : Hid (∀ W, Below w.heap.size w W → Calls Try.prog 84 #[.pointer (some ⟨b, 0, none⟩), .int .i64 x, .int .i64 y] W (RetS b O W (xorF s x y))) := fun W hW => xor_sto b O s x y W (hs.below hW)
  have H2 : Hid (∀ O' W, Sto W b O' (xorF s x y).1 → Calls Try.prog 87 #[.pointer (some ⟨b, 0, none⟩), .int .i64 (xorF s x y).2, .int .i64 y, .int .i64 t] W (RetS b O' W (lessStep s t x y))) := fun O' W hW => ite_sto b O' _ _ _ _ W hW
  have hg : ¬ O w.heap.size := fun h => by have := hs.lt _ h; omega
  generalize lessStep s t x y = r2 at *
  generalize xorF s x y = r1 at *
  obtain ⟨s1, i1⟩ := r1
  obtain ⟨s2, i2⟩ := r2
  dsimp only at H1 H2 ⊢
  clear hs
  go_enter Try.func113, Try.ntmps113
  go_wp2_with fail
  refine (H1.out _ (by repeat (first | exact Below.refl _ _ | assumption | refine Below.drew ?_ | refine Below.alloc ?_ (by first | omega | (simp <;> omega)) _ | refine Below.setCell ?_ (by first | omega | (simp <;> omega)) _ | refine Below.trans ?_ (Below.mono (by assumption) (by first | omega | (simp <;> omega)))))).mono ?_
  rintro e w1 ⟨rfl, O1, hs1, he1⟩
  dsimp only at hs1
  have hB1 : Below w.heap.size w (w.alloc (.cells #[.int .i64 x, .int .i64 y] 131)) := (by repeat (first | exact Below.refl _ _ | assumption | refine Below.drew ?_ | refine Below.alloc ?_ (by first | omega | (simp <;> omega)) _ | refine Below.setCell ?_ (by first | omega | (simp <;> omega)) _ | refine Below.trans ?_ (Below.mono (by assumption) (by first | omega | (simp <;> omega)))))
  have s1c : w1.cell? ⟨bS, 0, none⟩ = some (.pointer (some ⟨b, 0, none⟩)) := (he1.cell (p := ⟨bS, 0, none⟩) (by simp; omega) hn).1.trans ((hB1.cell hlS).trans hS)
  have x1 : w1.cell? ⟨w.heap.size, 1, none⟩ = some (.int .i64 y) := by rw [(he1.cell (p := ⟨w.heap.size, 1, none⟩) (by simp) hg).1]; simp [go_sem]
  have HS1 := Lib.hid hs1
  have HE1 : Hid (Ext O O1 w w1) := (Ext.of_below hB1).trans he1
  clear hS hs1 he1 hB1
  go_wp2_with fail
  refine (H2.out _ _ HS1.out).mono ?_
  rintro e w2 ⟨rfl, O2, hs2, he2⟩
  dsimp only at hs2
  have HS2 := Lib.hid hs2
  have HE2 := Lib.hid he2
  clear hs2 he2
  go_wp2_with fail
  go_ret
  exact ⟨rfl, O2, HS2.out, HE1.out.trans HE2.out⟩

end Go.Proofs.Ytlnkflmnjkmhkaa

/-
  Contracts of symop's Eq, Less, AtMost, Any, Add, Sub, Neg at a store that is there, by their plain laws.
-/
namespace Go.Proofs.Ytlnkflmnjkmhkaa
open Go.RowKit Go.Maps

def eqS (xs ys : List Int) (s : BS) : BS × Int := ((foldP eqStep xs ys 1 s (max xs.length ys.length)).1, truthS (foldP eqStep xs ys 1 s (max xs.length ys.length)).1 (foldP eqStep xs ys 1 s (max xs.length ys.length)).2)
def lessS (xs ys : List Int) (s : BS) : BS × Int := ((foldP lessStep xs ys 0 s (max xs.length ys.length)).1, truthS (foldP lessStep xs ys 0 s (max xs.length ys.length)).1 (foldP lessStep xs ys 0 s (max xs.length ys.length)).2)
def atMostS (xs ys : List Int) (s : BS) : BS × Int := notF (lessS ys xs s).1 (lessS ys xs s).2
def anyS (xs : List Int) (s : BS) : BS × Int := ((foldI (fun _ => orF) xs 0 s xs.length).1, truthS (foldI (fun _ => orF) xs 0 s xs.length).1 (foldI (fun _ => orF) xs 0 s xs.length).2)

set_option maxRecDepth 100000 in
set_option maxHeartbeats 1600000 in
theorem eq_sto (b : Nat) (O : Nat → Prop) (s : BS) (va vb : Value) (xs ys : List Int) (w : World) (hs : Sto w b O s) (ha : IVec w va xs) (hb : IVec w vb ys) (hxl : xs.length ≤ 1000000) (hyl : ys.length ≤ 1000000) :
    Calls Try.prog 51 #[.pointer (some ⟨b, 0, none⟩), va, vb] w (RetS b O w (eqS xs ys s)) := by
  have HD := Lib.hid hs
  have HA := Lib.hid ha
  have HB := Lib.hid hb
  have hlt := Lib.hid hs.lt
  unfold eqS
  have HF0 : Hid (∀ v W, max xs.length ys.length ≤ 1000000 → PVecX W O v (max xs.length ys.length) (pairAt xs ys) → Sto W b O s → W.cell? ⟨w.heap.size, 0, none⟩ = some (.pointer (some ⟨b, 0, none⟩)) → Calls Try.prog 110 #[v, .int .i64 1, .func (.func 112) #[] #[.pointer (some ⟨w.heap.size, 0, none⟩)]] W (RetS b O W (foldP eqStep xs ys 1 s (max xs.length ys.length)))) :=
    fun v W hM hv hs hS => foldP_sto 112 eqStep b w.heap.size O s v _ xs ys 1 W hM hv hs hS (fun h => by have := hlt.out _ h; omega) call_eq1 (fun t x y s' O' W' h1 h2 h3 => eq1_sto b w.heap.size O' s' t x y W' h1 h2 h3)
  have hMl : max xs.length ys.length ≤ 1000000 := by omega
  have HPR0 : Hid (∀ W, Below w.heap.size w W → Calls Try.prog 111 #[va, vb] W fun e w' => ∃ v, e = .returned v ∧ PVecX w' O v (max xs.length ys.length) (pairAt xs ys) ∧ Below W.heap.size W w') :=
    fun W hW => pairs_any O va vb xs ys W (fun k hk => Nat.lt_of_lt_of_le (hlt.out k hk) hW.size) (HA.out.below hW) (HB.out.below hW) hxl hyl
  generalize max xs.length ys.length = M at *
  generalize foldP eqStep xs ys 1 s M = r at *
  obtain ⟨s1, i1⟩ := r
  dsimp only
  have HT : Hid (∀ O' W, Sto W b O' s1 → Calls Try.prog 109 #[.pointer (some ⟨b, 0, none⟩), .int .i64 i1] W fun e w' => e = .returned (.int .i64 (truthS s1 i1)) ∧ W = w') := fun O' W h => truth_sto b O' s1 i1 W h
  generalize truthS s1 i1 = tr at *
  clear hs ha hb
  have hmf := run_makeFunc
  go_enter Try.func51, Try.ntmps51
  go_wp2_with fail
  generalize hX : w.alloc (.cells #[.pointer (some ⟨b, 0, none⟩)] 23) = X
  have hBX : Below w.heap.size w X := by rw [← hX]; exact (by repeat (first | exact Below.refl _ _ | assumption | refine Below.drew ?_ | refine Below.alloc ?_ (by first | omega | (simp <;> omega)) _ | refine Below.setCell ?_ (by first | omega | (simp <;> omega)) _ | refine Below.trans ?_ (Below.mono (by assumption) (by first | omega | (simp <;> omega)))))
  have hsX : w.heap.size < X.heap.size := by rw [← hX]; simp
  have sX : X.cell? ⟨w.heap.size, 0, none⟩ = some (.pointer (some ⟨b, 0, none⟩)) := by rw [← hX]; simp [go_sem]
  have HBX := Lib.hid hBX
  have HPR := Lib.hid (HPR0.out X.drew (below_drewN hBX 1))
  have hn : ¬ O w.heap.size := fun h => by have := hlt.out _ h; omega
  clear hX hBX
  go_region_with (first
    | (go_at_call 111; refine HPR.out.mono ?_; rintro e w1 ⟨v, rfl, hv, hb1⟩; have hPV := Lib.hid hv; have s1' : w1.cell? ⟨w.heap.size, 0, none⟩ = some (.pointer (some ⟨b, 0, none⟩)) := (hb1.cell (p := ⟨w.heap.size, 0, none⟩) hsX).trans sX; have hB1 : Hid (Below w.heap.size w w1) := (below_drewN HBX.out 1).trans (hb1.mono (Nat.le_of_lt hsX)); clear hv)
    | (go_at_call 110; refine (HF0.out v w1 hMl hPV.out (HD.out.below hB1.out) s1').mono ?_; rintro e w2 ⟨rfl, O2, hs2, he2⟩; dsimp only at hs2; have HS2 := Lib.hid hs2; have HE2 := Lib.hid he2; have s2' : w2.cell? ⟨w.heap.size, 0, none⟩ = some (.pointer (some ⟨b, 0, none⟩)) := (he2.cell (p := ⟨w.heap.size, 0, none⟩) (cell_there s1').1 hn).1.trans s1'; clear hs2 he2)
    | (go_at_call 109; refine (HT.out _ _ HS2.out).mono ?_; rintro e w3 ⟨rfl, rfl⟩))
  all_goals
    go_wp2_with fail
    go_ret
    exact ⟨rfl, O2, HS2.out, (Ext.of_below hB1.out).trans HE2.out⟩

set_option maxRecDepth 100000 in
set_option maxHeartbeats 1600000 in
theorem less_sto (b : Nat) (O : Nat → Prop) (s : BS) (va vb : Value) (xs ys : List Int) (w : World) (hs : Sto w b O s) (ha : IVec w va xs) (hb : IVec w vb ys) (hxl : xs.length ≤ 1000000) (hyl : ys.length ≤ 1000000) :
    Calls Try.prog 52 #[.pointer (some ⟨b, 0, none⟩), va, vb] w (RetS b O w (lessS xs ys s)) := by
  have HD := Lib.hid hs
  have HA := Lib.hid ha
  have HB := Lib.hid hb
  have hlt := Lib.hid hs.lt
  unfold lessS
  have HF0 : Hid (∀ v W, max xs.length ys.length ≤ 1000000 → PVecX W O v (max xs.length ys.length) (pairAt xs ys) → Sto W b O s → W.cell? ⟨w.heap.size, 0, none⟩ = some (.pointer (some ⟨b, 0, none⟩)) → Calls Try.prog 110 #[v, .int .i64 0, .func (.func 113) #[] #[.pointer (some ⟨w.heap.size, 0, none⟩)]] W (RetS b O W (foldP lessStep xs ys 0 s (max xs.length ys.length)))) :=
    fun v W hM hv hs hS => foldP_sto 113 lessStep b w.heap.size O s v _ xs ys 0 W hM hv hs hS (fun h => by have := hlt.out _ h; omega) call_less1 (fun t x y s' O' W' h1 h2 h3 => less1_sto b w.heap.size O' s' t x y W' h1 h2 h3)
  have hMl : max xs.length ys.length ≤ 1000000 := by omega
  have HPR0 : Hid (∀ W, Below w.heap.size w W → Calls Try.prog 111 #[va, vb] W fun e w' => ∃ v, e = .returned v ∧ PVecX w' O v (max xs.length ys.length) (pairAt xs ys) ∧ Below W.heap.size W w') :=
    fun W hW => pairs_any O va vb xs ys W (fun k hk => Nat.lt_of_lt_of_le (hlt.out k hk) hW.size) (HA.out.below hW) (HB.out.below hW) hxl hyl
  generalize max xs.length ys.length = M at *
  generalize foldP lessStep xs ys 0 s M = r at *
  obtain ⟨s1, i1⟩ := r
  dsimp only
  have HT : Hid (∀ O' W, Sto W b O' s1 → Calls Try.prog 109 #[.pointer (some ⟨b, 0, none⟩), .int .i64 i1] W fun e w' => e = .returned (.int .i64 (truthS s1 i1)) ∧ W = w') := fun O' W h => truth_sto b O' s1 i1 W h
  generalize truthS s1 i1 = tr at *
  clear hs ha hb
  have hmf := run_makeFunc
  go_enter Try.func52, Try.ntmps52
  go_wp2_with fail
  generalize hX : w.alloc (.cells #[.pointer (some ⟨b, 0, none⟩)] 23) = X
  have hBX : Below w.heap.size w X := by rw [← hX]; exact (by repeat (first | exact Below.refl _ _ | assumption | refine Below.drew ?_ | refine Below.alloc ?_ (by first | omega | (simp <;> omega)) _ | refine Below.setCell ?_ (by first | omega | (simp <;> omega)) _ | refine Below.trans ?_ (Below.mono (by assumption) (by first | omega | (simp <;> omega)))))
  have hsX : w.heap.size < X.heap.size := by rw [← hX]; simp
  have sX : X.cell? ⟨w.heap.size, 0, none⟩ = some (.pointer (some ⟨b, 0, none⟩)) := by rw [← hX]; simp [go_sem]
  have HBX := Lib.hid hBX
  have HPR := Lib.hid (HPR0.out X.drew (below_drewN hBX 1))
  have hn : ¬ O w.heap.size := fun h => by have := hlt.out _ h; omega
  clear hX hBX
  go_region_with (first
    | (go_at_call 111; refine HPR.out.mono ?_; rintro e w1 ⟨v, rfl, hv, hb1⟩; have hPV := Lib.hid hv; have s1' : w1.cell? ⟨w.heap.size, 0, none⟩ = some (.pointer (some ⟨b, 0, none⟩)) := (hb1.cell (p := ⟨w.heap.size, 0, none⟩) hsX).trans sX; have hB1 : Hid (Below w.heap.size w w1) := (below_drewN HBX.out 1).trans (hb1.mono (Nat.le_of_lt hsX)); clear hv)
    | (go_at_call 110; refine (HF0.out v w1 hMl hPV.out (HD.out.below hB1.out) s1').mono ?_; rintro e w2 ⟨rfl, O2, hs2, he2⟩; dsimp only at hs2; have HS2 := Lib.hid hs2; have HE2 := Lib.hid he2; have s2' : w2.cell? ⟨w.heap.size, 0, none⟩ = some (.pointer (some ⟨b, 0, none⟩)) := (he2.cell (p := ⟨w.heap.size, 0, none⟩) (cell_there s1').1 hn).1.trans s1'; clear hs2 he2)
    | (go_at_call 109; refine (HT.out _ _ HS2.out).mono ?_; rintro e w3 ⟨rfl, rfl⟩))
  all_goals
    go_wp2_with fail
    go_ret
    exact ⟨rfl, O2, HS2.out, (Ext.of_below hB1.out).trans HE2.out⟩

set_option maxRecDepth 100000 in
set_option maxHeartbeats 400000 in
theorem atMost_sto (b : Nat) (O : Nat → Prop) (s : BS) (va vb : Value) (xs ys : List Int) (w : World) (hs : Sto w b O s) (ha : IVec w va xs) (hb : IVec w vb ys) (hxl : xs.length ≤ 1000000) (hyl : ys.length ≤ 1000000) :
    Calls Try.prog 53 #[.pointer (some ⟨b, 0, none⟩), va, vb] w (RetS b O w (atMostS xs ys s)) := by
  have HL := Lib.hid (less_sto b O s vb va ys xs w hs hb ha hyl hxl)
  have HN : Hid (∀ O' W, Sto W b O' (lessS ys xs s).1 → Calls Try.prog 85 #[.pointer (some ⟨b, 0, none⟩), .int .i64 (lessS ys xs s).2] W (RetS b O' W (atMostS xs ys s))) := fun O' W h => not_sto b O' _ _ W h
  generalize atMostS xs ys s = r2 at *
  generalize lessS ys xs s = r1 at *
  clear hs ha hb
  go_enter Try.func53, Try.ntmps53
  go_wp2_with fail
  refine HL.out.mono ?_
  rintro e w1 ⟨rfl, O1, hs1, he1⟩
  have HS1 := Lib.hid hs1
  have HE1 := Lib.hid he1
  clear hs1 he1
  go_wp2_with fail
  refine (HN.out _ _ HS1.out).mono ?_
  rintro e w2 ⟨rfl, h⟩
  have H := Lib.hid h
  clear h
  go_wp2_with fail
  go_ret
  exact ⟨rfl, H.out.pre HE1.out⟩

set_option maxRecDepth 100000 in
set_option maxHeartbeats 800000 in
theorem any_sto (b : Nat) (O : Nat → Prop) (s : BS) (va : Value) (xs : List Int) (w : World) (hs : Sto w b O s) (ha : IVecX w O va xs) (hxl : xs.length ≤ 1000000) :
    Calls Try.prog 54 #[.pointer (some ⟨b, 0, none⟩), va] w (RetS b O w (anyS xs s)) := by
  have hF : Calls Try.prog 114 #[va, .int .i64 0, .func (.func 83) #[.pointer (some ⟨b, 0, none⟩)] #[]] w (RetS b O w (foldI (fun _ => orF) xs 0 s xs.length)) := by
    refine (fold_int 83 #[.pointer (some ⟨b, 0, none⟩)] #[] va xs (fun k t W => t = (foldI (fun _ => orF) xs 0 s k).2 ∧ ∃ O', Sto W b O' (foldI (fun _ => orF) xs 0 s k).1 ∧ Ext O O' w W) 0 w hxl ⟨rfl, O, hs, Ext.refl _ _⟩ ?_ call_or_m ?_).mono ?_
    · rintro k t W ⟨-, O', -, h⟩
      exact (ha.ext h).1
    · rintro k hk t W ⟨rfl, O', h1, h2⟩
      exact (or_sto b O' _ _ _ W h1).mono fun e' w' ⟨q1, O'', q2, q3⟩ => ⟨_, q1, rfl, O'', q2, h2.trans q3⟩
    · rintro e w' ⟨r, h1, rfl, O', h2, h3⟩
      exact ⟨h1, O', h2, h3⟩
  unfold anyS
  generalize foldI (fun _ => orF) xs 0 s xs.length = r at *
  obtain ⟨s1, i1⟩ := r
  dsimp only at hF ⊢
  have HF := Lib.hid hF
  have HT : Hid (∀ O' W, Sto W b O' s1 → Calls Try.prog 109 #[.pointer (some ⟨b, 0, none⟩), .int .i64 i1] W fun e w' => e = .returned (.int .i64 (truthS s1 i1)) ∧ W = w') := fun O' W h => truth_sto b O' s1 i1 W h
  generalize truthS s1 i1 = tr at *
  clear hs ha hF
  go_enter Try.func54, Try.ntmps54
  go_wp2_with fail
  refine HF.out.mono ?_
  rintro e w1 ⟨rfl, O1, hs1, he1⟩
  dsimp only at hs1
  have HS1 := Lib.hid hs1
  have HE1 := Lib.hid he1
  clear hs1 he1
  go_wp2_with fail
  refine (HT.out _ _ HS1.out).mono ?_
  rintro e w2 ⟨rfl, rfl⟩
  go_wp2_with fail
  go_ret
  exact ⟨rfl, O1, HS1.out, HE1.out⟩

set_option maxRecDepth 100000 in
set_option maxHeartbeats 400000 in
theorem add_sto (b : Nat) (O : Nat → Prop) (s : BS) (va vb : Value) (xs ys : List Int) (w : World) (hs : Sto w b O s) (ha : IVec w va xs) (hb : IVec w vb ys) (hxl : xs.length ≤ 1000000) (hyl : ys.length ≤ 1000000) :
    Calls Try.prog 48 #[.pointer (some ⟨b, 0, none⟩), va, vb] w (RetVS b O w ((sumA xs ys 0 s (max xs.length ys.length)).1, (sumA xs ys 0 s (max xs.length ys.length)).2.2)) := by
  have HS := Lib.hid (sum_sto b O s va vb xs ys 0 w hs ha hb hxl hyl)
  clear hs ha hb
  go_enter Try.func48, Try.ntmps48
  go_wp2_with fail
  refine HS.out.mono ?_
  rintro e w1 ⟨v, O1, rfl, hv⟩
  have H := Lib.hid hv
  clear hv
  go_wp2_with fail
  go_ret
  exact ⟨_, O1, rfl, H.out⟩

/-- A difference: what is taken, as wide as the wider, turned round, and 1. -/
def wideL (xs ys : List Int) : List Int := ys ++ List.replicate (max xs.length ys.length - ys.length) 0
theorem wideL_len (xs ys : List Int) : (wideL xs ys).length = max xs.length ys.length := by simp [wideL]; omega
def notW (xs ys : List Int) (s : BS) : BS × List Int := mapS notF (wideL xs ys) (max xs.length ys.length) s
def subS (xs ys : List Int) (s : BS) : BS × List Int := ((sumA xs (notW xs ys s).2 1 (notW xs ys s).1 (max xs.length ys.length)).1, (sumA xs (notW xs ys s).2 1 (notW xs ys s).1 (max xs.length ys.length)).2.2)

set_option maxRecDepth 100000 in
set_option maxHeartbeats 800000 in
theorem sub_sto (b : Nat) (O : Nat → Prop) (s : BS) (va vb : Value) (xs ys : List Int) (w : World) (hs : Sto w b O s) (ha : IVecX w O va xs) (hb : IVec w vb ys) (hxl : xs.length ≤ 1000000) (hyl : ys.length ≤ 1000000) :
    Calls Try.prog 49 #[.pointer (some ⟨b, 0, none⟩), va, vb] w (RetVS b O w (subS xs ys s)) := by
  obtain ⟨i0, hi, hz0, hz1, hz2⟩ := info_parts Try.infoInt
  have HD := Lib.hid hs
  have HA := Lib.hid ha
  have HB := Lib.hid hb
  have hWL := wideL_len xs ys
  have HN0 : Hid (∀ W, Sto W b O s → ∀ v, IVecX W O v (wideL xs ys) → Calls Try.prog 23 #[.pointer (some ⟨b, 0, none⟩), v] W (RetVS b O W (notW xs ys s))) := fun W h v hv => by
    have := symbvNot_sto b O s v (wideL xs ys) W h hv (by rw [hWL]; omega)
    rw [hWL] at this
    exact this
  have HSM : Hid (∀ O' W v2, IVec W va xs → Sto W b O' (notW xs ys s).1 → IVec W v2 (notW xs ys s).2 → Calls Try.prog 108 #[.pointer (some ⟨b, 0, none⟩), va, v2, .int .i64 1] W (RetVS b O' W (subS xs ys s))) := fun O' W v2 h1 h2 h3 => by
    have hl : (notW xs ys s).2.length = max xs.length ys.length := mapS_len _ _ _ _
    have := sum_sto b O' _ va v2 xs (notW xs ys s).2 1 W h2 h1 h3 hxl (by rw [hl]; omega)
    rw [hl, show max xs.length (max xs.length ys.length) = max xs.length ys.length by omega] at this
    exact this
  have HW : Hid (wideL xs ys = ys ++ List.replicate (max xs.length ys.length - ys.length) 0) := rfl
  generalize subS xs ys s = r2 at *
  generalize notW xs ys s = r1 at *
  generalize wideL xs ys = wl at *
  obtain ⟨M, hM⟩ : ∃ M, M = max xs.length ys.length := ⟨_, rfl⟩
  have hMx : xs.length ≤ M := by omega
  have hMy : ys.length ≤ M := by omega
  have hMm : M ≤ 1000000 := by omega
  have hMo : M ≤ xs.length ∨ M ≤ ys.length := by omega
  rw [← hM] at hWL HW
  have HWL := Lib.hid hWL
  clear hWL hM
  obtain ⟨pa, ca, rfl, ha3, ha4, -⟩ := ha.1.shape
  obtain ⟨pb, cb, rfl, hb3, hb4, hb5⟩ := hb.shape
  have HB5 := Lib.hid hb5
  clear hs ha hb hb5
  have hsz : (Try.prog.info? 3).map (·.size) = some 1 := by rw [hi]; simp [hz1]
  go_enter Try.func49, Try.ntmps49
  go_wp2_with (first
    | (at_make; refine wpList_make_full _ rfl _ _ 34 rfl w.heap.size 3 i0 (.int .i64 0) 1 Try.underlying34 hi hz0 hz1 .i64 .i64 _ _ M rfl rfl (by omega) (by omega) (by rw [hz2]; omega) (by unfold maxLen; omega) (Nat.le_refl _) ?_; intro w0 hown0 hgrow0; rw [toList_madeCells_zero] at hown0; have hb0 : Below w.heap.size w w0 := (Below.refl _ _).grown hgrow0 (Nat.le_refl _) (fun k h => by cases h); have hh := own_heap hown0)
    | (with_reducible refine wpList_copy_splice rfl (.tmp 16) (.tmp 17) 34 34 rfl 3 Try.underlying34 hsz _ _ M M ys.length cb rfl rfl w.heap.size 0 _ 3 hh (ys.map (Value.int .i64)) (by rw [List.length_map]; exact (Nat.min_eq_left hMy).symm) (fun h0 => ⟨rfl, copy_src (HB.out.below hb0) (by simpa using h0)⟩) (by simp; omega) (ints_oneCell .i64 ys) w.heap.size w hb0 (Nat.le_refl _) ?_; intro w2 hh2 hb2))
  all_goals
    have HI : Hid (IVecX w2 O (.slice (some ⟨w.heap.size, 0, none⟩) M M) wl) := by
      refine ⟨?_, fun k hk _ hO => ?_, NilOk.some _ _ _⟩
      · have := IVec.of_heap (w := w2) (g := w.heap.size) (n := M) (t := 3) (zs := ys ++ List.replicate (M - ys.length) 0) (by simp; omega) (by unfold maxLen; omega) (by rw [hh2.out, splice_zero])
        rw [← HW.out] at this
        exact this
      · cases hk; exact Nat.lt_irrefl _ (HD.out.lt _ hO)
    have HN := Lib.hid (HN0.out w2 (HD.out.below hb2) _ HI.out)
    have HB2 := Lib.hid hb2
    clear hh2 hb2 hh hb0 hown0 hgrow0
    refine HN.out.mono ?_
    rintro e w3 ⟨v3, O3, rfl, hv3, hs3, he3⟩
    have HE3 : Hid (Ext O O3 w w3) := (Ext.of_below HB2.out).trans he3
    have HS := Lib.hid (HSM.out O3 w3 v3 (HA.out.ext HE3.out).1 hs3 hv3.1)
    clear hv3 hs3 he3
    go_wp2_with fail
    refine HS.out.mono ?_
    rintro e w4 ⟨v4, O4, rfl, hv4, hs4, he4⟩
    have HF : Hid (IVecX w4 O4 v4 r2.2 ∧ Sto w4 b O4 r2.1 ∧ Ext O O4 w w4) := ⟨hv4, hs4, HE3.out.trans he4⟩
    clear hv4 hs4 he4
    go_wp2_with fail
    go_ret
    exact ⟨_, O4, rfl, HF.out⟩

set_option maxRecDepth 100000 in
set_option maxHeartbeats 400000 in
theorem neg_sto (b : Nat) (O : Nat → Prop) (s : BS) (va : Value) (xs : List Int) (w : World) (hs : Sto w b O s) (ha : IVec w va xs) (hxl : xs.length ≤ 1000000) :
    Calls Try.prog 50 #[.pointer (some ⟨b, 0, none⟩), va] w (RetVS b O w (subS [] xs s)) := by
  have HS := Lib.hid (sub_sto b O s (.slice none 0 0) va [] xs w hs ⟨IVec.nil w, (fun k hk _ => by cases hk), NilOk.nil⟩ ha (by simp) hxl)
  clear hs ha
  go_enter Try.func50, Try.ntmps50
  go_wp2_with fail
  refine HS.out.mono ?_
  rintro e w1 ⟨v, O1, rfl, hv⟩
  have H := Lib.hid hv
  clear hv
  go_wp2_with fail
  go_ret
  exact ⟨_, O1, rfl, H.out⟩

end Go.Proofs.Ytlnkflmnjkmhkaa

/-
  Contract of symop.Agrees at a store that is there, by its plain law.
-/
namespace Go.Proofs.Ytlnkflmnjkmhkaa
open Go.RowKit Go.Maps

def agStep (fm fv : Int → Bool) (k : Nat) (s : BS) (t x : Int) : BS × Int := if fm k then (if fv k then andF s t x else andF (notF s x).1 t (notF s x).2) else (s, t)
def agreesS (fm fv : Int → Bool) (xs : List Int) (s : BS) : BS × Int := ((foldI (agStep fm fv) xs 1 s xs.length).1, truthS (foldI (agStep fm fv) xs 1 s xs.length).1 (foldI (agStep fm fv) xs 1 s xs.length).2)

/-- What the closure has caught, beside a store. -/
structure AgI (W : World) (b : Nat) (O : Nat → Prop) (s : BS) (bI bP bS : Nat) (i : Int) (v0 v1 m0 m1 : Int) : Prop where
  sto : Sto W b O s
  cI : W.cell? ⟨bI, 0, none⟩ = some (.int .i64 i)
  fI : W.frozen? ⟨bI, 0, none⟩ = false
  cS : W.cell? ⟨bS, 0, none⟩ = some (.pointer (some ⟨b, 0, none⟩))
  cP : PatAt W bP v0 v1 m0 m1
  nI : ¬ O bI
  nP : ¬ O bP
  nS : ¬ O bS
  pI : bP ≠ bI
  sI : bS ≠ bI

theorem AgI.ext {W W' : World} {b : Nat} {O O' : Nat → Prop} {s s' : BS} {bI bP bS : Nat} {i v0 v1 m0 m1 : Int} (h : AgI W b O s bI bP bS i v0 v1 m0 m1) (hs : Sto W' b O' s') (he : Ext O O' W W') : AgI W' b O' s' bI bP bS i v0 v1 m0 m1 := by
  obtain ⟨h1, h2, h3, h4, ⟨p0, p1, p2, p3⟩, h6, h7, h8, h9, h10⟩ := h
  have eI := he.cell (p := ⟨bI, 0, none⟩) (cell_there h2).1 h6
  have eS := he.cell (p := ⟨bS, 0, none⟩) (cell_there h4).1 h8
  have eP := fun o => he.cell (p := ⟨bP, o, none⟩) (cell_there p0).1 h7
  exact ⟨hs, eI.1.trans h2, eI.2.1.trans h3, eS.1.trans h4, ⟨(eP 0).1.trans p0, (eP 1).1.trans p1, (eP 2).1.trans p2, (eP 3).1.trans p3⟩, eI.2.2, (eP 0).2.2, eS.2.2, h9, h10⟩
theorem AgI.below {W W' : World} {b : Nat} {O : Nat → Prop} {s : BS} {bI bP bS : Nat} {i v0 v1 m0 m1 : Int} (h : AgI W b O s bI bP bS i v0 v1 m0 m1) (hb : Below W.heap.size W W') : AgI W' b O s bI bP bS i v0 v1 m0 m1 :=
  h.ext (h.sto.below hb) (Ext.of_below hb)
theorem AgI.set {W : World} {b : Nat} {O : Nat → Prop} {s : BS} {bI bP bS : Nat} {i v0 v1 m0 m1 : Int} (h : AgI W b O s bI bP bS i v0 v1 m0 m1) (j : Int) : AgI (W.setCell ⟨bI, 0, none⟩ (.int .i64 j)) b O s bI bP bS j v0 v1 m0 m1 := by
  obtain ⟨h1, h2, h3, h4, ⟨p0, p1, p2, p3⟩, h6, h7, h8, h9, h10⟩ := h
  have e : ∀ g o, g ≠ bI → (W.setCell ⟨bI, 0, none⟩ (.int .i64 j)).cell? ⟨g, o, none⟩ = W.cell? ⟨g, o, none⟩ := fun g o hg => World.cell?_of_block (Below.heap_setCell W ⟨bI, 0, none⟩ _ g hg)
  exact ⟨h1.setNew h6 _, World.cell?_setCell_same _ _ _ h2, by simpa using h3, (e _ _ h10).trans h4, ⟨(e _ _ h9).trans p0, (e _ _ h9).trans p1, (e _ _ h9).trans p2, (e _ _ h9).trans p3⟩, h6, h7, h8, h9, h10⟩
theorem Ext.setIn {O O' : Nat → Prop} {w w1 : World} (h : Ext O O' w w1) {g o : Nat} (hg : O g) (hg' : O' g) (x : Value) : Ext O O' w (w1.setCell ⟨g, o, none⟩ x) :=
  ⟨⟨h.1.os, h.1.tape, h.1.output, by simpa [World.setCell] using h.1.size, fun k hk hO => (Below.heap_setCell w1 ⟨g, o, none⟩ x k (fun e => hO (by rw [show k = g from e]; exact hg))).trans (h.1.block k hk hO)⟩, h.2⟩

set_option maxRecDepth 100000 in
set_option maxHeartbeats 800000 in
theorem agrees1_sto (b bI bP bS : Nat) (O : Nat → Prop) (s : BS) (k : Nat) (hk : k ≤ 1000000) (t x : Int) (v0 v1 m0 m1 : Int) (fv fm : Int → Bool) (HV : Hid (BitsAre v0 v1 fv)) (HM : Hid (BitsAre m0 m1 fm)) (w : World)
    (h : AgI w b O s bI bP bS ((k : Int) - 1) v0 v1 m0 m1) :
    Calls Try.prog 115 #[.int .i64 t, .int .i64 x, .pointer (some ⟨bI, 0, none⟩), .pointer (some ⟨bP, 0, none⟩), .pointer (some ⟨bS, 0, none⟩)] w
      fun e w' => e = .returned (.int .i64 (agStep fm fv k s t x).2) ∧ ∃ O', AgI w' b O' (agStep fm fv k s t x).1 bI bP bS (k : Int) v0 v1 m0 m1 ∧ Ext (fun j => O j ∨ j = bI) (fun j => O' j ∨ j = bI) w w' := by
  have H0 := Lib.hid h
  have hY := h.set (k : Int)
  have HY := Lib.hid hY
  have HE0 : Hid (Ext (fun j => O j ∨ j = bI) (fun j => O j ∨ j = bI) w (w.setCell ⟨bI, 0, none⟩ (.int .i64 (k : Int)))) := (Ext.refl _ _).setIn (.inr rfl) (.inr rfl) _
  have cI := h.cI
  have fI := h.fI
  obtain ⟨y0, y1, y2, y3⟩ := hY.cP
  have H2 : Hid (∀ O' W, Sto W b O' s → Calls Try.prog 82 #[.pointer (some ⟨b, 0, none⟩), .int .i64 t, .int .i64 x] W (RetS b O' W (andF s t x))) := fun O' W h => and_sto b O' _ _ _ W h
  have H3 : Hid (∀ O' W, Sto W b O' s → Calls Try.prog 85 #[.pointer (some ⟨b, 0, none⟩), .int .i64 x] W (RetS b O' W (notF s x))) := fun O' W h => not_sto b O' _ _ W h
  have H4 : Hid (∀ O' W, Sto W b O' (notF s x).1 → Calls Try.prog 82 #[.pointer (some ⟨b, 0, none⟩), .int .i64 t, .int .i64 (notF s x).2] W (RetS b O' W (andF (notF s x).1 t (notF s x).2))) := fun O' W h => and_sto b O' _ _ _ W h
  have HST : Hid (agStep fm fv k s t x = if fm k then (if fv k then andF s t x else andF (notF s x).1 t (notF s x).2) else (s, t)) := rfl
  generalize agStep fm fv k s t x = rr at *
  generalize andF (notF s x).1 t (notF s x).2 = r4 at *
  generalize notF s x = r3 at *
  generalize andF s t x = r2 at *
  clear h hY
  go_enter Try.func115, Try.ntmps115
  go_wp2_with fail
  generalize w.setCell ⟨bI, 0, none⟩ (.int .i64 (k : Int)) = Y at *
  refine (HM.out _ _).mono ?_
  rintro e w1 ⟨rfl, hb1⟩
  have hA1 := HY.out.below hb1
  have HE1 : Hid (Ext (fun j => O j ∨ j = bI) (fun j => O j ∨ j = bI) w w1) := HE0.out.trans (Ext.of_below hb1)
  obtain ⟨z0, z1, z2, z3⟩ := hA1.cP
  have sS := hA1.cS
  have cI1 := hA1.cI
  have HA1 := Lib.hid hA1
  clear y0 y1 y2 y3 cI fI hb1 hA1
  generalize fm k = bm at *
  cases bm
  · have HR := HST.out
    simp only [Bool.false_eq_true, if_false] at HR
    subst HR
    clear HST
    go_wp2_with fail
    go_ret
    exact ⟨rfl, O, HA1.out, HE1.out⟩
  · go_wp2_with fail
    refine (HV.out _ _).mono ?_
    rintro e w2 ⟨rfl, hb2⟩
    have hA2 := HA1.out.below hb2
    have sS2 := hA2.cS
    have HA2 := Lib.hid hA2
    have HE2 : Hid (Ext (fun j => O j ∨ j = bI) (fun j => O j ∨ j = bI) w w2) := HE1.out.trans (Ext.of_below hb2)
    clear hA2 z0 z1 z2 z3 sS hb2 cI1
    generalize fv k = bv at *
    cases bv
    · have HR := HST.out
      simp only [Bool.false_eq_true, if_false, if_true] at HR
      subst HR
      clear HST
      go_wp2_with fail
      refine (H3.out O _ HA2.out.sto).mono ?_
      rintro e w3 ⟨rfl, O3, hs3, he3⟩
      have hA3 := HA2.out.ext hs3 he3
      have HA3 := Lib.hid hA3
      have sS3 := hA3.cS
      have HE3 := Lib.hid he3
      clear hA3 hs3 he3
      go_wp2_with fail
      refine (H4.out O3 _ HA3.out.sto).mono ?_
      rintro e w4 ⟨rfl, O4, hs4, he4⟩
      have HA4 := Lib.hid (HA3.out.ext hs4 he4)
      have HE4 := Lib.hid he4
      clear hs4 he4
      go_wp2_with fail
      go_ret
      exact ⟨rfl, O4, HA4.out, HE2.out.trans (HE3.out.wider.trans HE4.out.wider)⟩
    · have HR := HST.out
      simp only [if_true] at HR
      subst HR
      clear HST
      go_wp2_with fail
      refine (H2.out O _ HA2.out.sto).mono ?_
      rintro e w3 ⟨rfl, O3, hs3, he3⟩
      have HA3 := Lib.hid (HA2.out.ext hs3 he3)
      have HE3 := Lib.hid he3
      clear hs3 he3
      go_wp2_with fail
      go_ret
      exact ⟨rfl, O3, HA3.out, HE2.out.trans HE3.out.wider⟩

theorem fold_agreesS (b bI bP bS : Nat) (O : Nat → Prop) (s : BS) (va : Value) (xs : List Int) (hxl : xs.length ≤ 1000000) (v0 v1 m0 m1 : Int) (fv fm : Int → Bool) (HV : Hid (BitsAre v0 v1 fv)) (HM : Hid (BitsAre m0 m1 fm)) (w : World)
    (h : AgI w b O s bI bP bS (-1) v0 v1 m0 m1) (ha : IVecX w (fun j => O j ∨ j = bI) va xs) :
    Calls Try.prog 114 #[va, .int .i64 1, .func (.func 115) #[] #[.pointer (some ⟨bI, 0, none⟩), .pointer (some ⟨bP, 0, none⟩), .pointer (some ⟨bS, 0, none⟩)]] w
      fun e w' => e = .returned (.int .i64 (foldI (agStep fm fv) xs 1 s xs.length).2) ∧ ∃ O' i, AgI w' b O' (foldI (agStep fm fv) xs 1 s xs.length).1 bI bP bS i v0 v1 m0 m1 ∧ Ext (fun j => O j ∨ j = bI) (fun j => O' j ∨ j = bI) w w' := by
  refine (fold_int 115 #[] #[.pointer (some ⟨bI, 0, none⟩), .pointer (some ⟨bP, 0, none⟩), .pointer (some ⟨bS, 0, none⟩)] va xs
    (fun k t W => t = (foldI (agStep fm fv) xs 1 s k).2 ∧ ∃ O', AgI W b O' (foldI (agStep fm fv) xs 1 s k).1 bI bP bS ((k : Int) - 1) v0 v1 m0 m1 ∧ Ext (fun j => O j ∨ j = bI) (fun j => O' j ∨ j = bI) w W) 1 w hxl ⟨rfl, O, by simpa [foldI] using h, Ext.refl _ _⟩ ?_ call_agrees1 ?_).mono ?_
  · rintro k t W ⟨-, O', -, h2⟩
    exact (ha.ext h2).1
  · rintro k hk t W ⟨rfl, O', h1, h2⟩
    refine (agrees1_sto b bI bP bS O' _ k (by omega) _ (xs.getD k 0) v0 v1 m0 m1 fv fm HV HM W h1).mono fun e w' ⟨q1, O'', q2, q3⟩ => ⟨_, q1, rfl, O'', ?_, h2.trans q3⟩
    rw [show (((k + 1 : Nat) : Int) - 1) = (k : Int) by omega]
    exact q2
  · rintro e w' ⟨r, h1, rfl, O', h2, h3⟩
    exact ⟨h1, O', _, h2, h3⟩

set_option maxRecDepth 100000 in
set_option maxHeartbeats 1600000 in
theorem agrees_sto (b : Nat) (O : Nat → Prop) (s : BS) (va : Value) (xs : List Int) (v0 v1 m0 m1 : Int) (fv fm : Int → Bool) (HV : Hid (BitsAre v0 v1 fv)) (HM : Hid (BitsAre m0 m1 fm)) (w : World) (hs : Sto w b O s) (ha : IVecX w O va xs) (hxl : xs.length ≤ 1000000) :
    Calls Try.prog 55 #[.pointer (some ⟨b, 0, none⟩), va, .agg #[.int .u64 v0, .int .u64 v1, .int .u64 m0, .int .u64 m1]] w (RetS b O w (agreesS fm fv xs s)) := by
  have HD := Lib.hid hs
  have HA := Lib.hid ha
  clear hs ha
  have hmf := run_makeFunc
  unfold agreesS
  obtain ⟨r, hr⟩ : ∃ r, r = foldI (agStep fm fv) xs 1 s xs.length := ⟨_, rfl⟩
  rw [← hr]
  have HR := Lib.hid hr
  clear hr
  obtain ⟨s1, i1⟩ := r
  dsimp only
  have HT : Hid (∀ O' W, Sto W b O' s1 → Calls Try.prog 109 #[.pointer (some ⟨b, 0, none⟩), .int .i64 i1] W fun e w' => e = .returned (.int .i64 (truthS s1 i1)) ∧ W = w') := fun O' W h => truth_sto b O' s1 i1 W h
  generalize truthS s1 i1 = tr at *
  go_enter Try.func55, Try.ntmps55
  go_wp2_with fail
  generalize hX : ((w.alloc (.cells #[.pointer (some ⟨b, 0, none⟩)] 23)).alloc (.cells #[.int .u64 v0, .int .u64 v1, .int .u64 m0, .int .u64 m1] 43)).alloc (.cells #[.int .i64 (-1)] 3) = X
  have hBX : Below w.heap.size w X := by rw [← hX]; exact (by repeat (first | exact Below.refl _ _ | assumption | refine Below.drew ?_ | refine Below.alloc ?_ (by first | omega | (simp <;> omega)) _ | refine Below.setCell ?_ (by first | omega | (simp <;> omega)) _ | refine Below.trans ?_ (Below.mono (by assumption) (by first | omega | (simp <;> omega)))))
  have hsX : w.heap.size + 1 + 1 < X.heap.size := by rw [← hX]; simp
  have sX : X.drew.cell? ⟨w.heap.size, 0, none⟩ = some (.pointer (some ⟨b, 0, none⟩)) := by rw [← hX]; simp [go_sem]
  have iX : X.drew.cell? ⟨w.heap.size + 1 + 1, 0, none⟩ = some (.int .i64 (-1)) := by rw [← hX]; simp [go_sem]
  have fX : X.drew.frozen? ⟨w.heap.size + 1 + 1, 0, none⟩ = false := by rw [← hX]; simp [go_sem]
  have pX : PatAt X.drew (w.heap.size + 1) v0 v1 m0 m1 := by rw [← hX]; simp [PatAt, go_sem]
  have hBXd : Below w.heap.size w X.drew := below_drewN hBX 1
  have hlt := HD.out.lt
  have hAG : AgI X.drew b O s (w.heap.size + 1 + 1) (w.heap.size + 1) w.heap.size (-1) v0 v1 m0 m1 :=
    ⟨HD.out.below hBXd, iX, fX, sX, pX, fun h => by have := hlt _ h; omega, fun h => by have := hlt _ h; omega, fun h => by have := hlt _ h; omega, by omega, by omega⟩
  have hVX : IVecX X.drew (fun j => O j ∨ j = w.heap.size + 1 + 1) va xs := by
    have h1 := HA.out.below hBXd
    refine ⟨h1.1, fun k hk h0 hO => ?_, h1.2.2⟩
    rcases hO with hO | rfl
    · exact h1.2.1 k hk h0 hO
    · obtain ⟨pa, cap, e, -, -, h4⟩ := HA.out.1
      subst e
      obtain ⟨bb, off, rfl, hb, -⟩ := h4 h0
      simp [Value.ownBlock] at hk
      omega
  have HF : Hid (Calls Try.prog 114 #[va, .int .i64 1, .func (.func 115) #[] #[.pointer (some ⟨w.heap.size + 1 + 1, 0, none⟩), .pointer (some ⟨w.heap.size + 1, 0, none⟩), .pointer (some ⟨w.heap.size, 0, none⟩)]] X.drew fun e W => e = .returned (.int .i64 i1) ∧ ∃ O', Sto W b O' s1 ∧ Ext O O' w W ∧ W.cell? ⟨w.heap.size, 0, none⟩ = some (.pointer (some ⟨b, 0, none⟩))) := by
    refine (fold_agreesS b (w.heap.size + 1 + 1) (w.heap.size + 1) w.heap.size O s va xs hxl v0 v1 m0 m1 fv fm HV HM X.drew hAG hVX).mono ?_
    rw [← HR.out]
    rintro e W ⟨h1, O', i, h2, h3⟩
    refine ⟨h1, O', h2.sto, ?_, h2.cS⟩
    refine ⟨⟨h3.1.os.trans hBXd.os, h3.1.tape.trans hBXd.tape, h3.1.output.trans hBXd.output, Nat.le_trans hBXd.size h3.1.size, fun k hk hO => (h3.1.block k (Nat.lt_of_lt_of_le hk hBXd.size) fun hh => ?_).trans (hBXd.block k hk)⟩, fun k hk => ?_⟩
    · rcases hh with hh | hh
      · exact hO hh
      · omega
    · rcases h3.2 k (.inl hk) with (q | q) | q
      · exact .inl q
      · exact .inr (by omega)
      · exact .inr (Nat.le_trans hBXd.size q)
  have sX' : X.cell? ⟨w.heap.size, 0, none⟩ = some (.pointer (some ⟨b, 0, none⟩)) := sX
  clear hX hBX iX fX pX hBXd HV HM HD HA hlt hAG hVX HR sX
  go_region_with (first
    | (go_at_call 114; refine HF.out.mono ?_; rintro e w2 ⟨rfl, O2, hs2, he2, s2⟩; have HS2 := Lib.hid hs2; have HE2 := Lib.hid he2; clear hs2 he2)
    | (go_at_call 109; refine (HT.out _ _ HS2.out).mono ?_; rintro e w3 ⟨rfl, rfl⟩))
  all_goals
    go_wp2_with fail
    go_ret
    exact ⟨rfl, O2, HS2.out, HE2.out⟩

end Go.Proofs.Ytlnkflmnjkmhkaa
