/-
  Lemmas, joined: SymopD3, Agree, Val.
-/
import Derived.Test.YtlnkflmnjkmhkaaJO09
import Derived.Deep.RegionHeld3
import Derived.Test.YtlnkflmnjkmhkaaJO05
/-
  Contracts of package symop's truths at a store that is not there, or is full: all is 0.
-/
namespace Go.Proofs.Ytlnkflmnjkmhkaa
open Go.RowKit Go.Maps

theorem call_or_m (av : Array Value) (W : World) : (callFunc 83 av).run Try.prog W = .ok (.enter 83 av) W := by kernel_rfl

abbrev Held4 (w : World) (bS : Nat) (po : Option Addr) (x y : Int) (W : World) : Prop :=
  Below w.heap.size w W ∧ W.cell? ⟨bS, 0, none⟩ = some (.pointer po) ∧ W.cell? ⟨w.heap.size, 0, none⟩ = some (.int .i64 x) ∧ W.cell? ⟨w.heap.size, 1, none⟩ = some (.int .i64 y)

theorem held4 {w W w1 : World} {bS : Nat} {po : Option Addr} {x y : Int} (hb : Below W.heap.size W w1) (h : Below w.heap.size w W ∧ W.cell? ⟨bS, 0, none⟩ = some (.pointer po) ∧ W.cell? ⟨w.heap.size, 0, none⟩ = some (.int .i64 x) ∧ W.cell? ⟨w.heap.size, 1, none⟩ = some (.int .i64 y)) :
    Below w.heap.size w w1 ∧ w1.cell? ⟨bS, 0, none⟩ = some (.pointer po) ∧ w1.cell? ⟨w.heap.size, 0, none⟩ = some (.int .i64 x) ∧ w1.cell? ⟨w.heap.size, 1, none⟩ = some (.int .i64 y) :=
  ⟨h.1.trans (hb.mono h.1.size), (hb.cell (cell_there h.2.1).1).trans h.2.1, (hb.cell (cell_there h.2.2.1).1).trans h.2.2.1, (hb.cell (cell_there h.2.2.2).1).trans h.2.2.2⟩

set_option maxRecDepth 100000 in
set_option maxHeartbeats 800000 in
theorem eq1_dead (bS : Nat) (po : Option Addr) (t x y : Int) (w : World) (hd : Dead w (.pointer po)) (hS : w.cell? ⟨bS, 0, none⟩ = some (.pointer po)) :
    Calls Try.prog 112 #[.int .i64 t, .agg #[.int .i64 x, .int .i64 y], .pointer (some ⟨bS, 0, none⟩)] w (RetInt w 0) := by
  have HD : Hid (∀ W, Below w.heap.size w W → Dead W (.pointer po)) := fun W hW => hd.below hW
  have hlS := (cell_there hS).1
  clear hd
  go_enter Try.func112, Try.ntmps112
  go_wp2_with fail
  generalize hX : w.alloc (.cells #[.int .i64 x, .int .i64 y] 131) = X
  have hBX : Below w.heap.size w X := by rw [← hX]; exact (by repeat (first | exact Below.refl _ _ | assumption | refine Below.drew ?_ | refine Below.alloc ?_ (by first | omega | (simp <;> omega)) _ | refine Below.setCell ?_ (by first | omega | (simp <;> omega)) _ | refine Below.trans ?_ (Below.mono (by assumption) (by first | omega | (simp <;> omega)))))
  have hsX : w.heap.size < X.heap.size := by rw [← hX]; simp
  have sX : X.cell? ⟨bS, 0, none⟩ = some (.pointer po) := (hBX.cell hlS).trans hS
  have x0 : X.cell? ⟨w.heap.size, 0, none⟩ = some (.int .i64 x) := by rw [← hX]; simp [go_sem]
  have x1 : X.cell? ⟨w.heap.size, 1, none⟩ = some (.int .i64 y) := by rw [← hX]; simp [go_sem]
  have hlX := (cell_there sX).1
  have HBX := Lib.hid hBX
  clear hX hBX hS
  go_region_held3 (fun w' => Below w.heap.size w w' ∧ w'.cell? ⟨bS, 0, none⟩ = some (.pointer po) ∧ w'.cell? ⟨w.heap.size, 0, none⟩ = some (.int .i64 x) ∧ w'.cell? ⟨w.heap.size, 1, none⟩ = some (.int .i64 y))
    (first | exact ⟨below_drewN HBX.out 1, sX, x0, x1⟩ | exact held4 hb1 (by assumption) | go_keep)
    (first | (go_at_call 84; refine (xor_dead _ _ _ (HD.out _ (And.left (by assumption)))).mono ?_; rintro e w1 ⟨rfl, hb1⟩) | (go_at_call 85; refine (not_dead _ _ (HD.out _ (And.left (by assumption)))).mono ?_; rintro e w1 ⟨rfl, hb1⟩))
  rename_i hH
  obtain ⟨hB1, s1, -, -⟩ := hH
  have HB1 := Lib.hid hB1
  clear hB1
  go_wp2_with fail
  refine (and_dead _ _ _ (HD.out _ HB1.out)).mono ?_
  rintro e w2 ⟨rfl, hb2⟩
  go_wp2_with fail
  go_ret
  exact ⟨rfl, HB1.out.trans (hb2.mono HB1.out.size)⟩

set_option maxRecDepth 100000 in
set_option maxHeartbeats 800000 in
theorem less1_dead (bS : Nat) (po : Option Addr) (t x y : Int) (w : World) (hd : Dead w (.pointer po)) (hS : w.cell? ⟨bS, 0, none⟩ = some (.pointer po)) :
    Calls Try.prog 113 #[.int .i64 t, .agg #[.int .i64 x, .int .i64 y], .pointer (some ⟨bS, 0, none⟩)] w (RetInt w 0) := by
  have HD : Hid (∀ W, Below w.heap.size w W → Dead W (.pointer po)) := fun W hW => hd.below hW
  have hlS := (cell_there hS).1
  clear hd
  go_enter Try.func113, Try.ntmps113
  go_wp2_with fail
  refine (xor_dead _ _ _ (HD.out _ (by repeat (first | exact Below.refl _ _ | assumption | refine Below.drew ?_ | refine Below.alloc ?_ (by first | omega | (simp <;> omega)) _ | refine Below.setCell ?_ (by first | omega | (simp <;> omega)) _ | refine Below.trans ?_ (Below.mono (by assumption) (by first | omega | (simp <;> omega))))))).mono ?_
  rintro e w1 ⟨rfl, hb1⟩
  have hB1 : Below w.heap.size w w1 := (by repeat (first | exact Below.refl _ _ | assumption | refine Below.drew ?_ | refine Below.alloc ?_ (by first | omega | (simp <;> omega)) _ | refine Below.setCell ?_ (by first | omega | (simp <;> omega)) _ | refine Below.trans ?_ (Below.mono (by assumption) (by first | omega | (simp <;> omega)))))
  have s1 : w1.cell? ⟨bS, 0, none⟩ = some (.pointer po) := (hB1.cell hlS).trans hS
  have x1 : w1.cell? ⟨w.heap.size, 1, none⟩ = some (.int .i64 y) := by rw [hb1.cell (p := ⟨w.heap.size, 1, none⟩) (by simp)]; simp [go_sem]
  have HB := Lib.hid hB1
  clear hS hb1 hB1
  go_wp2_with fail
  refine (ite_dead _ _ _ _ (HD.out _ HB.out)).mono ?_
  rintro e w2 ⟨rfl, hb2⟩
  go_wp2_with fail
  go_ret
  exact ⟨rfl, HB.out.trans (hb2.mono HB.out.size)⟩

set_option maxRecDepth 100000 in
set_option maxHeartbeats 800000 in
theorem any_dead {sp : Value} (va : Value) (xs : List Int) (w : World) (hd : Dead w sp) (ha : IVec w va xs) (hxl : xs.length ≤ 1000000) :
    Calls Try.prog 54 #[sp, va] w (RetInt w 0) := by
  have HD : Hid (∀ W, Below w.heap.size w W → Dead W sp) := fun W hW => hd.below hW
  have hF : Calls Try.prog 114 #[va, .int .i64 0, .func (.func 83) #[sp] #[]] w (RetJ fun _ W => Below w.heap.size w W) :=
    fold_int 83 #[sp] #[] va xs (fun _ _ W => Below w.heap.size w W) 0 w hxl (Below.refl _ _) (fun k t W h => ha.below h) call_or_m
      (fun k hk t W h => (or_dead t _ W (HD.out W h)).mono fun e w' ⟨h1, h2⟩ => ⟨0, h1, h.trans (h2.mono h.size)⟩)
  have HF := Lib.hid hF
  clear hd ha hF
  go_enter Try.func54, Try.ntmps54
  go_wp2_with fail
  refine HF.out.mono ?_
  rintro e w1 ⟨r, rfl, hb⟩
  go_wp2_with fail
  refine (truth_dead _ _ (HD.out _ hb)).mono ?_
  rintro e w2 ⟨rfl, rfl⟩
  go_wp2_with fail
  go_ret
  exact ⟨rfl, hb⟩

theorem fold_eq (po : Option Addr) (bS : Nat) (v : Value) (n : Nat) (p : Nat → Int × Int) (c0 : Int) (w : World) (hn : n ≤ 1000000) (hv : PVec w v n p) (hd : Dead w (.pointer po)) (hS : w.cell? ⟨bS, 0, none⟩ = some (.pointer po)) :
    Calls Try.prog 110 #[v, .int .i64 c0, .func (.func 112) #[] #[.pointer (some ⟨bS, 0, none⟩)]] w (RetJ fun _ W => Below w.heap.size w W) :=
  fold_bits 112 #[] #[.pointer (some ⟨bS, 0, none⟩)] v n p (fun _ _ W => Below w.heap.size w W) c0 w hn (Below.refl _ _) (fun k t W h => hv.below h) (fun k t W W' h hb => h.trans (hb.mono h.size)) call_eq1
    (fun k hk t W h => (eq1_dead bS po t _ _ W (hd.below h) ((h.cell (cell_there hS).1).trans hS)).mono fun e w' ⟨h1, h2⟩ => ⟨0, h1, h.trans (h2.mono h.size)⟩)
theorem fold_less (po : Option Addr) (bS : Nat) (v : Value) (n : Nat) (p : Nat → Int × Int) (c0 : Int) (w : World) (hn : n ≤ 1000000) (hv : PVec w v n p) (hd : Dead w (.pointer po)) (hS : w.cell? ⟨bS, 0, none⟩ = some (.pointer po)) :
    Calls Try.prog 110 #[v, .int .i64 c0, .func (.func 113) #[] #[.pointer (some ⟨bS, 0, none⟩)]] w (RetJ fun _ W => Below w.heap.size w W) :=
  fold_bits 113 #[] #[.pointer (some ⟨bS, 0, none⟩)] v n p (fun _ _ W => Below w.heap.size w W) c0 w hn (Below.refl _ _) (fun k t W h => hv.below h) (fun k t W W' h hb => h.trans (hb.mono h.size)) call_less1
    (fun k hk t W h => (less1_dead bS po t _ _ W (hd.below h) ((h.cell (cell_there hS).1).trans hS)).mono fun e w' ⟨h1, h2⟩ => ⟨0, h1, h.trans (h2.mono h.size)⟩)

set_option maxRecDepth 100000 in
set_option maxHeartbeats 1600000 in
theorem eq_dead {sp : Value} (va vb : Value) (xs ys : List Int) (w : World) (hd : Dead w sp) (ha : IVec w va xs) (hb : IVec w vb ys) (hxl : xs.length ≤ 1000000) (hyl : ys.length ≤ 1000000) :
    Calls Try.prog 51 #[sp, va, vb] w (RetInt w 0) := by
  have HD : Hid (∀ W, Below w.heap.size w W → Dead W sp) := fun W hW => hd.below hW
  have HA := Lib.hid ha
  have HB := Lib.hid hb
  obtain ⟨po, rfl⟩ := hd.shape
  clear hd ha hb
  have hmf := run_makeFunc
  go_enter Try.func51, Try.ntmps51
  go_wp2_with fail
  generalize hX : w.alloc (.cells #[.pointer po] 23) = X
  have hBX : Below w.heap.size w X := by rw [← hX]; exact (by repeat (first | exact Below.refl _ _ | assumption | refine Below.drew ?_ | refine Below.alloc ?_ (by first | omega | (simp <;> omega)) _ | refine Below.setCell ?_ (by first | omega | (simp <;> omega)) _ | refine Below.trans ?_ (Below.mono (by assumption) (by first | omega | (simp <;> omega)))))
  have hsX : w.heap.size < X.heap.size := by rw [← hX]; simp
  have sX : X.cell? ⟨w.heap.size, 0, none⟩ = some (.pointer po) := by rw [← hX]; simp [go_sem]
  have HBX := Lib.hid hBX
  have HPR : Hid (Calls Try.prog 111 #[va, vb] X.drew fun e w' => ∃ v, e = .returned v ∧ PVecX w' (fun _ => False) v (max xs.length ys.length) (pairAt xs ys) ∧ Below X.drew.heap.size X.drew w') :=
    pairs_any (fun _ => False) va vb xs ys X.drew (fun _ h => h.elim) (HA.out.below (below_drewN HBX.out 1)) (HB.out.below (below_drewN HBX.out 1)) hxl hyl
  clear hX hBX
  go_region_with (first
    | (go_at_call 111; refine HPR.out.mono ?_; rintro e w1 ⟨v, rfl, hv, hb1⟩; have s1 : w1.cell? ⟨w.heap.size, 0, none⟩ = some (.pointer po) := (hb1.cell (p := ⟨w.heap.size, 0, none⟩) hsX).trans sX; have hB1 : Below w.heap.size w w1 := (below_drewN HBX.out 1).trans (hb1.mono (Nat.le_of_lt hsX)))
    | (go_at_call 110; refine (fold_eq po w.heap.size v _ _ 1 w1 (by omega) hv.pvec (HD.out _ hB1) s1).mono ?_; rintro e w2 ⟨r, rfl, hb2⟩; have s2 : w2.cell? ⟨w.heap.size, 0, none⟩ = some (.pointer po) := (hb2.cell (p := ⟨w.heap.size, 0, none⟩) (cell_there s1).1).trans s1; have hB2 : Below w.heap.size w w2 := hB1.trans (hb2.mono hB1.size))
    | (go_at_call 109; refine (truth_dead _ _ (HD.out _ hB2)).mono ?_; rintro e w3 ⟨rfl, rfl⟩))
  all_goals
    go_wp2_with fail
    go_ret
    exact ⟨rfl, hB2⟩

set_option maxRecDepth 100000 in
set_option maxHeartbeats 1600000 in
theorem less_dead {sp : Value} (va vb : Value) (xs ys : List Int) (w : World) (hd : Dead w sp) (ha : IVec w va xs) (hb : IVec w vb ys) (hxl : xs.length ≤ 1000000) (hyl : ys.length ≤ 1000000) :
    Calls Try.prog 52 #[sp, va, vb] w (RetInt w 0) := by
  have HD : Hid (∀ W, Below w.heap.size w W → Dead W sp) := fun W hW => hd.below hW
  have HA := Lib.hid ha
  have HB := Lib.hid hb
  obtain ⟨po, rfl⟩ := hd.shape
  clear hd ha hb
  have hmf := run_makeFunc
  go_enter Try.func52, Try.ntmps52
  go_wp2_with fail
  generalize hX : w.alloc (.cells #[.pointer po] 23) = X
  have hBX : Below w.heap.size w X := by rw [← hX]; exact (by repeat (first | exact Below.refl _ _ | assumption | refine Below.drew ?_ | refine Below.alloc ?_ (by first | omega | (simp <;> omega)) _ | refine Below.setCell ?_ (by first | omega | (simp <;> omega)) _ | refine Below.trans ?_ (Below.mono (by assumption) (by first | omega | (simp <;> omega)))))
  have hsX : w.heap.size < X.heap.size := by rw [← hX]; simp
  have sX : X.cell? ⟨w.heap.size, 0, none⟩ = some (.pointer po) := by rw [← hX]; simp [go_sem]
  have HBX := Lib.hid hBX
  have HPR : Hid (Calls Try.prog 111 #[va, vb] X.drew fun e w' => ∃ v, e = .returned v ∧ PVecX w' (fun _ => False) v (max xs.length ys.length) (pairAt xs ys) ∧ Below X.drew.heap.size X.drew w') :=
    pairs_any (fun _ => False) va vb xs ys X.drew (fun _ h => h.elim) (HA.out.below (below_drewN HBX.out 1)) (HB.out.below (below_drewN HBX.out 1)) hxl hyl
  clear hX hBX
  go_region_with (first
    | (go_at_call 111; refine HPR.out.mono ?_; rintro e w1 ⟨v, rfl, hv, hb1⟩; have s1 : w1.cell? ⟨w.heap.size, 0, none⟩ = some (.pointer po) := (hb1.cell (p := ⟨w.heap.size, 0, none⟩) hsX).trans sX; have hB1 : Below w.heap.size w w1 := (below_drewN HBX.out 1).trans (hb1.mono (Nat.le_of_lt hsX)))
    | (go_at_call 110; refine (fold_less po w.heap.size v _ _ 0 w1 (by omega) hv.pvec (HD.out _ hB1) s1).mono ?_; rintro e w2 ⟨r, rfl, hb2⟩; have s2 : w2.cell? ⟨w.heap.size, 0, none⟩ = some (.pointer po) := (hb2.cell (p := ⟨w.heap.size, 0, none⟩) (cell_there s1).1).trans s1; have hB2 : Below w.heap.size w w2 := hB1.trans (hb2.mono hB1.size))
    | (go_at_call 109; refine (truth_dead _ _ (HD.out _ hB2)).mono ?_; rintro e w3 ⟨rfl, rfl⟩))
  all_goals
    go_wp2_with fail
    go_ret
    exact ⟨rfl, hB2⟩

set_option maxRecDepth 100000 in
set_option maxHeartbeats 400000 in
theorem atMost_dead {sp : Value} (va vb : Value) (xs ys : List Int) (w : World) (hd : Dead w sp) (ha : IVec w va xs) (hb : IVec w vb ys) (hxl : xs.length ≤ 1000000) (hyl : ys.length ≤ 1000000) :
    Calls Try.prog 53 #[sp, va, vb] w (RetInt w 0) := by
  have HL := Lib.hid (less_dead vb va ys xs w hd hb ha hyl hxl)
  have HN : Hid (∀ W a, Below w.heap.size w W → Calls Try.prog 85 #[sp, .int .i64 a] W (RetInt W 0)) := fun W a hW => not_dead a W (hd.below hW)
  clear hd ha hb
  go_enter Try.func53, Try.ntmps53
  go_wp2_with fail
  refine HL.out.mono ?_
  rintro e w1 ⟨rfl, hb1⟩
  go_wp2_with fail
  refine (HN.out _ _ hb1).mono ?_
  rintro e w2 ⟨rfl, hb2⟩
  go_wp2_with fail
  go_ret
  exact ⟨rfl, hb1.trans (hb2.mono hb1.size)⟩

end Go.Proofs.Ytlnkflmnjkmhkaa

/-
  Contracts of symop.Agrees at a store that is not there, or is full: 0.
-/
namespace Go.Proofs.Ytlnkflmnjkmhkaa
open Go.RowKit Go.Maps

/-- A pattern's cells. -/
def PatAt (w : World) (b : Nat) (v0 v1 m0 m1 : Int) : Prop :=
  w.cell? ⟨b, 0, none⟩ = some (.int .u64 v0) ∧ w.cell? ⟨b, 1, none⟩ = some (.int .u64 v1) ∧ w.cell? ⟨b, 2, none⟩ = some (.int .u64 m0) ∧ w.cell? ⟨b, 3, none⟩ = some (.int .u64 m1)
/-- What num.Bit tells of a number given by its parts. -/
def BitsAre (x y : Int) (f : Int → Bool) : Prop := ∀ i W, Calls Try.prog 80 #[.agg #[.int .u64 x, .int .u64 y], .int .i64 i] W fun e w' => e = .returned (.bool (f i)) ∧ Below W.heap.size W w'

theorem PatAt.below {w w' : World} {b n : Nat} {v0 v1 m0 m1 : Int} (h : PatAt w b v0 v1 m0 m1) (hb : Below n w w') (hn : b < n) : PatAt w' b v0 v1 m0 m1 := by
  obtain ⟨h0, h1, h2, h3⟩ := h
  exact ⟨(hb.cell hn).trans h0, (hb.cell hn).trans h1, (hb.cell hn).trans h2, (hb.cell hn).trans h3⟩

set_option maxRecDepth 100000 in
set_option maxHeartbeats 800000 in
theorem agrees1_dead (bI bP bS : Nat) (hP : bP < bI) (hS : bS < bI) (po : Option Addr) (k : Nat) (hk : k ≤ 1000000) (t x : Int) (v0 v1 m0 m1 : Int) (fv fm : Int → Bool) (HV : Hid (BitsAre v0 v1 fv)) (HM : Hid (BitsAre m0 m1 fm)) (w : World)
    (hd : ∀ W, Below bI w W → Dead W (.pointer po)) (cI : w.cell? ⟨bI, 0, none⟩ = some (.int .i64 ((k : Int) - 1))) (fI : w.frozen? ⟨bI, 0, none⟩ = false) (cS : w.cell? ⟨bS, 0, none⟩ = some (.pointer po)) (cP : PatAt w bP v0 v1 m0 m1) :
    Calls Try.prog 115 #[.int .i64 t, .int .i64 x, .pointer (some ⟨bI, 0, none⟩), .pointer (some ⟨bP, 0, none⟩), .pointer (some ⟨bS, 0, none⟩)] w
      (RetJ fun _ w' => Below bI w w' ∧ w'.cell? ⟨bI, 0, none⟩ = some (.int .i64 (k : Int)) ∧ w'.frozen? ⟨bI, 0, none⟩ = false) := by
  have hlI := (cell_there cI).1
  have HB0 : Hid (Below bI w (w.setCell ⟨bI, 0, none⟩ (.int .i64 (k : Int)))) := Lib.hid ((Below.refl bI w).setCell (show bI ≤ (Addr.mk bI 0 none).block from Nat.le_refl bI) _)
  have HY : Hid (∀ W, Below w.heap.size (w.setCell ⟨bI, 0, none⟩ (.int .i64 (k : Int))) W → Below bI w W ∧ (W.cell? ⟨bI, 0, none⟩ = some (.int .i64 (k : Int)) ∧ W.frozen? ⟨bI, 0, none⟩ = false) ∧ W.cell? ⟨bS, 0, none⟩ = some (.pointer po) ∧ PatAt W bP v0 v1 m0 m1 ∧ Dead W (.pointer po)) := by
    intro W hW
    have hB : Below bI w W := HB0.out.trans (hW.mono (Nat.le_of_lt hlI))
    exact ⟨hB, ⟨(hW.cell (p := ⟨bI, 0, none⟩) hlI).trans (World.cell?_setCell_same _ _ _ cI), (hW.frozen (p := ⟨bI, 0, none⟩) hlI).trans (by simpa using fI)⟩, (hB.cell hS).trans cS, cP.below hB hP, hd W hB⟩
  obtain ⟨q0, q1, q2, q3⟩ := cP
  clear hd
  go_enter Try.func115, Try.ntmps115
  go_wp2_with fail
  refine (HM.out _ _).mono ?_
  rintro e w1 ⟨rfl, hb1⟩
  obtain ⟨z1, z2, z3, ⟨y0, y1, y2, y3⟩, z4⟩ := HY.out w1 (hb1.mono (by simp))
  have HF1 := Lib.hid z1
  have HD1 := Lib.hid z4
  clear z1 z4 q0 q1 q2 q3 cI cS
  generalize fm k = bm
  cases bm
  · go_wp2_with fail
    go_ret
    exact ⟨_, rfl, HF1.out, z2⟩
  · go_wp2_with fail
    refine (HV.out _ _).mono ?_
    rintro e w2 ⟨rfl, hb2⟩
    obtain ⟨z1, z2, z3, z5, z4⟩ := HY.out w2 ((hb1.mono (by simp)).trans (hb2.mono (by have := hb1.size; simpa using this)))
    have HF2 := Lib.hid z1
    have HD2 := Lib.hid z4
    have HI2 := Lib.hid z2
    have hs := z1.size
    clear z1 z4 z2 z5 y0 y1 y2 y3 HF1 HD1
    generalize fv k = bv
    have fin : Hid (∀ W, Below w2.heap.size w2 W → Below bI w W ∧ W.cell? ⟨bI, 0, none⟩ = some (.int .i64 (k : Int)) ∧ W.frozen? ⟨bI, 0, none⟩ = false) := fun W hW =>
      let ⟨q1, q2, _⟩ := HY.out W (((hb1.mono (by simp)).trans (hb2.mono (by have := hb1.size; simpa using this))).trans (hW.mono hs))
      ⟨q1, q2⟩
    have hc3 : Hid (∀ W, Below w2.heap.size w2 W → W.cell? ⟨bS, 0, none⟩ = some (.pointer po) ∧ Dead W (.pointer po)) := fun W hW =>
      let ⟨_, _, q3, _, q5⟩ := HY.out W (((hb1.mono (by simp)).trans (hb2.mono (by have := hb1.size; simpa using this))).trans (hW.mono hs))
      ⟨q3, q5⟩
    clear HY
    cases bv
    · go_wp2_with fail
      refine (not_dead _ _ HD2.out).mono ?_
      rintro e w3 ⟨rfl, hb3⟩
      obtain ⟨s3, d3⟩ := hc3.out w3 hb3
      have HD3 := Lib.hid d3
      clear d3
      go_wp2_with fail
      refine (and_dead _ _ _ HD3.out).mono ?_
      rintro e w4 ⟨rfl, hb4⟩
      go_wp2_with fail
      go_ret
      exact ⟨_, rfl, fin.out w4 (hb3.trans (hb4.mono hb3.size))⟩
    · go_wp2_with fail
      refine (and_dead _ _ _ HD2.out).mono ?_
      rintro e w3 ⟨rfl, hb3⟩
      go_wp2_with fail
      go_ret
      exact ⟨_, rfl, fin.out w3 hb3⟩

theorem fold_agrees (bI bP bS : Nat) (hP : bP < bI) (hS : bS < bI) (po : Option Addr) (va : Value) (xs : List Int) (hxl : xs.length ≤ 1000000) (v0 v1 m0 m1 : Int) (fv fm : Int → Bool) (HV : Hid (BitsAre v0 v1 fv)) (HM : Hid (BitsAre m0 m1 fm)) (w : World)
    (hd : ∀ W, Below bI w W → Dead W (.pointer po)) (ha : ∀ W, Below bI w W → IVec W va xs) (cI : w.cell? ⟨bI, 0, none⟩ = some (.int .i64 (-1))) (fI : w.frozen? ⟨bI, 0, none⟩ = false) (cS : w.cell? ⟨bS, 0, none⟩ = some (.pointer po)) (cP : PatAt w bP v0 v1 m0 m1) :
    Calls Try.prog 114 #[va, .int .i64 1, .func (.func 115) #[] #[.pointer (some ⟨bI, 0, none⟩), .pointer (some ⟨bP, 0, none⟩), .pointer (some ⟨bS, 0, none⟩)]] w (RetJ fun _ W => Below bI w W) := by
  have h := fold_int 115 #[] #[.pointer (some ⟨bI, 0, none⟩), .pointer (some ⟨bP, 0, none⟩), .pointer (some ⟨bS, 0, none⟩)] va xs
    (fun k _ W => Below bI w W ∧ W.cell? ⟨bI, 0, none⟩ = some (.int .i64 ((k : Int) - 1)) ∧ W.frozen? ⟨bI, 0, none⟩ = false) 1 w hxl ⟨Below.refl _ _, cI, fI⟩ (fun k t W h => ha W h.1) call_agrees1
    (fun k hk t W ⟨hB, hc, hf⟩ => (agrees1_dead bI bP bS hP hS po k (by omega) t (xs.getD k 0) v0 v1 m0 m1 fv fm HV HM W (fun W' hW => hd W' (hB.trans hW)) hc hf ((hB.cell hS).trans cS) (cP.below hB hP)).mono
      fun e w' ⟨r, h1, h2, h3, h4⟩ => ⟨r, h1, hB.trans h2, by simpa using h3, h4⟩)
  exact h.mono fun e w' ⟨r, h1, h2, _⟩ => ⟨r, h1, h2⟩

set_option maxRecDepth 100000 in
set_option maxHeartbeats 1600000 in
theorem agrees_dead {sp : Value} (va : Value) (xs : List Int) (v0 v1 m0 m1 : Int) (fv fm : Int → Bool) (HV : Hid (BitsAre v0 v1 fv)) (HM : Hid (BitsAre m0 m1 fm)) (w : World) (hd : Dead w sp) (ha : IVec w va xs) (hxl : xs.length ≤ 1000000) :
    Calls Try.prog 55 #[sp, va, .agg #[.int .u64 v0, .int .u64 v1, .int .u64 m0, .int .u64 m1]] w (RetInt w 0) := by
  have HD : Hid (∀ W, Below w.heap.size w W → Dead W sp) := fun W hW => hd.below hW
  have HA : Hid (∀ W, Below w.heap.size w W → IVec W va xs) := fun W hW => ha.below hW
  obtain ⟨po, rfl⟩ := hd.shape
  clear hd ha
  have hmf := run_makeFunc
  go_enter Try.func55, Try.ntmps55
  go_wp2_with fail
  generalize hX : ((w.alloc (.cells #[.pointer po] 23)).alloc (.cells #[.int .u64 v0, .int .u64 v1, .int .u64 m0, .int .u64 m1] 43)).alloc (.cells #[.int .i64 (-1)] 3) = X
  have hBX : Below w.heap.size w X := by rw [← hX]; exact (by repeat (first | exact Below.refl _ _ | assumption | refine Below.drew ?_ | refine Below.alloc ?_ (by first | omega | (simp <;> omega)) _ | refine Below.setCell ?_ (by first | omega | (simp <;> omega)) _ | refine Below.trans ?_ (Below.mono (by assumption) (by first | omega | (simp <;> omega)))))
  have hsX : w.heap.size + 1 + 1 < X.heap.size := by rw [← hX]; simp
  have sX : X.drew.cell? ⟨w.heap.size, 0, none⟩ = some (.pointer po) := by rw [← hX]; simp [go_sem]
  have iX : X.drew.cell? ⟨w.heap.size + 1 + 1, 0, none⟩ = some (.int .i64 (-1)) := by rw [← hX]; simp [go_sem]
  have fX : X.drew.frozen? ⟨w.heap.size + 1 + 1, 0, none⟩ = false := by rw [← hX]; simp [go_sem]
  have pX : PatAt X.drew (w.heap.size + 1) v0 v1 m0 m1 := by rw [← hX]; simp [PatAt, go_sem]
  have hBXd : Below w.heap.size w X.drew := below_drewN hBX 1
  have HF : Hid (Calls Try.prog 114 #[va, .int .i64 1, .func (.func 115) #[] #[.pointer (some ⟨w.heap.size + 1 + 1, 0, none⟩), .pointer (some ⟨w.heap.size + 1, 0, none⟩), .pointer (some ⟨w.heap.size, 0, none⟩)]] X.drew (RetJ fun _ W => Below w.heap.size w W ∧ W.cell? ⟨w.heap.size, 0, none⟩ = some (.pointer po))) :=
    (fold_agrees (w.heap.size + 1 + 1) (w.heap.size + 1) w.heap.size (by omega) (by omega) po va xs hxl v0 v1 m0 m1 fv fm HV HM X.drew (fun W hW => HD.out W (hBXd.trans (hW.mono (by omega)))) (fun W hW => HA.out W (hBXd.trans (hW.mono (by omega)))) iX fX sX pX).mono
      fun e w' ⟨r, h1, h2⟩ => ⟨r, h1, hBXd.trans (h2.mono (by omega)), (h2.cell (p := ⟨w.heap.size, 0, none⟩) (by simp; omega)).trans sX⟩
  have sX' : X.cell? ⟨w.heap.size, 0, none⟩ = some (.pointer po) := sX
  have HT : Hid (∀ W a, Below w.heap.size w W → Calls Try.prog 109 #[.pointer po, .int .i64 a] W fun e w' => e = .returned (.int .i64 0) ∧ W = w') := fun W a hW => truth_dead a W (HD.out W hW)
  have HS : Hid (∀ W, Below w.heap.size w W → True) := fun _ _ => trivial
  clear hX hBX iX fX pX hBXd HV HM HD HA HS
  go_region_with (first
    | (go_at_call 114; refine HF.out.mono ?_; rintro e w2 ⟨r, rfl, hb2, s2⟩)
    | (go_at_call 109; refine (HT.out _ _ hb2).mono ?_; rintro e w3 ⟨rfl, rfl⟩))
  all_goals
    go_wp2_with fail
    go_ret
    exact ⟨rfl, hb2⟩

end Go.Proofs.Ytlnkflmnjkmhkaa

/-
  The plain law of a diagram's truth under bits, and of Ite's.
-/
namespace Go.Proofs.Ytlnkflmnjkmhkaa
open Go.RowKit Go.Maps

/-- Is a diagram true under bits? -/
def valF (l : List T3) (q : Int → Bool) : Nat → Int → Bool
  | 0, _ => false
  | f + 1, a => if a < 2 then a == 1 else match l[(a - 2).toNat]? with
    | none => false
    | some t => if q t.a then valF l q f t.c else valF l q f t.b
def valP (l : List T3) (q : Int → Bool) (a : Int) : Bool := valF l q (a.toNat + 1) a

theorem valF_fuel {l : List T3} (h : Ord l) (q : Int → Bool) : ∀ (f g : Nat) (a : Int), Is l a → a.toNat < f → a.toNat < g → valF l q f a = valF l q g a := by
  intro f
  induction f with
  | zero => intro g a _ h0; omega
  | succ f ih =>
    intro g a ha hf hg
    obtain ⟨g, rfl⟩ : ∃ g', g = g' + 1 := ⟨g - 1, by omega⟩
    rw [valF, valF]
    split
    · rfl
    · rename_i h2
      have h3 := is_ix ha (by omega)
      rw [List.getElem?_eq_getElem h3]
      simp only
      have hb := h.lo _ _ (List.getElem?_eq_getElem h3)
      have hc := h.hi _ _ (List.getElem?_eq_getElem h3)
      have ha' := ha
      unfold Is at ha'
      have ib : Is l (l[(a - 2).toNat]).b := by unfold Is; omega
      have ic : Is l (l[(a - 2).toNat]).c := by unfold Is; omega
      rw [ih g _ ib (by omega) (by omega), ih g _ ic (by omega) (by omega)]

theorem valP_two {l : List T3} {q : Int → Bool} {a : Int} (h : a < 2) : valP l q a = (a == 1) := by
  unfold valP
  rw [valF, if_pos h]

theorem valP_node {l : List T3} (h : Ord l) (q : Int → Bool) {a : Int} (ha : Is l a) (h2 : 2 ≤ a) {t : T3} (ht : l[(a - 2).toNat]? = some t) : valP l q a = if q t.a then valP l q t.c else valP l q t.b := by
  have hb := h.lo _ _ ht
  have hc := h.hi _ _ ht
  have h3 := is_ix ha h2
  have ha' := ha
  unfold Is at ha'
  unfold valP
  rw [valF, if_neg (by omega), ht]
  simp only
  have ib : Is l t.b := by unfold Is; omega
  have ic : Is l t.c := by unfold Is; omega
  rw [valF_fuel h q _ (t.c.toNat + 1) _ ic (by omega) (by omega), valF_fuel h q _ (t.b.toNat + 1) _ ib (by omega) (by omega)]

theorem valF_mono {l m : List T3} (h : Ord l) (q : Int → Bool) : ∀ (f : Nat) (a : Int), Is l a → valF (l ++ m) q f a = valF l q f a := by
  intro f
  induction f with
  | zero => intro a _; rfl
  | succ f ih =>
    intro a ha
    rw [valF, valF]
    split
    · rfl
    · rename_i h2
      have h3 := is_ix ha (by omega)
      rw [List.getElem?_append_left h3, List.getElem?_eq_getElem h3]
      simp only
      have hb := h.lo _ _ (List.getElem?_eq_getElem h3)
      have hc := h.hi _ _ (List.getElem?_eq_getElem h3)
      have ha' := ha
      unfold Is at ha'
      have ib : Is l (l[(a - 2).toNat]).b := by unfold Is; omega
      have ic : Is l (l[(a - 2).toNat]).c := by unfold Is; omega
      rw [ih _ ib, ih _ ic]
theorem valP_mono {l m : List T3} (h : Ord l) (q : Int → Bool) {a : Int} (ha : Is l a) : valP (l ++ m) q a = valP l q a := valF_mono h q _ _ ha

theorem Grew.val {s s' : BS} (g : Grew s s') (h : Ord s.nodes) (q : Int → Bool) {a : Int} (ha : Is s.nodes a) : valP s'.nodes q a = valP s.nodes q a := by
  obtain ⟨m, hm⟩ := g.nodes
  rw [hm]
  exact valP_mono h q ha

/-- A diagram's truth out of its parts'. -/
theorem val_split {l : List T3} (h : Ord l) (q : Int → Bool) {a v : Int} (ha : Is l a) (hv : v < 64) (hle : v ≤ topP l a) : valP l q a = if q v then valP l q (hiP l a v) else valP l q (loP l a v) := by
  unfold loP hiP
  by_cases e : topP l a = v
  · rw [if_pos e, if_pos e]
    by_cases h2 : a < 2
    · simp [topP, h2] at e; omega
    · have h3 := is_ix ha (by omega)
      have ht : l[(a - 2).toNat]? = some l[(a - 2).toNat] := List.getElem?_eq_getElem h3
      rw [valP_node h q ha (by omega) ht, ht]
      have : topP l a = (l[(a - 2).toNat]).a := by unfold topP; rw [if_neg h2, ht]
      rw [← this, e]
  · rw [if_neg e, if_neg e]
    split <;> rfl

theorem node1_val {s : BS} {t : T3} (h : Ord s.nodes) (hv : 0 ≤ t.a ∧ t.a < 64) (hlo : Is s.nodes t.b) (hhi : Is s.nodes t.c) (hl : t.a < topP s.nodes t.b) (hh : t.a < topP s.nodes t.c) (q : Int → Bool) {r : Int} (hr : (node1 s t).2 = some r) :
    valP (node1 s t).1.nodes q r = if q t.a then valP s.nodes q t.c else valP s.nodes q t.b := by
  obtain ⟨⟨m, hm⟩, hord, -, hk⟩ := node1_ok h hv hlo hhi hl hh
  obtain ⟨his, -, -, hby⟩ := hk r hr
  have mb : valP (node1 s t).1.nodes q t.b = valP s.nodes q t.b := by rw [hm]; exact valP_mono h q hlo
  have mc : valP (node1 s t).1.nodes q t.c = valP s.nodes q t.c := by rw [hm]; exact valP_mono h q hhi
  split at hby
  · rename_i e
    cases hby
    rw [mb]
    split
    · rw [e]
    · rfl
  · obtain ⟨k, rfl, hk⟩ := byOf_some hby
    have ht : (node1 s t).1.nodes[((k : Int) + 2 - 2).toNat]? = some t := by rw [show ((k : Int) + 2 - 2).toNat = k from by omega]; exact hk
    rw [valP_node hord q his (by omega) ht, mb, mc]

/-- The truth of what Ite makes. -/
theorem iteP_val (q : Int → Bool) : ∀ (f : Nat) (s : BS) (c a b : Int) (X : BS × Option Int), Ord s.nodes → Is s.nodes c → Is s.nodes a → Is s.nodes b → iteP f s c a b = some X →
    ∀ r, X.2 = some r → valP X.1.nodes q r = if valP s.nodes q c then valP s.nodes q a else valP s.nodes q b := by
  intro f
  induction f with
  | zero => intro s c a b X _ _ _ _ h; simp [iteP] at h
  | succ f ih =>
    intro s c a b X h hc ha hb hX
    have hX0 := hX
    rw [iteP] at hX
    split at hX
    · rename_i h1
      cases hX
      intro r hr
      cases hr
      rcases h1 with rfl | rfl
      · rw [valP_two (a := 1) (by omega)]; rfl
      · split <;> rfl
    rename_i h1
    split at hX
    · rename_i h2
      cases hX
      intro r hr
      cases hr
      subst h2
      rw [valP_two (a := 0) (by omega)]; rfl
    rename_i h2
    split at hX
    · rename_i h3
      cases hX
      intro r hr
      cases hr
      obtain ⟨rfl, rfl⟩ := h3
      rw [valP_two (a := 1) (by omega), valP_two (a := 0) (by omega)]
      show _ = if valP s.nodes q c = true then true else false
      cases valP s.nodes q c <;> rfl
    rename_i h3
    obtain ⟨q1, q2, q3, q4, q5⟩ := min3_lt h hc h1 h2
    have lc := loP_is h hc q1 q2
    have la := loP_is h ha q1 q3
    have lb := loP_is h hb q1 q4
    have hc' := hiP_is h hc q1 q2
    have ha' := hiP_is h ha q1 q3
    have hb' := hiP_is h hb q1 q4
    have sc := val_split h q hc q1 q2
    have sa := val_split h q ha q1 q3
    have sb := val_split h q hb q1 q4
    generalize hv : min3 s.nodes c a b = v at *
    split at hX
    · cases hX
    · cases hX; intro r hr; cases hr
    rename_i s1 lo e1
    obtain ⟨g1, k1⟩ := iteP_ok f s _ _ _ _ h lc.1 la.1 lb.1 e1
    obtain ⟨-, k12, k13, -⟩ := k1 lo rfl
    have v1 := ih s _ _ _ _ h lc.1 la.1 lb.1 e1 lo rfl
    simp only at k12 k13 g1 v1
    split at hX
    · cases hX
    · cases hX; intro r hr; cases hr
    rename_i s2 hi e2
    obtain ⟨g2, k2⟩ := iteP_ok f s1 _ _ _ _ g1.ord (g1.is hc'.1).1 (g1.is ha'.1).1 (g1.is hb'.1).1 e2
    obtain ⟨-, k22, k23, -⟩ := k2 hi rfl
    have v2 := ih s1 _ _ _ _ g1.ord (g1.is hc'.1).1 (g1.is ha'.1).1 (g1.is hb'.1).1 e2 hi rfl
    simp only at k22 k23 g2 v2
    have tlo : v < topP s1.nodes lo := by
      have e : v < min3 s.nodes (loP s.nodes c v) (loP s.nodes a v) (loP s.nodes b v) := by simp only [min3]; omega
      omega
    have thi : v < topP s2.nodes hi := by
      have e : v < min3 s1.nodes (hiP s.nodes c v) (hiP s.nodes a v) (hiP s.nodes b v) := by
        simp only [min3]
        rw [(g1.is hc'.1).2, (g1.is ha'.1).2, (g1.is hb'.1).2]
        omega
      omega
    cases hX
    intro r hr
    have nv := node1_val (s := s2) (t := ⟨v, lo, hi⟩) g2.ord ⟨q5, q1⟩ (g2.is k12).1 k22 (by rw [(g2.is k12).2]; exact tlo) thi q hr
    rw [nv]
    simp only
    rw [g2.val g1.ord q k12, v1, v2, g1.val h q hc'.1, g1.val h q ha'.1, g1.val h q hb'.1, sc, sa, sb]
    cases q v <;> simp

/-- The variables of all nodes are below V. -/
def Vars (l : List T3) (V : Int) : Prop := ∀ t ∈ l, t.a < V

theorem node1_len (s : BS) (t : T3) : (node1 s t).1.nodes.length ≤ s.nodes.length + 1 ∧ ((node1 s t).2 = none → s.nodes.length = s.cap ∧ (node1 s t).1.nodes = s.nodes) := by
  unfold node1
  split
  · exact ⟨by simp, fun h => by cases h⟩
  · split
    · exact ⟨by simp, fun h => by cases h⟩
    · split
      · rename_i h; exact ⟨by simp, fun _ => ⟨h, rfl⟩⟩
      · exact ⟨by simp, fun h => by cases h⟩
theorem node1_vars {s : BS} {t : T3} {V : Int} (h : Vars s.nodes V) (ht : t.a < V) : Vars (node1 s t).1.nodes V := by
  unfold node1
  split
  · exact h
  · split
    · exact h
    · split
      · exact h
      · intro u hu
        rcases List.mem_append.1 hu with h1 | h1
        · exact h u h1
        · simp at h1; subst h1; exact ht

/-- How many nodes Ite makes at most, where the variables from v on up to V alone are met. -/
theorem iteP_len (V : Nat) (hV : V ≤ 64) : ∀ (f : Nat) (s : BS) (c a b : Int) (X : BS × Option Int) (v : Nat), Ord s.nodes → Vars s.nodes V → Is s.nodes c → Is s.nodes a → Is s.nodes b → (v : Int) ≤ min3 s.nodes c a b → iteP f s c a b = some X →
    Vars X.1.nodes V ∧ X.1.nodes.length + 1 ≤ s.nodes.length + 2 ^ (V - v) ∧ (X.2 = none → X.1.nodes.length = s.cap) := by
  intro f
  induction f with
  | zero => intro s c a b X v _ _ _ _ _ _ h; simp [iteP] at h
  | succ f ih =>
    intro s c a b X v h hvs hc ha hb hvm hX
    have hp := Nat.two_pow_pos (V - v)
    rw [iteP] at hX
    split at hX
    · cases hX; exact ⟨hvs, by show s.nodes.length + 1 ≤ _; omega, fun h => by cases h⟩
    rename_i h1
    split at hX
    · cases hX; exact ⟨hvs, by show s.nodes.length + 1 ≤ _; omega, fun h => by cases h⟩
    rename_i h2
    split at hX
    · cases hX; exact ⟨hvs, by show s.nodes.length + 1 ≤ _; omega, fun h => by cases h⟩
    rename_i h3
    obtain ⟨q1, q2, q3, q4, q5⟩ := min3_lt h hc h1 h2
    -- the least variable is one of a node
    have hmV : min3 s.nodes c a b < V := by
      have hc2 : 2 ≤ c := by unfold Is at hc; omega
      have h3 := is_ix hc hc2
      have h6 : topP s.nodes c = (s.nodes[(c - 2).toNat]).a := by unfold topP; rw [if_neg (by omega), List.getElem?_eq_getElem h3]
      have := hvs _ (List.getElem_mem h3)
      omega
    have lc := loP_is h hc q1 q2
    have la := loP_is h ha q1 q3
    have lb := loP_is h hb q1 q4
    have hc' := hiP_is h hc q1 q2
    have ha' := hiP_is h ha q1 q3
    have hb' := hiP_is h hb q1 q4
    generalize hv : min3 s.nodes c a b = m at *
    have hpow : 2 ^ (V - v) = 2 ^ (V - (v + 1)) + 2 ^ (V - (v + 1)) := by
      rw [show V - v = V - (v + 1) + 1 by omega, Nat.pow_succ]
      omega
    split at hX
    · cases hX
    · rename_i s1 e1
      cases hX
      obtain ⟨w1, w2, w3⟩ := ih s _ _ _ _ (v + 1) h hvs lc.1 la.1 lb.1 (by simp only [min3]; omega) e1
      simp only at w1 w2 w3
      exact ⟨w1, by simp only; omega, fun _ => w3 trivial⟩
    rename_i s1 lo e1
    obtain ⟨w1, w2, -⟩ := ih s _ _ _ _ (v + 1) h hvs lc.1 la.1 lb.1 (by simp only [min3]; omega) e1
    obtain ⟨g1, -⟩ := iteP_ok f s _ _ _ _ h lc.1 la.1 lb.1 e1
    simp only at w1 w2 g1
    have hm1 : ((v + 1 : Nat) : Int) ≤ min3 s1.nodes (hiP s.nodes c m) (hiP s.nodes a m) (hiP s.nodes b m) := by
      simp only [min3]
      rw [(g1.is hc'.1).2, (g1.is ha'.1).2, (g1.is hb'.1).2]
      omega
    split at hX
    · cases hX
    · rename_i s2 e2
      cases hX
      obtain ⟨x1, x2, x3⟩ := ih s1 _ _ _ _ (v + 1) g1.ord w1 (g1.is hc'.1).1 (g1.is ha'.1).1 (g1.is hb'.1).1 hm1 e2
      simp only at x1 x2 x3
      exact ⟨x1, by simp only; omega, fun h => by rw [← g1.cap]; exact x3 trivial⟩
    rename_i s2 hi e2
    obtain ⟨x1, x2, -⟩ := ih s1 _ _ _ _ (v + 1) g1.ord w1 (g1.is hc'.1).1 (g1.is ha'.1).1 (g1.is hb'.1).1 hm1 e2
    obtain ⟨g2, -⟩ := iteP_ok f s1 _ _ _ _ g1.ord (g1.is hc'.1).1 (g1.is ha'.1).1 (g1.is hb'.1).1 e2
    simp only at x1 x2 g2
    cases hX
    obtain ⟨n1, n2⟩ := node1_len s2 ⟨m, lo, hi⟩
    refine ⟨node1_vars x1 hmV, by omega, fun hn => ?_⟩
    obtain ⟨n3, n4⟩ := n2 hn
    rw [n4, n3, g2.cap, g1.cap]

end Go.Proofs.Ytlnkflmnjkmhkaa
