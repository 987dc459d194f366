/-
  Contracts of package symop's truths at a store that is not there, or is full: all is 0.
-/
import Derived.Test.YtlihbbeodclncaaSymopD2
import Derived.Deep.RegionHeld3
namespace Go.Proofs.Ytlihbbeodclncaa
open Go.RowKit Go.Maps

theorem call_or_m (av : Array Value) (W : World) : (callFunc 40 av).run Try.prog W = .ok (.enter 40 av) W := by kernel_rfl

abbrev Held4 (w : World) (bS : Nat) (po : Option Addr) (x y : Int) (W : World) : Prop :=
  Below w.heap.size w W ∧ W.cell? ⟨bS, 0, none⟩ = some (.pointer po) ∧ W.cell? ⟨w.heap.size, 0, none⟩ = some (.int .i64 x) ∧ W.cell? ⟨w.heap.size, 1, none⟩ = some (.int .i64 y)

theorem held4 {w W w1 : World} {bS : Nat} {po : Option Addr} {x y : Int} (hb : Below W.heap.size W w1) (h : Below w.heap.size w W ∧ W.cell? ⟨bS, 0, none⟩ = some (.pointer po) ∧ W.cell? ⟨w.heap.size, 0, none⟩ = some (.int .i64 x) ∧ W.cell? ⟨w.heap.size, 1, none⟩ = some (.int .i64 y)) :
    Below w.heap.size w w1 ∧ w1.cell? ⟨bS, 0, none⟩ = some (.pointer po) ∧ w1.cell? ⟨w.heap.size, 0, none⟩ = some (.int .i64 x) ∧ w1.cell? ⟨w.heap.size, 1, none⟩ = some (.int .i64 y) :=
  ⟨h.1.trans (hb.mono h.1.size), (hb.cell (cell_there h.2.1).1).trans h.2.1, (hb.cell (cell_there h.2.2.1).1).trans h.2.2.1, (hb.cell (cell_there h.2.2.2).1).trans h.2.2.2⟩

set_option maxHeartbeats 800000 in
theorem eq1_dead (bS : Nat) (po : Option Addr) (t x y : Int) (w : World) (hd : Dead w (.pointer po)) (hS : w.cell? ⟨bS, 0, none⟩ = some (.pointer po)) :
    Calls Try.prog 33 #[.int .i64 t, .agg #[.int .i64 x, .int .i64 y], .pointer (some ⟨bS, 0, none⟩)] w (RetInt w 0) := by
  have HD : Hid (∀ W, Below w.heap.size w W → Dead W (.pointer po)) := fun W hW => hd.below hW
  have hlS := (cell_there hS).1
  clear hd
  go_enter Try.func33, Try.ntmps33
  go_wp2_with fail
  generalize hX : w.alloc (.cells #[.int .i64 x, .int .i64 y] 62) = X
  have hBX : Below w.heap.size w X := by rw [← hX]; exact (by repeat (first | exact Below.refl _ _ | assumption | refine Below.drew ?_ | refine Below.alloc ?_ (by first | omega | (simp <;> omega)) _ | refine Below.setCell ?_ (by first | omega | (simp <;> omega)) _ | refine Below.trans ?_ (Below.mono (by assumption) (by first | omega | (simp <;> omega)))))
  have hsX : w.heap.size < X.heap.size := by rw [← hX]; simp
  have sX : X.cell? ⟨bS, 0, none⟩ = some (.pointer po) := (hBX.cell hlS).trans hS
  have x0 : X.cell? ⟨w.heap.size, 0, none⟩ = some (.int .i64 x) := by rw [← hX]; simp [go_sem]
  have x1 : X.cell? ⟨w.heap.size, 1, none⟩ = some (.int .i64 y) := by rw [← hX]; simp [go_sem]
  have hlX := (cell_there sX).1
  have HBX := Lib.hid hBX
  clear hX hBX hS
  go_region_held3 (fun w' => Below w.heap.size w w' ∧ w'.cell? ⟨bS, 0, none⟩ = some (.pointer po) ∧ w'.cell? ⟨w.heap.size, 0, none⟩ = some (.int .i64 x) ∧ w'.cell? ⟨w.heap.size, 1, none⟩ = some (.int .i64 y))
    (first | exact ⟨below_drewN HBX.out 1, sX, x0, x1⟩ | exact held4 hb1 (by assumption) | go_keep)
    (first | (go_at_call 35; refine (xor_dead _ _ _ (HD.out _ (And.left (by assumption)))).mono ?_; rintro e w1 ⟨rfl, hb1⟩) | (go_at_call 34; refine (not_dead _ _ (HD.out _ (And.left (by assumption)))).mono ?_; rintro e w1 ⟨rfl, hb1⟩))
  rename_i hH
  obtain ⟨hB1, s1, -, -⟩ := hH
  have HB1 := Lib.hid hB1
  clear hB1
  go_wp2_with fail
  refine (and_dead _ _ _ (HD.out _ HB1.out)).mono ?_
  rintro e w2 ⟨rfl, hb2⟩
  go_wp2_with fail
  go_ret
  exact ⟨rfl, HB1.out.trans (hb2.mono HB1.out.size)⟩

set_option maxHeartbeats 800000 in
theorem less1_dead (bS : Nat) (po : Option Addr) (t x y : Int) (w : World) (hd : Dead w (.pointer po)) (hS : w.cell? ⟨bS, 0, none⟩ = some (.pointer po)) :
    Calls Try.prog 37 #[.int .i64 t, .agg #[.int .i64 x, .int .i64 y], .pointer (some ⟨bS, 0, none⟩)] w (RetInt w 0) := by
  have HD : Hid (∀ W, Below w.heap.size w W → Dead W (.pointer po)) := fun W hW => hd.below hW
  have hlS := (cell_there hS).1
  clear hd
  go_enter Try.func37, Try.ntmps37
  go_wp2_with fail
  refine (xor_dead _ _ _ (HD.out _ (by repeat (first | exact Below.refl _ _ | assumption | refine Below.drew ?_ | refine Below.alloc ?_ (by first | omega | (simp <;> omega)) _ | refine Below.setCell ?_ (by first | omega | (simp <;> omega)) _ | refine Below.trans ?_ (Below.mono (by assumption) (by first | omega | (simp <;> omega))))))).mono ?_
  rintro e w1 ⟨rfl, hb1⟩
  have hB1 : Below w.heap.size w w1 := (by repeat (first | exact Below.refl _ _ | assumption | refine Below.drew ?_ | refine Below.alloc ?_ (by first | omega | (simp <;> omega)) _ | refine Below.setCell ?_ (by first | omega | (simp <;> omega)) _ | refine Below.trans ?_ (Below.mono (by assumption) (by first | omega | (simp <;> omega)))))
  have s1 : w1.cell? ⟨bS, 0, none⟩ = some (.pointer po) := (hB1.cell hlS).trans hS
  have x1 : w1.cell? ⟨w.heap.size, 1, none⟩ = some (.int .i64 y) := by rw [hb1.cell (p := ⟨w.heap.size, 1, none⟩) (by simp)]; simp [go_sem]
  have HB := Lib.hid hB1
  clear hS hb1 hB1
  go_wp2_with fail
  refine (ite_dead _ _ _ _ (HD.out _ HB.out)).mono ?_
  rintro e w2 ⟨rfl, hb2⟩
  go_wp2_with fail
  go_ret
  exact ⟨rfl, HB.out.trans (hb2.mono HB.out.size)⟩

set_option maxHeartbeats 800000 in
theorem any_dead {sp : Value} (va : Value) (xs : List Int) (w : World) (hd : Dead w sp) (ha : IVec w va xs) (hxl : xs.length ≤ 1000000) :
    Calls Try.prog 14 #[sp, va] w (RetInt w 0) := by
  have HD : Hid (∀ W, Below w.heap.size w W → Dead W sp) := fun W hW => hd.below hW
  have hF : Calls Try.prog 39 #[va, .int .i64 0, .func (.func 40) #[sp] #[]] w (RetJ fun _ W => Below w.heap.size w W) :=
    fold_int 40 #[sp] #[] va xs (fun _ _ W => Below w.heap.size w W) 0 w hxl (Below.refl _ _) (fun k t W h => ha.below h) call_or_m
      (fun k hk t W h => (or_dead t _ W (HD.out W h)).mono fun e w' ⟨h1, h2⟩ => ⟨0, h1, h.trans (h2.mono h.size)⟩)
  have HF := Lib.hid hF
  clear hd ha hF
  go_enter Try.func14, Try.ntmps14
  go_wp2_with fail
  refine HF.out.mono ?_
  rintro e w1 ⟨r, rfl, hb⟩
  go_wp2_with fail
  refine (truth_dead _ _ (HD.out _ hb)).mono ?_
  rintro e w2 ⟨rfl, rfl⟩
  go_wp2_with fail
  go_ret
  exact ⟨rfl, hb⟩

theorem fold_eq (po : Option Addr) (bS : Nat) (v : Value) (n : Nat) (p : Nat → Int × Int) (c0 : Int) (w : World) (hn : n ≤ 1000000) (hv : PVec w v n p) (hd : Dead w (.pointer po)) (hS : w.cell? ⟨bS, 0, none⟩ = some (.pointer po)) :
    Calls Try.prog 31 #[v, .int .i64 c0, .func (.func 33) #[] #[.pointer (some ⟨bS, 0, none⟩)]] w (RetJ fun _ W => Below w.heap.size w W) :=
  fold_bits 33 #[] #[.pointer (some ⟨bS, 0, none⟩)] v n p (fun _ _ W => Below w.heap.size w W) c0 w hn (Below.refl _ _) (fun k t W h => hv.below h) (fun k t W W' h hb => h.trans (hb.mono h.size)) call_eq1
    (fun k hk t W h => (eq1_dead bS po t _ _ W (hd.below h) ((h.cell (cell_there hS).1).trans hS)).mono fun e w' ⟨h1, h2⟩ => ⟨0, h1, h.trans (h2.mono h.size)⟩)
theorem fold_less (po : Option Addr) (bS : Nat) (v : Value) (n : Nat) (p : Nat → Int × Int) (c0 : Int) (w : World) (hn : n ≤ 1000000) (hv : PVec w v n p) (hd : Dead w (.pointer po)) (hS : w.cell? ⟨bS, 0, none⟩ = some (.pointer po)) :
    Calls Try.prog 31 #[v, .int .i64 c0, .func (.func 37) #[] #[.pointer (some ⟨bS, 0, none⟩)]] w (RetJ fun _ W => Below w.heap.size w W) :=
  fold_bits 37 #[] #[.pointer (some ⟨bS, 0, none⟩)] v n p (fun _ _ W => Below w.heap.size w W) c0 w hn (Below.refl _ _) (fun k t W h => hv.below h) (fun k t W W' h hb => h.trans (hb.mono h.size)) call_less1
    (fun k hk t W h => (less1_dead bS po t _ _ W (hd.below h) ((h.cell (cell_there hS).1).trans hS)).mono fun e w' ⟨h1, h2⟩ => ⟨0, h1, h.trans (h2.mono h.size)⟩)

set_option maxHeartbeats 1600000 in
theorem eq_dead {sp : Value} (va vb : Value) (xs ys : List Int) (w : World) (hd : Dead w sp) (ha : IVec w va xs) (hb : IVec w vb ys) (hxl : xs.length ≤ 1000000) (hyl : ys.length ≤ 1000000) :
    Calls Try.prog 11 #[sp, va, vb] w (RetInt w 0) := by
  have HD : Hid (∀ W, Below w.heap.size w W → Dead W sp) := fun W hW => hd.below hW
  have HA := Lib.hid ha
  have HB := Lib.hid hb
  obtain ⟨po, rfl⟩ := hd.shape
  clear hd ha hb
  have hmf := run_makeFunc
  go_enter Try.func11, Try.ntmps11
  go_wp2_with fail
  generalize hX : w.alloc (.cells #[.pointer po] 30) = X
  have hBX : Below w.heap.size w X := by rw [← hX]; exact (by repeat (first | exact Below.refl _ _ | assumption | refine Below.drew ?_ | refine Below.alloc ?_ (by first | omega | (simp <;> omega)) _ | refine Below.setCell ?_ (by first | omega | (simp <;> omega)) _ | refine Below.trans ?_ (Below.mono (by assumption) (by first | omega | (simp <;> omega)))))
  have hsX : w.heap.size < X.heap.size := by rw [← hX]; simp
  have sX : X.cell? ⟨w.heap.size, 0, none⟩ = some (.pointer po) := by rw [← hX]; simp [go_sem]
  have HBX := Lib.hid hBX
  have HPR : Hid (Calls Try.prog 32 #[va, vb] X.drew fun e w' => ∃ v, e = .returned v ∧ PVecX w' (fun _ => False) v (max xs.length ys.length) (pairAt xs ys) ∧ Below X.drew.heap.size X.drew w') :=
    pairs_any (fun _ => False) va vb xs ys X.drew (fun _ h => h.elim) (HA.out.below (below_drewN HBX.out 1)) (HB.out.below (below_drewN HBX.out 1)) hxl hyl
  clear hX hBX
  go_region_with (first
    | (go_at_call 32; refine HPR.out.mono ?_; rintro e w1 ⟨v, rfl, hv, hb1⟩; have s1 : w1.cell? ⟨w.heap.size, 0, none⟩ = some (.pointer po) := (hb1.cell (p := ⟨w.heap.size, 0, none⟩) hsX).trans sX; have hB1 : Below w.heap.size w w1 := (below_drewN HBX.out 1).trans (hb1.mono (Nat.le_of_lt hsX)))
    | (go_at_call 31; refine (fold_eq po w.heap.size v _ _ 1 w1 (by omega) hv.pvec (HD.out _ hB1) s1).mono ?_; rintro e w2 ⟨r, rfl, hb2⟩; have s2 : w2.cell? ⟨w.heap.size, 0, none⟩ = some (.pointer po) := (hb2.cell (p := ⟨w.heap.size, 0, none⟩) (cell_there s1).1).trans s1; have hB2 : Below w.heap.size w w2 := hB1.trans (hb2.mono hB1.size))
    | (go_at_call 30; refine (truth_dead _ _ (HD.out _ hB2)).mono ?_; rintro e w3 ⟨rfl, rfl⟩))
  all_goals
    go_wp2_with fail
    go_ret
    exact ⟨rfl, hB2⟩

set_option maxHeartbeats 1600000 in
theorem less_dead {sp : Value} (va vb : Value) (xs ys : List Int) (w : World) (hd : Dead w sp) (ha : IVec w va xs) (hb : IVec w vb ys) (hxl : xs.length ≤ 1000000) (hyl : ys.length ≤ 1000000) :
    Calls Try.prog 12 #[sp, va, vb] w (RetInt w 0) := by
  have HD : Hid (∀ W, Below w.heap.size w W → Dead W sp) := fun W hW => hd.below hW
  have HA := Lib.hid ha
  have HB := Lib.hid hb
  obtain ⟨po, rfl⟩ := hd.shape
  clear hd ha hb
  have hmf := run_makeFunc
  go_enter Try.func12, Try.ntmps12
  go_wp2_with fail
  generalize hX : w.alloc (.cells #[.pointer po] 30) = X
  have hBX : Below w.heap.size w X := by rw [← hX]; exact (by repeat (first | exact Below.refl _ _ | assumption | refine Below.drew ?_ | refine Below.alloc ?_ (by first | omega | (simp <;> omega)) _ | refine Below.setCell ?_ (by first | omega | (simp <;> omega)) _ | refine Below.trans ?_ (Below.mono (by assumption) (by first | omega | (simp <;> omega)))))
  have hsX : w.heap.size < X.heap.size := by rw [← hX]; simp
  have sX : X.cell? ⟨w.heap.size, 0, none⟩ = some (.pointer po) := by rw [← hX]; simp [go_sem]
  have HBX := Lib.hid hBX
  have HPR : Hid (Calls Try.prog 32 #[va, vb] X.drew fun e w' => ∃ v, e = .returned v ∧ PVecX w' (fun _ => False) v (max xs.length ys.length) (pairAt xs ys) ∧ Below X.drew.heap.size X.drew w') :=
    pairs_any (fun _ => False) va vb xs ys X.drew (fun _ h => h.elim) (HA.out.below (below_drewN HBX.out 1)) (HB.out.below (below_drewN HBX.out 1)) hxl hyl
  clear hX hBX
  go_region_with (first
    | (go_at_call 32; refine HPR.out.mono ?_; rintro e w1 ⟨v, rfl, hv, hb1⟩; have s1 : w1.cell? ⟨w.heap.size, 0, none⟩ = some (.pointer po) := (hb1.cell (p := ⟨w.heap.size, 0, none⟩) hsX).trans sX; have hB1 : Below w.heap.size w w1 := (below_drewN HBX.out 1).trans (hb1.mono (Nat.le_of_lt hsX)))
    | (go_at_call 31; refine (fold_less po w.heap.size v _ _ 0 w1 (by omega) hv.pvec (HD.out _ hB1) s1).mono ?_; rintro e w2 ⟨r, rfl, hb2⟩; have s2 : w2.cell? ⟨w.heap.size, 0, none⟩ = some (.pointer po) := (hb2.cell (p := ⟨w.heap.size, 0, none⟩) (cell_there s1).1).trans s1; have hB2 : Below w.heap.size w w2 := hB1.trans (hb2.mono hB1.size))
    | (go_at_call 30; refine (truth_dead _ _ (HD.out _ hB2)).mono ?_; rintro e w3 ⟨rfl, rfl⟩))
  all_goals
    go_wp2_with fail
    go_ret
    exact ⟨rfl, hB2⟩

set_option maxHeartbeats 400000 in
theorem atMost_dead {sp : Value} (va vb : Value) (xs ys : List Int) (w : World) (hd : Dead w sp) (ha : IVec w va xs) (hb : IVec w vb ys) (hxl : xs.length ≤ 1000000) (hyl : ys.length ≤ 1000000) :
    Calls Try.prog 13 #[sp, va, vb] w (RetInt w 0) := by
  have HL := Lib.hid (less_dead vb va ys xs w hd hb ha hyl hxl)
  have HN : Hid (∀ W a, Below w.heap.size w W → Calls Try.prog 34 #[sp, .int .i64 a] W (RetInt W 0)) := fun W a hW => not_dead a W (hd.below hW)
  clear hd ha hb
  go_enter Try.func13, Try.ntmps13
  go_wp2_with fail
  refine HL.out.mono ?_
  rintro e w1 ⟨rfl, hb1⟩
  go_wp2_with fail
  refine (HN.out _ _ hb1).mono ?_
  rintro e w2 ⟨rfl, hb2⟩
  go_wp2_with fail
  go_ret
  exact ⟨rfl, hb1.trans (hb2.mono hb1.size)⟩

end Go.Proofs.Ytlihbbeodclncaa
