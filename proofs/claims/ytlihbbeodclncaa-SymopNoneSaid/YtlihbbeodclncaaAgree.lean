/-
  Contracts of symop.Agrees at a store that is not there, or is full: 0.
-/
import Derived.Test.YtlihbbeodclncaaSymopD3
import Derived.Test.YtlihbbeodclncaaEval2
namespace Go.Proofs.Ytlihbbeodclncaa
open Go.RowKit Go.Maps

/-- A pattern's cells. -/
def PatAt (w : World) (b : Nat) (v0 v1 m0 m1 : Int) : Prop :=
  w.cell? ⟨b, 0, none⟩ = some (.int .u64 v0) ∧ w.cell? ⟨b, 1, none⟩ = some (.int .u64 v1) ∧ w.cell? ⟨b, 2, none⟩ = some (.int .u64 m0) ∧ w.cell? ⟨b, 3, none⟩ = some (.int .u64 m1)
/-- What num.Bit tells of a number given by its parts. -/
def BitsAre (x y : Int) (f : Int → Bool) : Prop := ∀ i W, Calls Try.prog 42 #[.agg #[.int .u64 x, .int .u64 y], .int .i64 i] W fun e w' => e = .returned (.bool (f i)) ∧ Below W.heap.size W w'

theorem PatAt.below {w w' : World} {b n : Nat} {v0 v1 m0 m1 : Int} (h : PatAt w b v0 v1 m0 m1) (hb : Below n w w') (hn : b < n) : PatAt w' b v0 v1 m0 m1 := by
  obtain ⟨h0, h1, h2, h3⟩ := h
  exact ⟨(hb.cell hn).trans h0, (hb.cell hn).trans h1, (hb.cell hn).trans h2, (hb.cell hn).trans h3⟩

set_option maxHeartbeats 800000 in
theorem agrees1_dead (bI bP bS : Nat) (hP : bP < bI) (hS : bS < bI) (po : Option Addr) (k : Nat) (hk : k ≤ 1000000) (t x : Int) (v0 v1 m0 m1 : Int) (fv fm : Int → Bool) (HV : Hid (BitsAre v0 v1 fv)) (HM : Hid (BitsAre m0 m1 fm)) (w : World)
    (hd : ∀ W, Below bI w W → Dead W (.pointer po)) (cI : w.cell? ⟨bI, 0, none⟩ = some (.int .i64 ((k : Int) - 1))) (fI : w.frozen? ⟨bI, 0, none⟩ = false) (cS : w.cell? ⟨bS, 0, none⟩ = some (.pointer po)) (cP : PatAt w bP v0 v1 m0 m1) :
    Calls Try.prog 41 #[.int .i64 t, .int .i64 x, .pointer (some ⟨bI, 0, none⟩), .pointer (some ⟨bP, 0, none⟩), .pointer (some ⟨bS, 0, none⟩)] w
      (RetJ fun _ w' => Below bI w w' ∧ w'.cell? ⟨bI, 0, none⟩ = some (.int .i64 (k : Int)) ∧ w'.frozen? ⟨bI, 0, none⟩ = false) := by
  have hlI := (cell_there cI).1
  have HB0 : Hid (Below bI w (w.setCell ⟨bI, 0, none⟩ (.int .i64 (k : Int)))) := Lib.hid ((Below.refl bI w).setCell (show bI ≤ (Addr.mk bI 0 none).block from Nat.le_refl bI) _)
  have HY : Hid (∀ W, Below w.heap.size (w.setCell ⟨bI, 0, none⟩ (.int .i64 (k : Int))) W → Below bI w W ∧ (W.cell? ⟨bI, 0, none⟩ = some (.int .i64 (k : Int)) ∧ W.frozen? ⟨bI, 0, none⟩ = false) ∧ W.cell? ⟨bS, 0, none⟩ = some (.pointer po) ∧ PatAt W bP v0 v1 m0 m1 ∧ Dead W (.pointer po)) := by
    intro W hW
    have hB : Below bI w W := HB0.out.trans (hW.mono (Nat.le_of_lt hlI))
    exact ⟨hB, ⟨(hW.cell (p := ⟨bI, 0, none⟩) hlI).trans (World.cell?_setCell_same _ _ _ cI), (hW.frozen (p := ⟨bI, 0, none⟩) hlI).trans (by simpa using fI)⟩, (hB.cell hS).trans cS, cP.below hB hP, hd W hB⟩
  obtain ⟨q0, q1, q2, q3⟩ := cP
  clear hd
  go_enter Try.func41, Try.ntmps41
  go_wp2_with fail
  refine (HM.out _ _).mono ?_
  rintro e w1 ⟨rfl, hb1⟩
  obtain ⟨z1, z2, z3, ⟨y0, y1, y2, y3⟩, z4⟩ := HY.out w1 (hb1.mono (by simp))
  have HF1 := Lib.hid z1
  have HD1 := Lib.hid z4
  clear z1 z4 q0 q1 q2 q3 cI cS
  generalize fm k = bm
  cases bm
  · go_wp2_with fail
    go_ret
    exact ⟨_, rfl, HF1.out, z2⟩
  · go_wp2_with fail
    refine (HV.out _ _).mono ?_
    rintro e w2 ⟨rfl, hb2⟩
    obtain ⟨z1, z2, z3, z5, z4⟩ := HY.out w2 ((hb1.mono (by simp)).trans (hb2.mono (by have := hb1.size; simpa using this)))
    have HF2 := Lib.hid z1
    have HD2 := Lib.hid z4
    have HI2 := Lib.hid z2
    have hs := z1.size
    clear z1 z4 z2 z5 y0 y1 y2 y3 HF1 HD1
    generalize fv k = bv
    have fin : Hid (∀ W, Below w2.heap.size w2 W → Below bI w W ∧ W.cell? ⟨bI, 0, none⟩ = some (.int .i64 (k : Int)) ∧ W.frozen? ⟨bI, 0, none⟩ = false) := fun W hW =>
      let ⟨q1, q2, _⟩ := HY.out W (((hb1.mono (by simp)).trans (hb2.mono (by have := hb1.size; simpa using this))).trans (hW.mono hs))
      ⟨q1, q2⟩
    have hc3 : Hid (∀ W, Below w2.heap.size w2 W → W.cell? ⟨bS, 0, none⟩ = some (.pointer po) ∧ Dead W (.pointer po)) := fun W hW =>
      let ⟨_, _, q3, _, q5⟩ := HY.out W (((hb1.mono (by simp)).trans (hb2.mono (by have := hb1.size; simpa using this))).trans (hW.mono hs))
      ⟨q3, q5⟩
    clear HY
    cases bv
    · go_wp2_with fail
      refine (not_dead _ _ HD2.out).mono ?_
      rintro e w3 ⟨rfl, hb3⟩
      obtain ⟨s3, d3⟩ := hc3.out w3 hb3
      have HD3 := Lib.hid d3
      clear d3
      go_wp2_with fail
      refine (and_dead _ _ _ HD3.out).mono ?_
      rintro e w4 ⟨rfl, hb4⟩
      go_wp2_with fail
      go_ret
      exact ⟨_, rfl, fin.out w4 (hb3.trans (hb4.mono hb3.size))⟩
    · go_wp2_with fail
      refine (and_dead _ _ _ HD2.out).mono ?_
      rintro e w3 ⟨rfl, hb3⟩
      go_wp2_with fail
      go_ret
      exact ⟨_, rfl, fin.out w3 hb3⟩

theorem fold_agrees (bI bP bS : Nat) (hP : bP < bI) (hS : bS < bI) (po : Option Addr) (va : Value) (xs : List Int) (hxl : xs.length ≤ 1000000) (v0 v1 m0 m1 : Int) (fv fm : Int → Bool) (HV : Hid (BitsAre v0 v1 fv)) (HM : Hid (BitsAre m0 m1 fm)) (w : World)
    (hd : ∀ W, Below bI w W → Dead W (.pointer po)) (ha : ∀ W, Below bI w W → IVec W va xs) (cI : w.cell? ⟨bI, 0, none⟩ = some (.int .i64 (-1))) (fI : w.frozen? ⟨bI, 0, none⟩ = false) (cS : w.cell? ⟨bS, 0, none⟩ = some (.pointer po)) (cP : PatAt w bP v0 v1 m0 m1) :
    Calls Try.prog 39 #[va, .int .i64 1, .func (.func 41) #[] #[.pointer (some ⟨bI, 0, none⟩), .pointer (some ⟨bP, 0, none⟩), .pointer (some ⟨bS, 0, none⟩)]] w (RetJ fun _ W => Below bI w W) := by
  have h := fold_int 41 #[] #[.pointer (some ⟨bI, 0, none⟩), .pointer (some ⟨bP, 0, none⟩), .pointer (some ⟨bS, 0, none⟩)] va xs
    (fun k _ W => Below bI w W ∧ W.cell? ⟨bI, 0, none⟩ = some (.int .i64 ((k : Int) - 1)) ∧ W.frozen? ⟨bI, 0, none⟩ = false) 1 w hxl ⟨Below.refl _ _, cI, fI⟩ (fun k t W h => ha W h.1) call_agrees1
    (fun k hk t W ⟨hB, hc, hf⟩ => (agrees1_dead bI bP bS hP hS po k (by omega) t (xs.getD k 0) v0 v1 m0 m1 fv fm HV HM W (fun W' hW => hd W' (hB.trans hW)) hc hf ((hB.cell hS).trans cS) (cP.below hB hP)).mono
      fun e w' ⟨r, h1, h2, h3, h4⟩ => ⟨r, h1, hB.trans h2, by simpa using h3, h4⟩)
  exact h.mono fun e w' ⟨r, h1, h2, _⟩ => ⟨r, h1, h2⟩

set_option maxHeartbeats 1600000 in
theorem agrees_dead {sp : Value} (va : Value) (xs : List Int) (v0 v1 m0 m1 : Int) (fv fm : Int → Bool) (HV : Hid (BitsAre v0 v1 fv)) (HM : Hid (BitsAre m0 m1 fm)) (w : World) (hd : Dead w sp) (ha : IVec w va xs) (hxl : xs.length ≤ 1000000) :
    Calls Try.prog 15 #[sp, va, .agg #[.int .u64 v0, .int .u64 v1, .int .u64 m0, .int .u64 m1]] w (RetInt w 0) := by
  have HD : Hid (∀ W, Below w.heap.size w W → Dead W sp) := fun W hW => hd.below hW
  have HA : Hid (∀ W, Below w.heap.size w W → IVec W va xs) := fun W hW => ha.below hW
  obtain ⟨po, rfl⟩ := hd.shape
  clear hd ha
  have hmf := run_makeFunc
  go_enter Try.func15, Try.ntmps15
  go_wp2_with fail
  generalize hX : ((w.alloc (.cells #[.pointer po] 30)).alloc (.cells #[.int .u64 v0, .int .u64 v1, .int .u64 m0, .int .u64 m1] 28)).alloc (.cells #[.int .i64 (-1)] 3) = X
  have hBX : Below w.heap.size w X := by rw [← hX]; exact (by repeat (first | exact Below.refl _ _ | assumption | refine Below.drew ?_ | refine Below.alloc ?_ (by first | omega | (simp <;> omega)) _ | refine Below.setCell ?_ (by first | omega | (simp <;> omega)) _ | refine Below.trans ?_ (Below.mono (by assumption) (by first | omega | (simp <;> omega)))))
  have hsX : w.heap.size + 1 + 1 < X.heap.size := by rw [← hX]; simp
  have sX : X.drew.cell? ⟨w.heap.size, 0, none⟩ = some (.pointer po) := by rw [← hX]; simp [go_sem]
  have iX : X.drew.cell? ⟨w.heap.size + 1 + 1, 0, none⟩ = some (.int .i64 (-1)) := by rw [← hX]; simp [go_sem]
  have fX : X.drew.frozen? ⟨w.heap.size + 1 + 1, 0, none⟩ = false := by rw [← hX]; simp [go_sem]
  have pX : PatAt X.drew (w.heap.size + 1) v0 v1 m0 m1 := by rw [← hX]; simp [PatAt, go_sem]
  have hBXd : Below w.heap.size w X.drew := below_drewN hBX 1
  have HF : Hid (Calls Try.prog 39 #[va, .int .i64 1, .func (.func 41) #[] #[.pointer (some ⟨w.heap.size + 1 + 1, 0, none⟩), .pointer (some ⟨w.heap.size + 1, 0, none⟩), .pointer (some ⟨w.heap.size, 0, none⟩)]] X.drew (RetJ fun _ W => Below w.heap.size w W ∧ W.cell? ⟨w.heap.size, 0, none⟩ = some (.pointer po))) :=
    (fold_agrees (w.heap.size + 1 + 1) (w.heap.size + 1) w.heap.size (by omega) (by omega) po va xs hxl v0 v1 m0 m1 fv fm HV HM X.drew (fun W hW => HD.out W (hBXd.trans (hW.mono (by omega)))) (fun W hW => HA.out W (hBXd.trans (hW.mono (by omega)))) iX fX sX pX).mono
      fun e w' ⟨r, h1, h2⟩ => ⟨r, h1, hBXd.trans (h2.mono (by omega)), (h2.cell (p := ⟨w.heap.size, 0, none⟩) (by simp; omega)).trans sX⟩
  have sX' : X.cell? ⟨w.heap.size, 0, none⟩ = some (.pointer po) := sX
  have HT : Hid (∀ W a, Below w.heap.size w W → Calls Try.prog 30 #[.pointer po, .int .i64 a] W fun e w' => e = .returned (.int .i64 0) ∧ W = w') := fun W a hW => truth_dead a W (HD.out W hW)
  have HS : Hid (∀ W, Below w.heap.size w W → True) := fun _ _ => trivial
  clear hX hBX iX fX pX hBXd HV HM HD HA HS
  go_region_with (first
    | (go_at_call 39; refine HF.out.mono ?_; rintro e w2 ⟨r, rfl, hb2, s2⟩)
    | (go_at_call 30; refine (HT.out _ _ hb2).mono ?_; rintro e w3 ⟨rfl, rfl⟩))
  all_goals
    go_wp2_with fail
    go_ret
    exact ⟨rfl, hb2⟩

end Go.Proofs.Ytlihbbeodclncaa
