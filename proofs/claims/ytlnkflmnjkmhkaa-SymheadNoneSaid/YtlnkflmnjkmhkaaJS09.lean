/-
  Lemmas, joined: Head5, Law17S, Law17T, RefAnd, RefOr, RefXor, RefShr, Law17U, Law17M, Const, SumK, SumK2, CmpK, Known18, Plays18c.
-/
import Derived.Test.YtlnkflmnjkmhkaaJS08
import Derived.Test.YtlnkflmnjkmhkaaJS06
import Derived.Test.YtlnkflmnjkmhkaaJS01
import Derived.BigQuiet
import Derived.Deep.QuietTactic
import Derived.Outline
import Derived.Deep.DeepCutAuto
import Derived.Test.YtlnkflmnjkmhkaaJS05
import Derived.Deep.RegionHeld3
import Derived.Test.YtlnkflmnjkmhkaaJS07
/-
  symhead at a packet that has nothing: own, Take, Get, Set, Valid.
-/
namespace Go.Proofs.Ytlnkflmnjkmhkaa
open Go.RowKit Go.Maps

/-- What own's callees tell of nothing. -/
def PrN (k : Nat) (f : Nat → Value) (_ : World) : Prop := (0 < k → ∃ b, f 0 = .slice (some b) 0 0) ∧ (1 < k → ∃ b, f 1 = .slice (some b) 0 0) ∧ (2 < k → f 2 = .slice none 0 0) ∧ (3 < k → f 3 = .slice none 0 0)
theorem prN_ok (g1 : Nat) : PrOk g1 PrN where
  loc := fun k f g W e ⟨h0, h1, h2, h3⟩ => ⟨fun h => by rw [← e 0 h]; exact h0 h, fun h => by rw [← e 1 h]; exact h1 h, fun h => by rw [← e 2 h]; exact h2 h, fun h => by rw [← e 3 h]; exact h3 h⟩
  later := fun k f W W' h _ => h
  box := fun f W b j x _ _ h => h
  shape := fun f W j hj ⟨h0, h1, h2, h3⟩ => by
    match j, hj with
    | 0, _ => obtain ⟨b, e⟩ := h0 (by omega); exact ⟨_, _, _, e⟩
    | 1, _ => obtain ⟨b, e⟩ := h1 (by omega); exact ⟨_, _, _, e⟩
    | 2, _ => exact ⟨_, _, _, h2 (by omega)⟩
    | 3, _ => exact ⟨_, _, _, h3 (by omega)⟩
theorem prN_calls (w : World) : OwnCalls w (.slice none 0 0) (.slice none 0 0) (.slice none 0 0) (.slice none 0 0) PrN := by
  refine ⟨fun f W _ _ h => ?_, fun f W _ _ h => ?_, fun f W _ _ h => ?_, fun f W _ _ h => ?_⟩
  · refine (vecs_nil none 0 W).mono ?_
    rintro e w' ⟨rfl, hb⟩
    exact ⟨_, rfl, ⟨fun _ => ⟨_, rfl⟩, fun h => by omega, fun h => by omega, fun h => by omega⟩, hb⟩
  · refine (vecs_nil none 0 W).mono ?_
    rintro e w' ⟨rfl, hb⟩
    exact ⟨_, rfl, ⟨fun _ => h.1 (by omega), fun _ => ⟨_, rfl⟩, fun h => by omega, fun h => by omega⟩, hb⟩
  · refine (cloneI_nil W).mono ?_
    rintro e w' ⟨rfl, rfl⟩
    exact ⟨_, rfl, ⟨fun _ => h.1 (by omega), fun _ => h.2.1 (by omega), fun _ => rfl, fun h => by omega⟩, Below.refl _ _⟩
  · refine (cloneV_nil W).mono ?_
    rintro e w' ⟨rfl, rfl⟩
    exact ⟨_, rfl, ⟨fun _ => h.1 (by omega), fun _ => h.2.1 (by omega), fun _ => h.2.2.1 (by omega), fun _ => rfl⟩, Below.refl _ _⟩

/-- How own of nothing ends. -/
def OwnNR (w : World) (g pt d s a : Int) (e : Ending) (w' : World) : Prop := ∃ b0 b1 b2 : Addr, e = .returned (.agg #[.int .i64 g, .int .i64 pt, .slice (some b0) 0 0, .slice none 0 0, .slice (some b2) 0 0, .slice (some b1) 0 0, .int .i64 d, .int .i64 s, .slice none 0 0, .int .i64 a]) ∧ Below w.heap.size w w'
theorem own_nothing (g pt d s a : Int) (w : World) :
    Calls Try.prog 117 #[.agg #[.int .i64 g, .int .i64 pt, .slice none 0 0, .slice none 0 0, .slice none 0 0, .slice none 0 0, .int .i64 d, .int .i64 s, .slice none 0 0, .int .i64 a]] w (OwnNR w g pt d s a) := by
  refine (own_f0 g pt d s a none 0 (.slice none 0 0) (.slice none 0 0) (.slice none 0 0) (.slice none 0 0) PrN w (prN_ok _) (fun f => ⟨fun h => by omega, fun h => by omega, fun h => by omega, fun h => by omega⟩) (prN_calls w) ⟨_, _, _, rfl⟩ ⟨_, _, _, rfl⟩ ⟨_, _, _, rfl⟩ ⟨_, _, _, rfl⟩).mono ?_
  rintro e w' ⟨f, b, rfl, ⟨h0, h1, h2, h3⟩, hb⟩
  obtain ⟨b0, e0⟩ := h0 (by omega)
  obtain ⟨b1, e1⟩ := h1 (by omega)
  rw [e0, e1, h2 (by omega), h3 (by omega)]
  exact ⟨b0, b1, b, rfl, hb⟩

/-- How Take of nothing ends: the guard is 0. -/
def TakeNR (w : World) (e : Ending) (w' : World) : Prop := ∃ b0 b1 b2 : Addr, e = .returned (.tuple #[.agg #[.int .i64 0, .int .i64 0, .slice (some b0) 0 0, .slice none 0 0, .slice (some b2) 0 0, .slice (some b1) 0 0, .int .i64 0, .int .i64 0, .slice none 0 0, .int .i64 0], .int .i64 1]) ∧ Below w.heap.size w w'

set_option maxRecDepth 100000 in
set_option maxHeartbeats 3000000 in
theorem take_nothing (gh gw : Nat) (sp : Value) (h : Int) (w : World) (hh : HeadAt w gh gw) :
    Calls Try.prog 61 #[.agg #[.slice (some ⟨gh, 0, none⟩) 1 1, .slice none 0 0, .slice none 0 0, .slice none 0 0, .slice none 0 0, .slice none 0 0, .slice none 0 0, .slice none 0 0, .slice none 0 0, .slice none 0 0, .slice none 0 0, .slice none 0 0], sp, .agg #[.int .i64 1, .int .i64 0, .slice none 0 0, .slice none 0 0, .slice none 0 0, .slice none 0 0, .int .i64 0, .int .i64 0, .slice none 0 0, .int .i64 0], .int .i64 h] w (TakeNR w) := by
  have HOW : Hid (∀ W, Calls Try.prog 117 #[.agg #[.int .i64 1, .int .i64 0, .slice none 0 0, .slice none 0 0, .slice none 0 0, .slice none 0 0, .int .i64 0, .int .i64 0, .slice none 0 0, .int .i64 0]] W (OwnNR W 1 0 0 0 0)) := fun W => own_nothing 1 0 0 0 0 W
  have HHW : Hid (∀ W, Below w.heap.size w W → HeadAt W gh gw) := fun W hb => hh.below hb
  clear hh
  obtain ⟨wd, yes, HSZ⟩ : ∃ (wd : Value) (yes : Bool), Hid (∀ W, Below w.heap.size w W → Calls Try.prog 118 #[.agg #[.slice (some ⟨gh, 0, none⟩) 1 1, .slice none 0 0, .slice none 0 0, .slice none 0 0, .slice none 0 0, .slice none 0 0, .slice none 0 0, .slice none 0 0, .slice none 0 0, .slice none 0 0, .slice none 0 0, .slice none 0 0], .int .i64 h] W fun e w' => e = .returned (.tuple #[wd, .bool yes]) ∧ Below W.heap.size W w') := by
    by_cases h0 : h = 0
    · subst h0
      exact ⟨_, _, fun W hb => sizes_one gh gw W (HHW.out W hb)⟩
    · exact ⟨_, _, fun W _ => sizes_none gh h (by omega) W⟩
  obtain ⟨nz, HSI⟩ : ∃ nz : Int, Hid (∀ W, Below w.heap.size w W → Calls Try.prog 119 #[.agg #[.slice (some ⟨gh, 0, none⟩) 1 1, .slice none 0 0, .slice none 0 0, .slice none 0 0, .slice none 0 0, .slice none 0 0, .slice none 0 0, .slice none 0 0, .slice none 0 0, .slice none 0 0, .slice none 0 0, .slice none 0 0], .int .i64 h] W fun e w' => e = .returned (.int .i64 nz) ∧ Below W.heap.size W w') := by
    by_cases h0 : h = 0
    · subst h0
      exact ⟨_, fun W hb => size_one gh gw W (HHW.out W hb)⟩
    · exact ⟨_, fun W _ => size_none gh h (by omega) W⟩
  obtain ⟨A, hA⟩ : ∃ A, A = (((w.alloc (.cells #[.slice (some ⟨gh, 0, none⟩) 1 1, .slice none 0 0, .slice none 0 0, .slice none 0 0, .slice none 0 0, .slice none 0 0, .slice none 0 0, .slice none 0 0, .slice none 0 0, .slice none 0 0, .slice none 0 0, .slice none 0 0] 94)).alloc (.cells #[.int .i64 1, .int .i64 0, .slice none 0 0, .slice none 0 0, .slice none 0 0, .slice none 0 0, .int .i64 0, .int .i64 0, .slice none 0 0, .int .i64 0] 97)).alloc (.cells #[.int .i64 0, .int .i64 0, .slice none 0 0, .slice none 0 0, .slice none 0 0, .slice none 0 0, .int .i64 0, .int .i64 0, .slice none 0 0, .int .i64 0] 97)) := ⟨_, rfl⟩
  have hbA : Below w.heap.size w A := by rw [hA]; exact (by repeat (first | exact Below.refl _ _ | assumption | refine Below.drew ?_ | refine Below.alloc ?_ (by first | omega | (simp <;> omega)) _ | refine Below.setCell ?_ (by first | omega | (simp <;> omega)) _ | refine Below.trans ?_ (Below.mono (by assumption) (by first | omega | (simp <;> omega)))))
  have HBA := Lib.hid hbA
  have p0 : A.cell? ⟨w.heap.size, 0, none⟩ = some (.slice (some ⟨gh, 0, none⟩) 1 1) := by rw [hA]; simp [go_sem]
  have p1 : A.cell? ⟨w.heap.size, 1, none⟩ = some (.slice none 0 0) := by rw [hA]; simp [go_sem]
  have p2 : A.cell? ⟨w.heap.size, 2, none⟩ = some (.slice none 0 0) := by rw [hA]; simp [go_sem]
  have p3 : A.cell? ⟨w.heap.size, 3, none⟩ = some (.slice none 0 0) := by rw [hA]; simp [go_sem]
  have p4 : A.cell? ⟨w.heap.size, 4, none⟩ = some (.slice none 0 0) := by rw [hA]; simp [go_sem]
  have p5 : A.cell? ⟨w.heap.size, 5, none⟩ = some (.slice none 0 0) := by rw [hA]; simp [go_sem]
  have p6 : A.cell? ⟨w.heap.size, 6, none⟩ = some (.slice none 0 0) := by rw [hA]; simp [go_sem]
  have p7 : A.cell? ⟨w.heap.size, 7, none⟩ = some (.slice none 0 0) := by rw [hA]; simp [go_sem]
  have p8 : A.cell? ⟨w.heap.size, 8, none⟩ = some (.slice none 0 0) := by rw [hA]; simp [go_sem]
  have p9 : A.cell? ⟨w.heap.size, 9, none⟩ = some (.slice none 0 0) := by rw [hA]; simp [go_sem]
  have p10 : A.cell? ⟨w.heap.size, 10, none⟩ = some (.slice none 0 0) := by rw [hA]; simp [go_sem]
  have p11 : A.cell? ⟨w.heap.size, 11, none⟩ = some (.slice none 0 0) := by rw [hA]; simp [go_sem]
  have x0 : A.cell? ⟨w.heap.size + 1, 0, none⟩ = some (.int .i64 1) := by rw [hA]; simp [go_sem]
  have x1 : A.cell? ⟨w.heap.size + 1, 1, none⟩ = some (.int .i64 0) := by rw [hA]; simp [go_sem]
  have x2 : A.cell? ⟨w.heap.size + 1, 2, none⟩ = some (.slice none 0 0) := by rw [hA]; simp [go_sem]
  have x3 : A.cell? ⟨w.heap.size + 1, 3, none⟩ = some (.slice none 0 0) := by rw [hA]; simp [go_sem]
  have x4 : A.cell? ⟨w.heap.size + 1, 4, none⟩ = some (.slice none 0 0) := by rw [hA]; simp [go_sem]
  have x5 : A.cell? ⟨w.heap.size + 1, 5, none⟩ = some (.slice none 0 0) := by rw [hA]; simp [go_sem]
  have x6 : A.cell? ⟨w.heap.size + 1, 6, none⟩ = some (.int .i64 0) := by rw [hA]; simp [go_sem]
  have x7 : A.cell? ⟨w.heap.size + 1, 7, none⟩ = some (.int .i64 0) := by rw [hA]; simp [go_sem]
  have x8 : A.cell? ⟨w.heap.size + 1, 8, none⟩ = some (.slice none 0 0) := by rw [hA]; simp [go_sem]
  have x9 : A.cell? ⟨w.heap.size + 1, 9, none⟩ = some (.int .i64 0) := by rw [hA]; simp [go_sem]
  have r0 : A.cell? ⟨w.heap.size + 1 + 1, 0, none⟩ = some (.int .i64 0) := by rw [hA]; simp [go_sem]
  have r1 : A.cell? ⟨w.heap.size + 1 + 1, 1, none⟩ = some (.int .i64 0) := by rw [hA]; simp [go_sem]
  have r2 : A.cell? ⟨w.heap.size + 1 + 1, 2, none⟩ = some (.slice none 0 0) := by rw [hA]; simp [go_sem]
  have r3 : A.cell? ⟨w.heap.size + 1 + 1, 3, none⟩ = some (.slice none 0 0) := by rw [hA]; simp [go_sem]
  have r4 : A.cell? ⟨w.heap.size + 1 + 1, 4, none⟩ = some (.slice none 0 0) := by rw [hA]; simp [go_sem]
  have r5 : A.cell? ⟨w.heap.size + 1 + 1, 5, none⟩ = some (.slice none 0 0) := by rw [hA]; simp [go_sem]
  have r6 : A.cell? ⟨w.heap.size + 1 + 1, 6, none⟩ = some (.int .i64 0) := by rw [hA]; simp [go_sem]
  have r7 : A.cell? ⟨w.heap.size + 1 + 1, 7, none⟩ = some (.int .i64 0) := by rw [hA]; simp [go_sem]
  have r8 : A.cell? ⟨w.heap.size + 1 + 1, 8, none⟩ = some (.slice none 0 0) := by rw [hA]; simp [go_sem]
  have r9 : A.cell? ⟨w.heap.size + 1 + 1, 9, none⟩ = some (.int .i64 0) := by rw [hA]; simp [go_sem]
  have fz : ∀ b j, w.heap.size ≤ b → b < w.heap.size + 3 → A.frozen? ⟨b, j, none⟩ = false := by
    intro b j h1 h2
    rw [hA]
    rcases (show b = w.heap.size ∨ b = w.heap.size + 1 ∨ b = w.heap.size + 2 by omega) with rfl | rfl | rfl <;> simp [go_sem]
  have hlt : ∀ b, b < w.heap.size + 3 → b < A.heap.size := fun b hb => by rw [hA]; simp; omega
  have HLT := Lib.hid hlt
  have HFZ := Lib.hid fz
  clear hbA
  go_enter Try.func61, Try.ntmps61
  go_wp2_with fail
  rw [← hA]
  clear hA
  refine (HOW.out A).mono ?_
  rintro e w1 ⟨b0, b1, b2, rfl, hb1⟩
  clear HOW
  have k1 : ∀ b j, b < w.heap.size + 3 → w1.cell? ⟨b, j, none⟩ = A.cell? ⟨b, j, none⟩ := fun b j hb => hb1.cell (p := ⟨b, j, none⟩) (HLT.out b hb)
  have g1 : ∀ b j, w.heap.size ≤ b → b < w.heap.size + 3 → w1.frozen? ⟨b, j, none⟩ = false := fun b j h1 h2 => (hb1.frozen (p := ⟨b, j, none⟩) (HLT.out b h2)).trans (HFZ.out b j h1 h2)
  have G1 := Lib.hid g1
  have hs1 : w.heap.size + 3 ≤ w1.heap.size := by have := hb1.size; have := HLT.out (w.heap.size + 2) (by omega); omega
  have pp0 : w1.cell? ⟨w.heap.size, 0, none⟩ = some (.slice (some ⟨gh, 0, none⟩) 1 1) := (k1 _ _ (by omega)).trans p0
  have pp1 : w1.cell? ⟨w.heap.size, 1, none⟩ = some (.slice none 0 0) := (k1 _ _ (by omega)).trans p1
  have pp2 : w1.cell? ⟨w.heap.size, 2, none⟩ = some (.slice none 0 0) := (k1 _ _ (by omega)).trans p2
  have pp3 : w1.cell? ⟨w.heap.size, 3, none⟩ = some (.slice none 0 0) := (k1 _ _ (by omega)).trans p3
  have pp4 : w1.cell? ⟨w.heap.size, 4, none⟩ = some (.slice none 0 0) := (k1 _ _ (by omega)).trans p4
  have pp5 : w1.cell? ⟨w.heap.size, 5, none⟩ = some (.slice none 0 0) := (k1 _ _ (by omega)).trans p5
  have pp6 : w1.cell? ⟨w.heap.size, 6, none⟩ = some (.slice none 0 0) := (k1 _ _ (by omega)).trans p6
  have pp7 : w1.cell? ⟨w.heap.size, 7, none⟩ = some (.slice none 0 0) := (k1 _ _ (by omega)).trans p7
  have pp8 : w1.cell? ⟨w.heap.size, 8, none⟩ = some (.slice none 0 0) := (k1 _ _ (by omega)).trans p8
  have pp9 : w1.cell? ⟨w.heap.size, 9, none⟩ = some (.slice none 0 0) := (k1 _ _ (by omega)).trans p9
  have pp10 : w1.cell? ⟨w.heap.size, 10, none⟩ = some (.slice none 0 0) := (k1 _ _ (by omega)).trans p10
  have pp11 : w1.cell? ⟨w.heap.size, 11, none⟩ = some (.slice none 0 0) := (k1 _ _ (by omega)).trans p11
  have xx0 : w1.cell? ⟨w.heap.size + 1, 0, none⟩ = some (.int .i64 1) := (k1 _ _ (by omega)).trans x0
  have xx1 : w1.cell? ⟨w.heap.size + 1, 1, none⟩ = some (.int .i64 0) := (k1 _ _ (by omega)).trans x1
  have xx2 : w1.cell? ⟨w.heap.size + 1, 2, none⟩ = some (.slice none 0 0) := (k1 _ _ (by omega)).trans x2
  have xx3 : w1.cell? ⟨w.heap.size + 1, 3, none⟩ = some (.slice none 0 0) := (k1 _ _ (by omega)).trans x3
  have xx4 : w1.cell? ⟨w.heap.size + 1, 4, none⟩ = some (.slice none 0 0) := (k1 _ _ (by omega)).trans x4
  have xx5 : w1.cell? ⟨w.heap.size + 1, 5, none⟩ = some (.slice none 0 0) := (k1 _ _ (by omega)).trans x5
  have xx6 : w1.cell? ⟨w.heap.size + 1, 6, none⟩ = some (.int .i64 0) := (k1 _ _ (by omega)).trans x6
  have xx7 : w1.cell? ⟨w.heap.size + 1, 7, none⟩ = some (.int .i64 0) := (k1 _ _ (by omega)).trans x7
  have xx8 : w1.cell? ⟨w.heap.size + 1, 8, none⟩ = some (.slice none 0 0) := (k1 _ _ (by omega)).trans x8
  have xx9 : w1.cell? ⟨w.heap.size + 1, 9, none⟩ = some (.int .i64 0) := (k1 _ _ (by omega)).trans x9
  have rr0 : w1.cell? ⟨w.heap.size + 1 + 1, 0, none⟩ = some (.int .i64 0) := (k1 _ _ (by omega)).trans r0
  have rr1 : w1.cell? ⟨w.heap.size + 1 + 1, 1, none⟩ = some (.int .i64 0) := (k1 _ _ (by omega)).trans r1
  have rr2 : w1.cell? ⟨w.heap.size + 1 + 1, 2, none⟩ = some (.slice none 0 0) := (k1 _ _ (by omega)).trans r2
  have rr3 : w1.cell? ⟨w.heap.size + 1 + 1, 3, none⟩ = some (.slice none 0 0) := (k1 _ _ (by omega)).trans r3
  have rr4 : w1.cell? ⟨w.heap.size + 1 + 1, 4, none⟩ = some (.slice none 0 0) := (k1 _ _ (by omega)).trans r4
  have rr5 : w1.cell? ⟨w.heap.size + 1 + 1, 5, none⟩ = some (.slice none 0 0) := (k1 _ _ (by omega)).trans r5
  have rr6 : w1.cell? ⟨w.heap.size + 1 + 1, 6, none⟩ = some (.int .i64 0) := (k1 _ _ (by omega)).trans r6
  have rr7 : w1.cell? ⟨w.heap.size + 1 + 1, 7, none⟩ = some (.int .i64 0) := (k1 _ _ (by omega)).trans r7
  have rr8 : w1.cell? ⟨w.heap.size + 1 + 1, 8, none⟩ = some (.slice none 0 0) := (k1 _ _ (by omega)).trans r8
  have rr9 : w1.cell? ⟨w.heap.size + 1 + 1, 9, none⟩ = some (.int .i64 0) := (k1 _ _ (by omega)).trans r9
  have fx : ∀ j, w1.frozen? ⟨w.heap.size + 1, j, none⟩ = false := fun j => G1.out _ j (by omega) (by omega)
  have HB1 : Hid (Below w.heap.size w w1) := HBA.out.trans (hb1.mono HBA.out.size)
  clear hb1 k1 g1 fz hlt HBA HFZ HLT p0 p1 p2 p3 p4 p5 p6 p7 p8 p9 p10 p11 x0 x1 x2 x3 x4 x5 x6 x7 x8 x9 r0 r1 r2 r3 r4 r5 r6 r7 r8 r9
  go_wp2_with fail
  obtain ⟨B0, hB⟩ : ∃ B0, B0 = ((((((((((w1.setCell ⟨w.heap.size + 1, 0, none⟩ (.int .i64 1)).setCell ⟨w.heap.size + 1, 1, none⟩ (.int .i64 0)).setCell ⟨w.heap.size + 1, 2, none⟩ (.slice (some b0) 0 0)).setCell ⟨w.heap.size + 1, 3, none⟩ (.slice none 0 0)).setCell ⟨w.heap.size + 1, 4, none⟩ (.slice (some b2) 0 0)).setCell ⟨w.heap.size + 1, 5, none⟩ (.slice (some b1) 0 0)).setCell ⟨w.heap.size + 1, 6, none⟩ (.int .i64 0)).setCell ⟨w.heap.size + 1, 7, none⟩ (.int .i64 0)).setCell ⟨w.heap.size + 1, 8, none⟩ (.slice none 0 0)).setCell ⟨w.heap.size + 1, 9, none⟩ (.int .i64 0)) := ⟨_, rfl⟩
  have HBB : Hid (Below w.heap.size w B0) := by show Below _ _ _; rw [hB]; exact ((((((((((HB1.out.setCell (Nat.le_succ _) _).setCell (Nat.le_succ _) _).setCell (Nat.le_succ _) _).setCell (Nat.le_succ _) _).setCell (Nat.le_succ _) _).setCell (Nat.le_succ _) _).setCell (Nat.le_succ _) _).setCell (Nat.le_succ _) _).setCell (Nat.le_succ _) _).setCell (Nat.le_succ _) _)
  have bp0 : B0.cell? ⟨w.heap.size, 0, none⟩ = some (.slice (some ⟨gh, 0, none⟩) 1 1) := by rw [hB]; simp [go_sem, pp0]
  have bp1 : B0.cell? ⟨w.heap.size, 1, none⟩ = some (.slice none 0 0) := by rw [hB]; simp [go_sem, pp1]
  have bp2 : B0.cell? ⟨w.heap.size, 2, none⟩ = some (.slice none 0 0) := by rw [hB]; simp [go_sem, pp2]
  have bp3 : B0.cell? ⟨w.heap.size, 3, none⟩ = some (.slice none 0 0) := by rw [hB]; simp [go_sem, pp3]
  have bp4 : B0.cell? ⟨w.heap.size, 4, none⟩ = some (.slice none 0 0) := by rw [hB]; simp [go_sem, pp4]
  have bp5 : B0.cell? ⟨w.heap.size, 5, none⟩ = some (.slice none 0 0) := by rw [hB]; simp [go_sem, pp5]
  have bp6 : B0.cell? ⟨w.heap.size, 6, none⟩ = some (.slice none 0 0) := by rw [hB]; simp [go_sem, pp6]
  have bp7 : B0.cell? ⟨w.heap.size, 7, none⟩ = some (.slice none 0 0) := by rw [hB]; simp [go_sem, pp7]
  have bp8 : B0.cell? ⟨w.heap.size, 8, none⟩ = some (.slice none 0 0) := by rw [hB]; simp [go_sem, pp8]
  have bp9 : B0.cell? ⟨w.heap.size, 9, none⟩ = some (.slice none 0 0) := by rw [hB]; simp [go_sem, pp9]
  have bp10 : B0.cell? ⟨w.heap.size, 10, none⟩ = some (.slice none 0 0) := by rw [hB]; simp [go_sem, pp10]
  have bp11 : B0.cell? ⟨w.heap.size, 11, none⟩ = some (.slice none 0 0) := by rw [hB]; simp [go_sem, pp11]
  have bx0 : B0.cell? ⟨w.heap.size + 1, 0, none⟩ = some (.int .i64 1) := by rw [hB]; simp [go_sem, xx0, xx1, xx2, xx3, xx4, xx5, xx6, xx7, xx8, xx9]
  have bx1 : B0.cell? ⟨w.heap.size + 1, 1, none⟩ = some (.int .i64 0) := by rw [hB]; simp [go_sem, xx0, xx1, xx2, xx3, xx4, xx5, xx6, xx7, xx8, xx9]
  have bx2 : B0.cell? ⟨w.heap.size + 1, 2, none⟩ = some (.slice (some b0) 0 0) := by rw [hB]; simp [go_sem, xx0, xx1, xx2, xx3, xx4, xx5, xx6, xx7, xx8, xx9]
  have bx3 : B0.cell? ⟨w.heap.size + 1, 3, none⟩ = some (.slice none 0 0) := by rw [hB]; simp [go_sem, xx0, xx1, xx2, xx3, xx4, xx5, xx6, xx7, xx8, xx9]
  have bx4 : B0.cell? ⟨w.heap.size + 1, 4, none⟩ = some (.slice (some b2) 0 0) := by rw [hB]; simp [go_sem, xx0, xx1, xx2, xx3, xx4, xx5, xx6, xx7, xx8, xx9]
  have bx5 : B0.cell? ⟨w.heap.size + 1, 5, none⟩ = some (.slice (some b1) 0 0) := by rw [hB]; simp [go_sem, xx0, xx1, xx2, xx3, xx4, xx5, xx6, xx7, xx8, xx9]
  have bx6 : B0.cell? ⟨w.heap.size + 1, 6, none⟩ = some (.int .i64 0) := by rw [hB]; simp [go_sem, xx0, xx1, xx2, xx3, xx4, xx5, xx6, xx7, xx8, xx9]
  have bx7 : B0.cell? ⟨w.heap.size + 1, 7, none⟩ = some (.int .i64 0) := by rw [hB]; simp [go_sem, xx0, xx1, xx2, xx3, xx4, xx5, xx6, xx7, xx8, xx9]
  have bx8 : B0.cell? ⟨w.heap.size + 1, 8, none⟩ = some (.slice none 0 0) := by rw [hB]; simp [go_sem, xx0, xx1, xx2, xx3, xx4, xx5, xx6, xx7, xx8, xx9]
  have bx9 : B0.cell? ⟨w.heap.size + 1, 9, none⟩ = some (.int .i64 0) := by rw [hB]; simp [go_sem, xx0, xx1, xx2, xx3, xx4, xx5, xx6, xx7, xx8, xx9]
  have br0 : B0.cell? ⟨w.heap.size + 1 + 1, 0, none⟩ = some (.int .i64 0) := by rw [hB]; simp [go_sem, rr0]
  have br1 : B0.cell? ⟨w.heap.size + 1 + 1, 1, none⟩ = some (.int .i64 0) := by rw [hB]; simp [go_sem, rr1]
  have br2 : B0.cell? ⟨w.heap.size + 1 + 1, 2, none⟩ = some (.slice none 0 0) := by rw [hB]; simp [go_sem, rr2]
  have br3 : B0.cell? ⟨w.heap.size + 1 + 1, 3, none⟩ = some (.slice none 0 0) := by rw [hB]; simp [go_sem, rr3]
  have br4 : B0.cell? ⟨w.heap.size + 1 + 1, 4, none⟩ = some (.slice none 0 0) := by rw [hB]; simp [go_sem, rr4]
  have br5 : B0.cell? ⟨w.heap.size + 1 + 1, 5, none⟩ = some (.slice none 0 0) := by rw [hB]; simp [go_sem, rr5]
  have br6 : B0.cell? ⟨w.heap.size + 1 + 1, 6, none⟩ = some (.int .i64 0) := by rw [hB]; simp [go_sem, rr6]
  have br7 : B0.cell? ⟨w.heap.size + 1 + 1, 7, none⟩ = some (.int .i64 0) := by rw [hB]; simp [go_sem, rr7]
  have br8 : B0.cell? ⟨w.heap.size + 1 + 1, 8, none⟩ = some (.slice none 0 0) := by rw [hB]; simp [go_sem, rr8]
  have br9 : B0.cell? ⟨w.heap.size + 1 + 1, 9, none⟩ = some (.int .i64 0) := by rw [hB]; simp [go_sem, rr9]
  have hbs : w.heap.size + 3 ≤ B0.heap.size := by rw [hB]; simpa [World.setCell] using hs1
  have HFB : Hid (∀ b j, w.heap.size ≤ b → b < w.heap.size + 3 → B0.frozen? ⟨b, j, none⟩ = false) := fun b j h1 h2 => by rw [hB]; simp only [World.frozen?_setCell]; exact G1.out b j h1 h2
  rw [← hB]
  clear hB fx G1 HB1 hs1 pp0 pp1 pp2 pp3 pp4 pp5 pp6 pp7 pp8 pp9 pp10 pp11 xx0 xx1 xx2 xx3 xx4 xx5 xx6 xx7 xx8 xx9 rr0 rr1 rr2 rr3 rr4 rr5 rr6 rr7 rr8 rr9
  refine (HSZ.out B0 HBB.out).mono ?_
  rintro e w2 ⟨rfl, hb2⟩
  have k2 : ∀ b j, b < w.heap.size + 3 → w2.cell? ⟨b, j, none⟩ = B0.cell? ⟨b, j, none⟩ := fun b j hb => hb2.cell (p := ⟨b, j, none⟩) (by show b < _; omega)
  have cp0 : w2.cell? ⟨w.heap.size, 0, none⟩ = some (.slice (some ⟨gh, 0, none⟩) 1 1) := (k2 _ _ (by omega)).trans bp0
  have cp1 : w2.cell? ⟨w.heap.size, 1, none⟩ = some (.slice none 0 0) := (k2 _ _ (by omega)).trans bp1
  have cp2 : w2.cell? ⟨w.heap.size, 2, none⟩ = some (.slice none 0 0) := (k2 _ _ (by omega)).trans bp2
  have cp3 : w2.cell? ⟨w.heap.size, 3, none⟩ = some (.slice none 0 0) := (k2 _ _ (by omega)).trans bp3
  have cp4 : w2.cell? ⟨w.heap.size, 4, none⟩ = some (.slice none 0 0) := (k2 _ _ (by omega)).trans bp4
  have cp5 : w2.cell? ⟨w.heap.size, 5, none⟩ = some (.slice none 0 0) := (k2 _ _ (by omega)).trans bp5
  have cp6 : w2.cell? ⟨w.heap.size, 6, none⟩ = some (.slice none 0 0) := (k2 _ _ (by omega)).trans bp6
  have cp7 : w2.cell? ⟨w.heap.size, 7, none⟩ = some (.slice none 0 0) := (k2 _ _ (by omega)).trans bp7
  have cp8 : w2.cell? ⟨w.heap.size, 8, none⟩ = some (.slice none 0 0) := (k2 _ _ (by omega)).trans bp8
  have cp9 : w2.cell? ⟨w.heap.size, 9, none⟩ = some (.slice none 0 0) := (k2 _ _ (by omega)).trans bp9
  have cp10 : w2.cell? ⟨w.heap.size, 10, none⟩ = some (.slice none 0 0) := (k2 _ _ (by omega)).trans bp10
  have cp11 : w2.cell? ⟨w.heap.size, 11, none⟩ = some (.slice none 0 0) := (k2 _ _ (by omega)).trans bp11
  have HB2 : Hid (Below w.heap.size w w2) := HBB.out.trans (hb2.mono HBB.out.size)
  have HB02 := Lib.hid hb2
  clear hb2 k2 HSZ
  go_wp2_with fail
  refine (HSI.out w2 HB2.out).mono ?_
  rintro e w3 ⟨rfl, hb3⟩
  have HB03 : Hid (Below B0.heap.size B0 w3) := HB02.out.trans (hb3.mono HB02.out.size)
  have HB3 : Hid (Below w.heap.size w w3) := HB2.out.trans (hb3.mono HB2.out.size)
  have k3 : ∀ b j, b < w.heap.size + 3 → w3.cell? ⟨b, j, none⟩ = B0.cell? ⟨b, j, none⟩ := fun b j hb => HB03.out.cell (p := ⟨b, j, none⟩) (by show b < _; omega)
  have f3x : ∀ j, w3.frozen? ⟨w.heap.size + 1, j, none⟩ = false := fun j => (HB03.out.frozen (p := ⟨w.heap.size + 1, j, none⟩) (by show _ + 1 < _; omega)).trans (HFB.out _ j (by omega) (by omega))
  have f3r : ∀ j, w3.frozen? ⟨w.heap.size + 1 + 1, j, none⟩ = false := fun j => (HB03.out.frozen (p := ⟨w.heap.size + 1 + 1, j, none⟩) (by show _ + 1 + 1 < _; omega)).trans (HFB.out _ j (by omega) (by omega))
  have dx0 : w3.cell? ⟨w.heap.size + 1, 0, none⟩ = some (.int .i64 1) := (k3 _ _ (by omega)).trans bx0
  have dx1 : w3.cell? ⟨w.heap.size + 1, 1, none⟩ = some (.int .i64 0) := (k3 _ _ (by omega)).trans bx1
  have dx2 : w3.cell? ⟨w.heap.size + 1, 2, none⟩ = some (.slice (some b0) 0 0) := (k3 _ _ (by omega)).trans bx2
  have dx3 : w3.cell? ⟨w.heap.size + 1, 3, none⟩ = some (.slice none 0 0) := (k3 _ _ (by omega)).trans bx3
  have dx4 : w3.cell? ⟨w.heap.size + 1, 4, none⟩ = some (.slice (some b2) 0 0) := (k3 _ _ (by omega)).trans bx4
  have dx5 : w3.cell? ⟨w.heap.size + 1, 5, none⟩ = some (.slice (some b1) 0 0) := (k3 _ _ (by omega)).trans bx5
  have dx6 : w3.cell? ⟨w.heap.size + 1, 6, none⟩ = some (.int .i64 0) := (k3 _ _ (by omega)).trans bx6
  have dx7 : w3.cell? ⟨w.heap.size + 1, 7, none⟩ = some (.int .i64 0) := (k3 _ _ (by omega)).trans bx7
  have dx8 : w3.cell? ⟨w.heap.size + 1, 8, none⟩ = some (.slice none 0 0) := (k3 _ _ (by omega)).trans bx8
  have dx9 : w3.cell? ⟨w.heap.size + 1, 9, none⟩ = some (.int .i64 0) := (k3 _ _ (by omega)).trans bx9
  have dr0 : w3.cell? ⟨w.heap.size + 1 + 1, 0, none⟩ = some (.int .i64 0) := (k3 _ _ (by omega)).trans br0
  have dr1 : w3.cell? ⟨w.heap.size + 1 + 1, 1, none⟩ = some (.int .i64 0) := (k3 _ _ (by omega)).trans br1
  have dr2 : w3.cell? ⟨w.heap.size + 1 + 1, 2, none⟩ = some (.slice none 0 0) := (k3 _ _ (by omega)).trans br2
  have dr3 : w3.cell? ⟨w.heap.size + 1 + 1, 3, none⟩ = some (.slice none 0 0) := (k3 _ _ (by omega)).trans br3
  have dr4 : w3.cell? ⟨w.heap.size + 1 + 1, 4, none⟩ = some (.slice none 0 0) := (k3 _ _ (by omega)).trans br4
  have dr5 : w3.cell? ⟨w.heap.size + 1 + 1, 5, none⟩ = some (.slice none 0 0) := (k3 _ _ (by omega)).trans br5
  have dr6 : w3.cell? ⟨w.heap.size + 1 + 1, 6, none⟩ = some (.int .i64 0) := (k3 _ _ (by omega)).trans br6
  have dr7 : w3.cell? ⟨w.heap.size + 1 + 1, 7, none⟩ = some (.int .i64 0) := (k3 _ _ (by omega)).trans br7
  have dr8 : w3.cell? ⟨w.heap.size + 1 + 1, 8, none⟩ = some (.slice none 0 0) := (k3 _ _ (by omega)).trans br8
  have dr9 : w3.cell? ⟨w.heap.size + 1 + 1, 9, none⟩ = some (.int .i64 0) := (k3 _ _ (by omega)).trans br9
  clear hb3 k3 HSI HB2 HB02 HB03 HBB HFB hbs HHW bp0 bp1 bp2 bp3 bp4 bp5 bp6 bp7 bp8 bp9 bp10 bp11 bx0 bx1 bx2 bx3 bx4 bx5 bx6 bx7 bx8 bx9 br0 br1 br2 br3 br4 br5 br6 br7 br8 br9 cp0 cp1 cp2 cp3 cp4 cp5 cp6 cp7 cp8 cp9 cp10 cp11
  have HHS := Lib.hid (hasF_none (w.heap.size + 1) none 0 h w3 dx3)
  cases yes
  all_goals
    go_wp2_with (go_at_call 120; (with_reducible refine HHS.out.mono ?_); rintro e w4 ⟨rfl, rfl⟩)
    refine bodyPost_ret (v := .tuple #[.agg #[.int .i64 0, .int .i64 0, .slice (some b0) 0 0, .slice none 0 0, .slice (some b2) 0 0, .slice (some b1) 0 0, .int .i64 0, .int .i64 0, .slice none 0 0, .int .i64 0], .int .i64 1]) (by simp [results, Try.results61, go_sem, dr0, dr1, dr2, dr3, dr4, dr5, dr6, dr7, dr8, dr9]) rfl ?_
    refine ⟨b0, b1, b2, rfl, ?_⟩
    exact (((((((((((HB3.out.setCell (Nat.le_succ _) _).setCell (Nat.le_add_right _ 2) _).setCell (Nat.le_add_right _ 2) _).setCell (Nat.le_add_right _ 2) _).setCell (Nat.le_add_right _ 2) _).setCell (Nat.le_add_right _ 2) _).setCell (Nat.le_add_right _ 2) _).setCell (Nat.le_add_right _ 2) _).setCell (Nat.le_add_right _ 2) _).setCell (Nat.le_add_right _ 2) _).setCell (Nat.le_add_right _ 2) _)

/-! ### Get, Set, Valid of what has no header -/
set_option maxRecDepth 100000 in
set_option maxHeartbeats 400000 in
theorem get_nil (sp : Value) (h f : Int) (W : World) : Calls Try.prog 62 #[sp, .pointer none, .int .i64 h, .int .i64 f] W fun e w' => e = .returned (.slice none 0 0) ∧ W = w' := by
  have H := Lib.hid (isF_nil h f W)
  go_enter Try.func62, Try.ntmps62
  go_wp2_with ((with_reducible refine H.out.mono ?_); rintro e w1 ⟨rfl, rfl⟩)
  go_ret
  exact ⟨rfl, rfl⟩
set_option maxRecDepth 100000 in
set_option maxHeartbeats 400000 in
theorem get_none (sp : Value) (g : Nat) (pv : Option Addr) (cv : Nat) (h f : Int) (W : World) (c3 : W.cell? ⟨g, 3, none⟩ = some (.slice pv 0 cv)) : Calls Try.prog 62 #[sp, .pointer (some ⟨g, 0, none⟩), .int .i64 h, .int .i64 f] W fun e w' => e = .returned (.slice none 0 0) ∧ W = w' := by
  have H := Lib.hid (isF_none g pv cv h f W c3)
  go_enter Try.func62, Try.ntmps62
  go_wp2_with ((with_reducible refine H.out.mono ?_); rintro e w1 ⟨rfl, rfl⟩)
  go_ret
  exact ⟨rfl, rfl⟩
set_option maxRecDepth 100000 in
set_option maxHeartbeats 400000 in
theorem set_none (gh : Nat) (sp va : Value) (g : Nat) (pv : Option Addr) (cv : Nat) (h f : Int) (W : World) (c3 : W.cell? ⟨g, 3, none⟩ = some (.slice pv 0 cv)) : Calls Try.prog 63 #[.agg #[.slice (some ⟨gh, 0, none⟩) 1 1, .slice none 0 0, .slice none 0 0, .slice none 0 0, .slice none 0 0, .slice none 0 0, .slice none 0 0, .slice none 0 0, .slice none 0 0, .slice none 0 0, .slice none 0 0, .slice none 0 0], sp, .pointer (some ⟨g, 0, none⟩), .int .i64 h, .int .i64 f, va] W fun e w' => e = .returned (.tuple #[]) ∧ Below W.heap.size W w' := by
  have H : Hid (∀ o, Calls Try.prog 121 #[.pointer (some ⟨g, 0, none⟩), .int .i64 h, .int .i64 f] (W.alloc o) fun e w' => e = .returned (.bool false) ∧ (W.alloc o) = w') := fun o => isF_none g pv cv h f _ ((World.cell?_alloc_lt W o ⟨g, 3, none⟩ (cell_there c3).1).trans c3)
  clear c3
  go_enter Try.func63, Try.ntmps63
  go_wp2_with fail
  refine (H.out _).mono ?_
  rintro e w1 ⟨rfl, rfl⟩
  go_wp2_with fail
  refine bodyPost_ret (results_none rfl _ _ _) rfl ?_
  exact ⟨rfl, (by repeat (first | exact Below.refl _ _ | assumption | refine Below.drew ?_ | refine Below.alloc ?_ (by first | omega | (simp <;> omega)) _ | refine Below.setCell ?_ (by first | omega | (simp <;> omega)) _ | refine Below.trans ?_ (Below.mono (by assumption) (by first | omega | (simp <;> omega)))))⟩
set_option maxRecDepth 100000 in
set_option maxHeartbeats 400000 in
theorem valid_none (sp : Value) (g : Nat) (pv : Option Addr) (cv : Nat) (h : Int) (W : World) (c3 : W.cell? ⟨g, 3, none⟩ = some (.slice pv 0 cv)) : Calls Try.prog 64 #[sp, .pointer (some ⟨g, 0, none⟩), .int .i64 h, .bool true] W fun e w' => e = .returned (.tuple #[]) ∧ W = w' := by
  have H := Lib.hid (hasF_none g pv cv h W c3)
  clear c3
  go_enter Try.func64, Try.ntmps64
  go_wp2_with ((with_reducible refine H.out.mono ?_); rintro e w1 ⟨rfl, rfl⟩)
  go_end0
  exact ⟨rfl, rfl⟩

end Go.Proofs.Ytlnkflmnjkmhkaa




























