/-
  flow.Body whole; the law's two examples.
-/
import Derived.Test.YtfhleldmkhllaaaFlowI
import Derived.Test.YtfhleldmkhllaaaFlowC
namespace Go.Proofs.Ytfhleldmkhllaaa
open Go.RowKit Go.Maps Flow

theorem body_any (v : Value) (X : Nat → Prop) (l : List Ins) (w : World) (hv : InsRow w X v l) (hlen : l.length * 56 ≤ 140737488355328) (hcl : ∀ j, j < l.length → (at' l j).e.length * 48 ≤ 140737488355328) :
    Calls Try.prog 6 #[v] w fun e W' => ∃ v', e = .returned v' ∧ InsRow W' Any v' (bodyR l) ∧ Below w.heap.size w W' := by
  unfold bodyR
  by_cases hf : Fwd l
  · rw [if_pos hf]
    by_cases h0 : l.length = 0
    · have : l = [] := List.length_eq_zero_iff.1 h0
      subst this
      exact body_own v X [] w hv hlen hcl (.inr rfl)
    · exact body_lays v X l w hv hlen hcl hf (by omega)
  · rw [if_neg hf]
    exact body_own v X l w hv hlen hcl (.inl hf)

def dropI : Ins := ⟨4, 0, 0, [], 0⟩
def ex1 : List Ins := [⟨8, 0, 0, [], 2⟩, dropI, dropI]
def port : Nod := ⟨5, 9, 0, 0, 0, 0⟩
def ex2 : List Ins := [⟨7, 0, 0, [port, port, ⟨18, 1, 0, 0, 0, 0⟩], 1⟩, dropI]
theorem fwd1 : Fwd ex1 := by
  intro i hi hj
  match i, hi with
  | 0, _ => decide
  | 1, _ => exact absurd hj (by decide)
  | 2, _ => exact absurd hj (by decide)
theorem fwd2 : Fwd ex2 := by
  intro i hi hj
  match i, hi with
  | 0, _ => decide
  | 1, _ => exact absurd hj (by decide)
theorem ex1_body : bodyR ex1 = [dropI] := by
  unfold bodyR
  rw [if_pos fwd1]
  decide +kernel
theorem ex2_body : bodyR ex2 = [dropI] := by
  unfold bodyR
  rw [if_pos fwd2]
  decide +kernel

theorem row1 {W : World} {g : Nat} (h : W.heap[g]? = some (.cells #[.int .u8 8, .int .i64 0, .int .i64 0, .slice none 0 0, .int .i64 2, .int .u8 4, .int .i64 0, .int .i64 0, .slice none 0 0, .int .i64 0, .int .u8 4, .int .i64 0, .int .i64 0, .slice none 0 0, .int .i64 0] 30 (0, 0))) : InsRow W Any (.slice (some ⟨g, 0, none⟩) 3 3) ex1 := by
  have hlt : g < W.heap.size := (Array.getElem?_eq_some_iff.1 h).1
  have hc : ∀ i, W.cell? ⟨g, i, none⟩ = _ := fun i => by simp only [World.cell?, h]; rfl
  refine ⟨_, 3, rfl, by decide, by decide, fun e => by simp at e, fun _ => ⟨g, 0, rfl, hlt, fun j hj => ?_⟩⟩
  match j, hj with
  | 0, _ => exact ⟨hc _, hc _, hc _, ⟨_, hc _, CodeAt.nil _ _⟩, hc _⟩
  | 1, _ => exact ⟨hc _, hc _, hc _, ⟨_, hc _, CodeAt.nil _ _⟩, hc _⟩
  | 2, _ => exact ⟨hc _, hc _, hc _, ⟨_, hc _, CodeAt.nil _ _⟩, hc _⟩
theorem row2 {W : World} {g gc : Nat} (h : W.heap[g]? = some (.cells #[.int .u8 7, .int .i64 0, .int .i64 0, .slice (some ⟨gc, 0, none⟩) 3 3, .int .i64 1, .int .u8 4, .int .i64 0, .int .i64 0, .slice none 0 0, .int .i64 0] 30 (0, 0)))
    (h2 : W.heap[gc]? = some (.cells #[.int .u8 5, .int .i64 9, .int .i64 0, .int .i64 0, .int .u64 0, .int .u64 0, .int .u8 5, .int .i64 9, .int .i64 0, .int .i64 0, .int .u64 0, .int .u64 0, .int .u8 18, .int .i64 1, .int .i64 0, .int .i64 0, .int .u64 0, .int .u64 0] 37 (0, 0))) : InsRow W Any (.slice (some ⟨g, 0, none⟩) 2 2) ex2 := by
  have hlt : g < W.heap.size := (Array.getElem?_eq_some_iff.1 h).1
  have hlt2 : gc < W.heap.size := (Array.getElem?_eq_some_iff.1 h2).1
  have hc : ∀ i, W.cell? ⟨g, i, none⟩ = _ := fun i => by simp only [World.cell?, h]; rfl
  have hd : ∀ i, W.cell? ⟨gc, i, none⟩ = _ := fun i => by simp only [World.cell?, h2]; rfl
  refine ⟨_, 2, rfl, by decide, by decide, fun e => by simp at e, fun _ => ⟨g, 0, rfl, hlt, fun j hj => ?_⟩⟩
  match j, hj with
  | 0, _ =>
    refine ⟨hc _, hc _, hc _, ⟨_, hc _, ⟨_, 3, rfl, by decide, by decide, fun e => by simp at e, fun _ => ⟨gc, 0, rfl, hlt2, trivial, fun j hj => ?_⟩⟩⟩, hc _⟩
    match j, hj with
    | 0, _ => exact ⟨hd _, hd _, hd _, hd _, hd _, hd _⟩
    | 1, _ => exact ⟨hd _, hd _, hd _, hd _, hd _, hd _⟩
    | 2, _ => exact ⟨hd _, hd _, hd _, hd _, hd _, hd _⟩
  | 1, _ => exact ⟨hc _, hc _, hc _, ⟨_, hc _, CodeAt.nil _ _⟩, hc _⟩
theorem row3 {W : World} {g : Nat} (h : W.heap[g]? = some (.cells #[.int .u8 4, .int .i64 0, .int .i64 0, .slice none 0 0, .int .i64 0] 30 (0, 0))) : InsRow W Any (.slice (some ⟨g, 0, none⟩) 1 1) [dropI] := by
  have hlt : g < W.heap.size := (Array.getElem?_eq_some_iff.1 h).1
  have hc : ∀ i, W.cell? ⟨g, i, none⟩ = _ := fun i => by simp only [World.cell?, h]; rfl
  refine ⟨_, 1, rfl, by decide, by decide, fun e => by simp at e, fun _ => ⟨g, 0, rfl, hlt, fun j hj => ?_⟩⟩
  match j, hj with
  | 0, _ => exact ⟨hc _, hc _, hc _, ⟨_, hc _, CodeAt.nil _ _⟩, hc _⟩
theorem code1 : ∀ j, j < ex1.length → (at' ex1 j).e.length * 48 ≤ 140737488355328 := by
  intro j hj
  match j, hj with
  | 0, _ => decide
  | 1, _ => decide
  | 2, _ => decide
theorem code2 : ∀ j, j < ex2.length → (at' ex2 j).e.length * 48 ≤ 140737488355328 := by
  intro j hj
  match j, hj with
  | 0, _ => decide
  | 1, _ => decide
theorem code3 : ∀ j, j < [dropI].length → (at' [dropI] j).e.length ≤ 1000000000000000 := by
  intro j hj
  match j, hj with
  | 0, _ => decide

theorem one {w : World} {a : Obj} {W : World} (h : w.alloc a = W) : W.heap.size = w.heap.size + 1 ∧ W.heap[w.heap.size]? = some a ∧ Below w.heap.size w W := by
  subst h
  exact ⟨by simp, heap_alloc_new _ _, (Below.refl _ _).alloc (Nat.le_refl _) _⟩
theorem three {w : World} {a b c : Obj} {W : World} (h : ((w.alloc a).alloc b).alloc c = W) : W.heap.size = w.heap.size + 1 + 1 + 1 ∧ W.heap[w.heap.size]? = some a ∧ W.heap[w.heap.size + 1]? = some b ∧ W.heap[w.heap.size + 1 + 1]? = some c ∧ Below w.heap.size w W := by
  obtain ⟨s1, x1, b1⟩ := one (rfl : w.alloc a = _)
  obtain ⟨s2, x2, b2⟩ := one (rfl : (w.alloc a).alloc b = _)
  obtain ⟨s3, x3, b3⟩ := one h
  have b23 := b2.trans (b3.mono (by omega))
  refine ⟨by omega, (b23.block _ (by omega)).trans x1, ?_, ?_, b1.trans (b23.mono (by omega))⟩
  · rw [s1] at x2
    exact (b3.block _ (by omega)).trans x2
  · rw [s2, s1] at x3
    exact x3
theorem two {w : World} {a b : Obj} {W : World} (h : (w.alloc a).alloc b = W) : W.heap.size = w.heap.size + 1 + 1 ∧ W.heap[w.heap.size]? = some a ∧ W.heap[w.heap.size + 1]? = some b ∧ Below w.heap.size w W := by
  obtain ⟨s1, x1, b1⟩ := one (rfl : w.alloc a = _)
  obtain ⟨s2, x2, b2⟩ := one h
  refine ⟨by omega, (b2.block _ (by omega)).trans x1, ?_, b1.trans (b2.mono (by omega))⟩
  rw [s1] at x2
  exact x2

set_option maxRecDepth 100000 in
set_option maxHeartbeats 4000000 in
theorem known_law (w : World) : Calls Try.prog 5 #[] w fun e w' => e = .returned (.bool true) ∧ Below w.heap.size w w' := by
  have HB1 : Hid (∀ (v : Value) (W : World), InsRow W Any v ex1 → Calls Try.prog 6 #[v] W fun e W' => ∃ v', e = .returned v' ∧ InsRow W' Any v' [dropI] ∧ Below W.heap.size W W') := by
    intro v W hv
    have := body_any v Any ex1 W hv (by decide) code1
    rw [ex1_body] at this
    exact this
  have HB2 : Hid (∀ (v : Value) (W : World), InsRow W Any v ex2 → Calls Try.prog 6 #[v] W fun e W' => ∃ v', e = .returned v' ∧ InsRow W' Any v' [dropI] ∧ Below W.heap.size W W') := by
    intro v W hv
    have := body_any v Any ex2 W hv (by decide) code2
    rw [ex2_body] at this
    exact this
  have HS := Lib.hid sameinsts_any
  go_enter Try.func5, Try.ntmps5
  go_wp2_with fail
  generalize hW : World.alloc _ _ = W0
  obtain ⟨hs0, x0, y0, b0, hbw⟩ := three hW
  have HBW := Lib.hid hbw
  have HX0 := Lib.hid x0
  have HY0 := Lib.hid y0
  clear hW hbw x0 y0
  refine (HB1.out _ _ (row1 b0)).mono ?_
  rintro e w1 ⟨v1, rfl, hr1, hb1⟩
  obtain ⟨p1, ca1, rfl⟩ := hr1.shape
  have HR1 := Lib.hid hr1
  have HB1W := Lib.hid hb1
  have x1 : w1.heap[w.heap.size]? = some (.cells #[.int .u8 4, .int .i64 0, .int .i64 0, .slice none 0 0, .int .i64 0] 30 (0, 0)) := (hb1.block _ (by omega)).trans HX0.out
  have y1 : w1.heap[w.heap.size + 1]? = some (.cells #[.int .u8 5, .int .i64 9, .int .i64 0, .int .i64 0, .int .u64 0, .int .u64 0] 37 (0, 0)) := (hb1.block _ (by omega)).trans HY0.out
  have HX1 := Lib.hid x1
  have hs1 : W0.heap.size ≤ w1.heap.size := hb1.size
  have cx0 : w1.cell? ⟨w.heap.size, 0, none⟩ = some (.int .u8 4) := (by simp [World.cell?, x1])
  have cx1 : w1.cell? ⟨w.heap.size, 1, none⟩ = some (.int .i64 0) := (by simp [World.cell?, x1])
  have cx2 : w1.cell? ⟨w.heap.size, 2, none⟩ = some (.int .i64 0) := (by simp [World.cell?, x1])
  have cx3 : w1.cell? ⟨w.heap.size, 3, none⟩ = some (.slice none 0 0) := (by simp [World.cell?, x1])
  have cx4 : w1.cell? ⟨w.heap.size, 4, none⟩ = some (.int .i64 0) := (by simp [World.cell?, x1])
  have cy0 : w1.cell? ⟨w.heap.size + 1, 0, none⟩ = some (.int .u8 5) := (by simp [World.cell?, y1])
  have cy1 : w1.cell? ⟨w.heap.size + 1, 1, none⟩ = some (.int .i64 9) := (by simp [World.cell?, y1])
  have cy2 : w1.cell? ⟨w.heap.size + 1, 2, none⟩ = some (.int .i64 0) := (by simp [World.cell?, y1])
  have cy3 : w1.cell? ⟨w.heap.size + 1, 3, none⟩ = some (.int .i64 0) := (by simp [World.cell?, y1])
  have cy4 : w1.cell? ⟨w.heap.size + 1, 4, none⟩ = some (.int .u64 0) := (by simp [World.cell?, y1])
  have cy5 : w1.cell? ⟨w.heap.size + 1, 5, none⟩ = some (.int .u64 0) := (by simp [World.cell?, y1])
  have hlt1 : w.heap.size < w1.heap.size := by omega
  have cu0 : (w1.alloc (.cells #[.int .u8 5, .int .i64 9, .int .i64 0, .int .i64 0, .int .u64 0, .int .u64 0, .int .u8 5, .int .i64 9, .int .i64 0, .int .i64 0, .int .u64 0, .int .u64 0, .int .u8 18, .int .i64 1, .int .i64 0, .int .i64 0, .int .u64 0, .int .u64 0] 37)).cell? ⟨w.heap.size, 0, none⟩ = some (.int .u8 4) := (Below.cell ((Below.refl w1.heap.size w1).alloc (Nat.le_refl _) _) hlt1).trans cx0
  have cu1 : (w1.alloc (.cells #[.int .u8 5, .int .i64 9, .int .i64 0, .int .i64 0, .int .u64 0, .int .u64 0, .int .u8 5, .int .i64 9, .int .i64 0, .int .i64 0, .int .u64 0, .int .u64 0, .int .u8 18, .int .i64 1, .int .i64 0, .int .i64 0, .int .u64 0, .int .u64 0] 37)).cell? ⟨w.heap.size, 1, none⟩ = some (.int .i64 0) := (Below.cell ((Below.refl w1.heap.size w1).alloc (Nat.le_refl _) _) hlt1).trans cx1
  have cu2 : (w1.alloc (.cells #[.int .u8 5, .int .i64 9, .int .i64 0, .int .i64 0, .int .u64 0, .int .u64 0, .int .u8 5, .int .i64 9, .int .i64 0, .int .i64 0, .int .u64 0, .int .u64 0, .int .u8 18, .int .i64 1, .int .i64 0, .int .i64 0, .int .u64 0, .int .u64 0] 37)).cell? ⟨w.heap.size, 2, none⟩ = some (.int .i64 0) := (Below.cell ((Below.refl w1.heap.size w1).alloc (Nat.le_refl _) _) hlt1).trans cx2
  have cu3 : (w1.alloc (.cells #[.int .u8 5, .int .i64 9, .int .i64 0, .int .i64 0, .int .u64 0, .int .u64 0, .int .u8 5, .int .i64 9, .int .i64 0, .int .i64 0, .int .u64 0, .int .u64 0, .int .u8 18, .int .i64 1, .int .i64 0, .int .i64 0, .int .u64 0, .int .u64 0] 37)).cell? ⟨w.heap.size, 3, none⟩ = some (.slice none 0 0) := (Below.cell ((Below.refl w1.heap.size w1).alloc (Nat.le_refl _) _) hlt1).trans cx3
  have cu4 : (w1.alloc (.cells #[.int .u8 5, .int .i64 9, .int .i64 0, .int .i64 0, .int .u64 0, .int .u64 0, .int .u8 5, .int .i64 9, .int .i64 0, .int .i64 0, .int .u64 0, .int .u64 0, .int .u8 18, .int .i64 1, .int .i64 0, .int .i64 0, .int .u64 0, .int .u64 0] 37)).cell? ⟨w.heap.size, 4, none⟩ = some (.int .i64 0) := (Below.cell ((Below.refl w1.heap.size w1).alloc (Nat.le_refl _) _) hlt1).trans cx4
  clear b0 hb1 hr1 x1 y1 cx0 cx1 cx2 cx3 cx4
  go_wp2_with fail
  generalize hW : World.alloc _ _ = W2
  obtain ⟨hs2, x2, y2, hbw2⟩ := two hW
  have HBW2 := Lib.hid hbw2
  clear hW hbw2
  refine (HB2.out _ _ (row2 y2 x2)).mono ?_
  rintro e w3 ⟨v3, rfl, hr3, hb3⟩
  obtain ⟨p3, ca3, rfl⟩ := hr3.shape
  have HR3 := Lib.hid hr3
  have HB3W := Lib.hid (HBW2.out.trans (hb3.mono HBW2.out.size))
  have hs3 : w1.heap.size ≤ w3.heap.size := HB3W.out.size
  have x3 : w3.heap[w.heap.size]? = some (.cells #[.int .u8 4, .int .i64 0, .int .i64 0, .slice none 0 0, .int .i64 0] 30 (0, 0)) := (HB3W.out.block _ (by omega)).trans HX1.out
  have HX3 := Lib.hid x3
  have cz0 : w3.cell? ⟨w.heap.size, 0, none⟩ = some (.int .u8 4) := (by simp [World.cell?, x3])
  have cz1 : w3.cell? ⟨w.heap.size, 1, none⟩ = some (.int .i64 0) := (by simp [World.cell?, x3])
  have cz2 : w3.cell? ⟨w.heap.size, 2, none⟩ = some (.int .i64 0) := (by simp [World.cell?, x3])
  have cz3 : w3.cell? ⟨w.heap.size, 3, none⟩ = some (.slice none 0 0) := (by simp [World.cell?, x3])
  have cz4 : w3.cell? ⟨w.heap.size, 4, none⟩ = some (.int .i64 0) := (by simp [World.cell?, x3])
  clear x2 y2 hr3 hb3 x3 cu0 cu1 cu2 cu3 cu4 cy0 cy1 cy2 cy3 cy4 cy5
  go_wp2_with fail
  generalize hW : World.alloc _ _ = W4
  obtain ⟨hs4, x4, hbw4⟩ := one hW
  have HBW4 := Lib.hid hbw4
  clear hW hbw4
  refine (HS.out _ _ Any Any [dropI] W4 (HR1.out.below (HB3W.out.trans (HBW4.out.mono hs3))) (row3 x4) (by decide) code3).mono ?_
  rintro e w5 ⟨rfl, hb5⟩
  have HB5W := Lib.hid (HBW4.out.trans (hb5.mono HBW4.out.size))
  have hs5 : w3.heap.size ≤ w5.heap.size := HB5W.out.size
  have x5 : w5.heap[w.heap.size]? = some (.cells #[.int .u8 4, .int .i64 0, .int .i64 0, .slice none 0 0, .int .i64 0] 30 (0, 0)) := (HB5W.out.block _ (by omega)).trans HX3.out
  have cv0 : w5.cell? ⟨w.heap.size, 0, none⟩ = some (.int .u8 4) := (by simp [World.cell?, x5])
  have cv1 : w5.cell? ⟨w.heap.size, 1, none⟩ = some (.int .i64 0) := (by simp [World.cell?, x5])
  have cv2 : w5.cell? ⟨w.heap.size, 2, none⟩ = some (.int .i64 0) := (by simp [World.cell?, x5])
  have cv3 : w5.cell? ⟨w.heap.size, 3, none⟩ = some (.slice none 0 0) := (by simp [World.cell?, x5])
  have cv4 : w5.cell? ⟨w.heap.size, 4, none⟩ = some (.int .i64 0) := (by simp [World.cell?, x5])
  clear x4 hb5 x5 cz0 cz1 cz2 cz3 cz4
  go_wp2_with fail
  generalize hW : World.alloc _ _ = W6
  obtain ⟨hs6, x6, hbw6⟩ := one hW
  have HBW6 := Lib.hid hbw6
  clear hW hbw6
  refine (HS.out _ _ Any Any [dropI] W6 (HR3.out.below (HB5W.out.trans (HBW6.out.mono hs5))) (row3 x6) (by decide) code3).mono ?_
  rintro e w7 ⟨rfl, hb7⟩
  have HB7W := Lib.hid (HBW6.out.trans (hb7.mono HBW6.out.size))
  clear x6 hb7
  go_wp2_with fail
  go_ret
  refine ⟨rfl, HBW.out.trans ((HB1W.out.trans ((HB3W.out.trans ((HB5W.out.trans (HB7W.out.mono hs5)).mono hs3)).mono hs1)).mono HBW.out.size)⟩

end Go.Proofs.Ytfhleldmkhllaaa
