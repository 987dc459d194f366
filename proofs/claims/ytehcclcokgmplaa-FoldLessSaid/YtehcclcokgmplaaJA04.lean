/-
  Lemmas, joined: WidA, Held, BitR, TabA, NumSh, FitN, WidB.
-/
import Derived.Test.YtehcclcokgmplaaJA03
import Derived.Deep.DeepCutAuto
import Derived.Test.YtehcclcokgmplaaJA01
import Derived.Test.YtehcclcokgmplaaJA02
import Derived.Deep.RegionHeld3
import Derived.Outline
/-
  Layer 10's code, walked: isWidth, at, asks.
-/
namespace Go.Proofs.Ytehcclcokgmplaa
open Go.RowKit

set_option maxRecDepth 100000 in
set_option maxHeartbeats 1600000 in
theorem isWidth_any (x : Int) (w : World) : Calls Try.prog 14 #[.int .i64 x] w fun e w' => e = .returned (.bool (okP x)) ∧ w' = w := by
  obtain ⟨R, hR⟩ : ∃ R, R = okP x := ⟨_, rfl⟩
  rw [← hR]
  have HR := Lib.hid hR
  clear hR
  go_enter Try.func14, Try.ntmps14
  go_wp2_with fail
  all_goals
    go_ret
    refine ⟨congrArg (fun b => Ending.returned (.bool b)) ?_, rfl⟩
    rw [HR.out, Bool.eq_iff_iff]; simp [okP]; try omega
/-- What at hands back of integers. -/
theorem atI_any (l : List Int) (p : Option Addr) (n c : Nat) (i : Int) (w : World) (h : IRow w (.slice p n c) l) :
    Calls Try.prog 30 #[.slice p n c, .int .i64 i] w fun e w' => e = .returned (.tuple #[.int .i64 (ofP l i), .bool (decide (0 ≤ i ∧ i < (l.length : Int)))]) ∧ w' = w := by
  have HN : Hid (n = l.length) := h.ln.1
  have HR : Hid (n ≤ 9223372036854775807) := by obtain ⟨h1, h2, h3, -⟩ := h.ln; show n ≤ _; unfold maxLen at h3; omega
  by_cases h0 : i < 0
  · have e1 : ofP l i = 0 := by unfold ofP; rw [if_pos (.inl h0)]
    have e2 : decide (0 ≤ i ∧ i < (l.length : Int)) = false := decide_eq_false (by omega)
    rw [e1, e2]
    clear e1 e2 h
    go_enter Try.func30, Try.ntmps30
    go_wp2_with fail
    exact bodyPost_ret (v := .tuple #[.int .i64 0, .bool false]) (by simp [results, Try.results30, go_sem]) rfl ⟨rfl, rfl⟩
  · by_cases h1 : i < (n : Int)
    · obtain ⟨k, rfl⟩ : ∃ k : Nat, i = (k : Int) := ⟨i.toNat, by omega⟩
      obtain ⟨b, o, rfl, hb, y0⟩ := IRow.el h (j := k) (by have := HN.out; omega)
      have e1 : ofP l (k : Int) = l.getD k 0 := by unfold ofP; rw [if_neg (by have := HN.out; omega), Int.toNat_natCast]
      have e2 : decide (0 ≤ (k : Int) ∧ (k : Int) < (l.length : Int)) = true := decide_eq_true (by have := HN.out; omega)
      rw [e1, e2]
      clear e1 e2 h
      generalize l.getD k 0 = z at *
      go_enter Try.func30, Try.ntmps30
      go_wp2_with fail
      exact bodyPost_ret (v := .tuple #[.int .i64 z, .bool true]) (by simp [results, Try.results30, go_sem]) rfl ⟨rfl, rfl⟩
    · have e1 : ofP l i = 0 := by unfold ofP; rw [if_pos (.inr (by have := HN.out; omega))]
      have e2 : decide (0 ≤ i ∧ i < (l.length : Int)) = false := decide_eq_false (by have := HN.out; omega)
      rw [e1, e2]
      clear e1 e2 h
      go_enter Try.func30, Try.ntmps30
      go_wp2_with fail
      exact bodyPost_ret (v := .tuple #[.int .i64 0, .bool false]) (by simp [results, Try.results30, go_sem]) rfl ⟨rfl, rfl⟩
/-- What at hands back of lists of integers. -/
theorem atL_any (l : List (List Int)) (p : Option Addr) (n c : Nat) (i : Int) (w : World) (h : IsRow w (.slice p n c) l) :
    Calls Try.prog 29 #[.slice p n c, .int .i64 i] w fun e w' => (∃ q m d, e = .returned (.tuple #[.slice q m d, .bool (decide (0 ≤ i ∧ i < (l.length : Int)))]) ∧ IRow w (.slice q m d) (if 0 ≤ i ∧ i < (l.length : Int) then l.getD i.toNat [] else [])) ∧ w' = w := by
  have HN : Hid (n = l.length) := h.ln.1
  have HR : Hid (n ≤ 9223372036854775807) := by obtain ⟨h1, h2, h3, -⟩ := h.ln; show n ≤ _; unfold maxLen at h3; omega
  by_cases h0 : i < 0
  · have e1 : ¬ (0 ≤ i ∧ i < (l.length : Int)) := by omega
    rw [if_neg e1, decide_eq_false e1]
    clear e1 h
    go_enter Try.func29, Try.ntmps29
    go_wp2_with fail
    exact bodyPost_ret (v := .tuple #[.slice none 0 0, .bool false]) (by simp [results, Try.results29, go_sem]) rfl ⟨⟨_, _, _, rfl, RowAt.nil⟩, rfl⟩
  · by_cases h1 : i < (n : Int)
    · obtain ⟨k, rfl⟩ : ∃ k : Nat, i = (k : Int) := ⟨i.toNat, by omega⟩
      obtain ⟨b, o, q, m, d, rfl, hb, y0, hy⟩ := IsRow.el h (j := k) (by have := HN.out; omega)
      have e1 : 0 ≤ (k : Int) ∧ (k : Int) < (l.length : Int) := by have := HN.out; omega
      rw [if_pos e1, decide_eq_true e1, Int.toNat_natCast]
      have HY := Lib.hid hy
      clear e1 h hy
      go_enter Try.func29, Try.ntmps29
      go_wp2_with fail
      exact bodyPost_ret (v := .tuple #[.slice q m d, .bool true]) (by simp [results, Try.results29, go_sem]) rfl ⟨⟨_, _, _, rfl, HY.out⟩, rfl⟩
    · have e1 : ¬ (0 ≤ i ∧ i < (l.length : Int)) := by have := HN.out; omega
      rw [if_neg e1, decide_eq_false e1]
      clear e1 h
      go_enter Try.func29, Try.ntmps29
      go_wp2_with fail
      exact bodyPost_ret (v := .tuple #[.slice none 0 0, .bool false]) (by simp [results, Try.results29, go_sem]) rfl ⟨⟨_, _, _, rfl, RowAt.nil⟩, rfl⟩
def askP (n : Nod) : Bool := decide ((n.op = 1 ∨ n.v = 0) ∧ ((n.op = 2 ∨ n.op = 9 ∨ n.op = 3 ∨ n.op = 4 ∨ n.op = 6 ∨ n.op = 13 ∨ n.op = 14) ∨ n.a = 0) ∧ ((n.op = 2 ∨ n.op = 9) ∨ n.b = 0))
set_option maxRecDepth 100000 in
set_option maxHeartbeats 6400000 in
theorem asks_any (n : Nod) (w : World) : Calls Try.prog 15 #[ndV n] w fun e w' => e = .returned (.bool (askP n)) ∧ Below w.heap.size w w' := by
  obtain ⟨op, k, a, b, v⟩ := n
  unfold ndV
  dsimp only
  obtain ⟨R, hR⟩ : ∃ R, R = askP ⟨op, k, a, b, v⟩ := ⟨_, rfl⟩
  rw [← hR]
  have HR := Lib.hid hR
  clear hR
  obtain ⟨x, y, e1, e3, e4⟩ := numV_parts v
  rw [← e3, ← e4]
  have hxy : (v = 0 ∧ (x : Int) = 0 ∧ (y : Int) = 0) ∨ (¬ v = 0 ∧ ¬ (x : Int) = 0) ∨ (¬ v = 0 ∧ (x : Int) = 0 ∧ ¬ (y : Int) = 0) := by
    by_cases hv : v = 0
    · subst hv
      exact .inl ⟨rfl, by rw [e3]; rfl, by rw [e4]; rfl⟩
    · by_cases p : x = 0
      · exact .inr (.inr ⟨hv, by omega, fun q => hv (by rw [← Nat.div_add_mod v B, ← e3, ← e4, p, show y = 0 by omega]; rfl)⟩)
      · exact .inr (.inl ⟨hv, by omega⟩)
  have HXY := Lib.hid hxy
  clear e1 e3 e4 hxy
  go_enter Try.func15, Try.ntmps15
  go_upto_region 1 with fail
  obtain ⟨W0, hW0⟩ : ∃ W0, W0 = w.alloc (.cells #[.int .u8 op, .int .i64 k, .int .i64 a, .int .i64 b, .int .u64 (x : Int), .int .u64 (y : Int)] 61) := ⟨_, rfl⟩
  have HB0 : Hid (Below w.heap.size w W0) := by show Below _ _ _; rw [hW0]; exact (by repeat (first | exact Below.refl _ _ | assumption | refine Below.drew ?_ | refine Below.alloc ?_ (by first | omega | (simp <;> omega)) _ | refine Below.setCell ?_ (by first | omega | (simp <;> omega)) _ | refine Below.trans ?_ (Below.mono (by assumption) (by first | omega | (simp <;> omega)))))
  have HX0 : NBox W0 w.heap.size op k a b x y := by show _ = _; rw [hW0]; exact heap_new _ _
  rw [← hW0]
  clear hW0
  obtain ⟨n0, n1, n2, n3, n4, n5⟩ := HX0.cells
  clear HX0
  have hops : op = 1 ∨ op = 2 ∨ op = 9 ∨ op = 3 ∨ op = 4 ∨ op = 6 ∨ op = 13 ∨ op = 14 ∨ (¬ op = 1 ∧ ¬ op = 2 ∧ ¬ op = 9 ∧ ¬ op = 3 ∧ ¬ op = 4 ∧ ¬ op = 6 ∧ ¬ op = 13 ∧ ¬ op = 14) := by omega
  rcases hops with rfl | rfl | rfl | rfl | rfl | rfl | rfl | rfl | ⟨o1, o2, o9, o3, o4, o6, o13, o14⟩
  all_goals
    rcases HXY.out with ⟨hv, hx, hy⟩ | ⟨hv, hx⟩ | ⟨hv, hx, hy⟩
    all_goals
      go_wp2_with fail
      all_goals
        go_ret
        refine ⟨congrArg (fun b => Ending.returned (.bool b)) ?_, HB0.out⟩
        rw [HR.out, Bool.eq_iff_iff]
        simp [askP, *]

end Go.Proofs.Ytehcclcokgmplaa

/-
  What a region that draws its order keeps: cells that are read, cells that are written at its end.
-/
namespace Go.Proofs.Ytehcclcokgmplaa
open Go.RowKit

theorem cell?_some_after {W : World} {p r : Addr} (a : Value) (h : ∃ x, W.cell? p = some x) : ∃ x, (W.setCell r a).cell? p = some x := by
  obtain ⟨x, hx⟩ := h
  by_cases e : p = r
  · subst e; exact ⟨a, World.cell?_setCell_same _ _ _ hx⟩
  · exact ⟨x, (World.cell?_setCell_other _ _ _ _ (fun q => e q.symm)).trans hx⟩
theorem cell?_apart {W : World} {p : Addr} {g j : Nat} {a v : Value} (h : p.block ≠ g) (hc : W.cell? p = some v) : (W.setCell ⟨g, j, none⟩ a).cell? p = some v :=
  (World.cell?_setCell_other _ _ _ _ (fun q => h (by rw [← q]))).trans hc

theorem held_6_0 {w W w1 : World} {p0 p1 p2 p3 p4 p5 : Addr} {v0 v1 v2 v3 v4 v5 : Value} (hb : Below W.heap.size W w1) (h : Below w.heap.size w W ∧ W.cell? p0 = some v0 ∧ W.cell? p1 = some v1 ∧ W.cell? p2 = some v2 ∧ W.cell? p3 = some v3 ∧ W.cell? p4 = some v4 ∧ W.cell? p5 = some v5) :
    Below w.heap.size w w1 ∧ w1.cell? p0 = some v0 ∧ w1.cell? p1 = some v1 ∧ w1.cell? p2 = some v2 ∧ w1.cell? p3 = some v3 ∧ w1.cell? p4 = some v4 ∧ w1.cell? p5 = some v5 := by
  obtain ⟨q, q0, q1, q2, q3, q4, q5⟩ := h
  exact ⟨q.trans (hb.mono q.size), (hb.cell (cell_there q0).1).trans q0, (hb.cell (cell_there q1).1).trans q1, (hb.cell (cell_there q2).1).trans q2, (hb.cell (cell_there q3).1).trans q3, (hb.cell (cell_there q4).1).trans q4, (hb.cell (cell_there q5).1).trans q5⟩

theorem held_4_0 {w W w1 : World} {p0 p1 p2 p3 : Addr} {v0 v1 v2 v3 : Value} (hb : Below W.heap.size W w1) (h : Below w.heap.size w W ∧ W.cell? p0 = some v0 ∧ W.cell? p1 = some v1 ∧ W.cell? p2 = some v2 ∧ W.cell? p3 = some v3) :
    Below w.heap.size w w1 ∧ w1.cell? p0 = some v0 ∧ w1.cell? p1 = some v1 ∧ w1.cell? p2 = some v2 ∧ w1.cell? p3 = some v3 := by
  obtain ⟨q, q0, q1, q2, q3⟩ := h
  exact ⟨q.trans (hb.mono q.size), (hb.cell (cell_there q0).1).trans q0, (hb.cell (cell_there q1).1).trans q1, (hb.cell (cell_there q2).1).trans q2, (hb.cell (cell_there q3).1).trans q3⟩

theorem held_4_2 {w W w1 : World} {p0 p1 p2 p3 : Addr} {v0 v1 v2 v3 : Value} {g : Nat} (hb : Below W.heap.size W w1) (h : Below w.heap.size w W ∧ W.cell? p0 = some v0 ∧ W.cell? p1 = some v1 ∧ W.cell? p2 = some v2 ∧ W.cell? p3 = some v3 ∧ (∃ x, W.cell? ⟨g, 0, none⟩ = some x) ∧ (∃ x, W.cell? ⟨g, 1, none⟩ = some x) ∧ W.frozen? ⟨g, 0, none⟩ = false ∧ W.frozen? ⟨g, 1, none⟩ = false) :
    Below w.heap.size w w1 ∧ w1.cell? p0 = some v0 ∧ w1.cell? p1 = some v1 ∧ w1.cell? p2 = some v2 ∧ w1.cell? p3 = some v3 ∧ (∃ x, w1.cell? ⟨g, 0, none⟩ = some x) ∧ (∃ x, w1.cell? ⟨g, 1, none⟩ = some x) ∧ w1.frozen? ⟨g, 0, none⟩ = false ∧ w1.frozen? ⟨g, 1, none⟩ = false := by
  obtain ⟨q, q0, q1, q2, q3, ⟨x0, z0⟩, ⟨x1, z1⟩, f0, f1⟩ := h
  exact ⟨q.trans (hb.mono q.size), (hb.cell (cell_there q0).1).trans q0, (hb.cell (cell_there q1).1).trans q1, (hb.cell (cell_there q2).1).trans q2, (hb.cell (cell_there q3).1).trans q3, ⟨x0, (hb.cell (cell_there z0).1).trans z0⟩, ⟨x1, (hb.cell (cell_there z1).1).trans z1⟩, (hb.frozen (cell_there z0).1).trans f0, (hb.frozen (cell_there z1).1).trans f1⟩

set_option maxRecDepth 100000 in
set_option maxHeartbeats 1000000 in
theorem heldset_4_2 {w W : World} {p0 p1 p2 p3 : Addr} {v0 v1 v2 v3 : Value} {g : Nat} (a0 a1 : Value) (hg : w.heap.size ≤ g) (hn : p0.block ≠ g ∧ p1.block ≠ g ∧ p2.block ≠ g ∧ p3.block ≠ g) (h : Below w.heap.size w W ∧ W.cell? p0 = some v0 ∧ W.cell? p1 = some v1 ∧ W.cell? p2 = some v2 ∧ W.cell? p3 = some v3 ∧ (∃ x, W.cell? ⟨g, 0, none⟩ = some x) ∧ (∃ x, W.cell? ⟨g, 1, none⟩ = some x) ∧ W.frozen? ⟨g, 0, none⟩ = false ∧ W.frozen? ⟨g, 1, none⟩ = false) :
    Below w.heap.size w ((W.setCell ⟨g, 0, none⟩ a0).setCell ⟨g, 1, none⟩ a1) ∧ ((W.setCell ⟨g, 0, none⟩ a0).setCell ⟨g, 1, none⟩ a1).cell? p0 = some v0 ∧ ((W.setCell ⟨g, 0, none⟩ a0).setCell ⟨g, 1, none⟩ a1).cell? p1 = some v1 ∧ ((W.setCell ⟨g, 0, none⟩ a0).setCell ⟨g, 1, none⟩ a1).cell? p2 = some v2 ∧ ((W.setCell ⟨g, 0, none⟩ a0).setCell ⟨g, 1, none⟩ a1).cell? p3 = some v3 ∧ (∃ x, ((W.setCell ⟨g, 0, none⟩ a0).setCell ⟨g, 1, none⟩ a1).cell? ⟨g, 0, none⟩ = some x) ∧ (∃ x, ((W.setCell ⟨g, 0, none⟩ a0).setCell ⟨g, 1, none⟩ a1).cell? ⟨g, 1, none⟩ = some x) ∧ ((W.setCell ⟨g, 0, none⟩ a0).setCell ⟨g, 1, none⟩ a1).frozen? ⟨g, 0, none⟩ = false ∧ ((W.setCell ⟨g, 0, none⟩ a0).setCell ⟨g, 1, none⟩ a1).frozen? ⟨g, 1, none⟩ = false := by
  obtain ⟨q, q0, q1, q2, q3, ⟨x0, z0⟩, ⟨x1, z1⟩, f0, f1⟩ := h
  obtain ⟨d0, d1, d2, d3⟩ := hn
  refine ⟨((q.setCell (by exact hg) _).setCell (by exact hg) _), (cell?_apart d0 (cell?_apart d0 q0)), (cell?_apart d1 (cell?_apart d1 q1)), (cell?_apart d2 (cell?_apart d2 q2)), (cell?_apart d3 (cell?_apart d3 q3)), ?_, ?_, ?_, ?_⟩
  · exact cell?_some_after _ (cell?_some_after _ (⟨x0, z0⟩))
  · exact cell?_some_after _ (cell?_some_after _ (⟨x1, z1⟩))
  · simp only [World.frozen?_setCell]; exact f0
  · simp only [World.frozen?_setCell]; exact f1

theorem held_2_0 {w W w1 : World} {p0 p1 : Addr} {v0 v1 : Value} (hb : Below W.heap.size W w1) (h : Below w.heap.size w W ∧ W.cell? p0 = some v0 ∧ W.cell? p1 = some v1) :
    Below w.heap.size w w1 ∧ w1.cell? p0 = some v0 ∧ w1.cell? p1 = some v1 := by
  obtain ⟨q, q0, q1⟩ := h
  exact ⟨q.trans (hb.mono q.size), (hb.cell (cell_there q0).1).trans q0, (hb.cell (cell_there q1).1).trans q1⟩

end Go.Proofs.Ytehcclcokgmplaa



/-
  match.Ahead, match.Agrees and the document's.
-/
namespace Go.Proofs.Ytehcclcokgmplaa
open Go.RowKit

theorem eql_pair {a b c d : Nat} (W : World) : (Go.binOp .eql 59 (.agg #[.int .u64 (a : Int), .int .u64 (b : Int)]) (.agg #[.int .u64 (c : Int), .int .u64 (d : Int)])).run Try.prog W = .ok (.bool (decide (a = c) && decide (b = d))) W := by
  have e1 : decide (a = c) = decide ((a : Int) = c) := by simp only [decide_eq_decide]; omega
  have e2 : decide (b = d) = decide ((b : Int) = d) := by simp only [decide_eq_decide]; omega
  rw [e1, e2]
  by_cases h1 : (a : Int) = c <;> by_cases h2 : (b : Int) = d <;> simp [go_sem, h1, h2]

end Go.Proofs.Ytehcclcokgmplaa

/-
  Contracts of num.Shr, Mask, Cut, Shl, Bit.
-/
namespace Go.Proofs.Ytehcclcokgmplaa
open Go.RowKit

theorem numOf_val (n : Nat) (hn : n < B) : Value.agg #[.int .u64 0, .int .u64 (n : Int)] = numV n := by
  have he := numV_mk 0 n hn
  rw [Nat.zero_mul, Nat.zero_add] at he
  exact he

set_option maxRecDepth 100000 in
set_option maxHeartbeats 400000 in
theorem numOf_any (n : Nat) (hn : n < B) (w : World) :
    Calls Try.prog 53 #[.int .u64 (n : Int)] w (RetNum w n) := by
  have H := Lib.hid (numOf_val n hn); clear hn
  go_enter Try.func53, Try.ntmps53
  go_wp2
  exact bodyPost_ret (v := .agg #[.int .u64 0, .int .u64 (n : Int)]) (by simp [results, Try.results53, go_sem]) rfl ⟨by rw [H.out], (by repeat (first | exact Below.refl _ _ | assumption | refine Below.drew ?_ | refine Below.alloc ?_ (by first | omega | (simp <;> omega)) _ | refine Below.setCell ?_ (by first | omega | (simp <;> omega)) _ | refine Below.trans ?_ (Below.mono (by assumption) (by first | omega | (simp <;> omega)))))⟩

theorem shr_val (n s : Nat) (hn : n < B * B) : (s < 64 → ∀ h l : Nat, h = n / B → l = n % B → Value.agg #[.int .u64 ((h : Int) / 2 ^ s), .int .u64 (bits .or .u64 ((l : Int) / 2 ^ s) (IntKind.u64.wrap ((h : Int) * 2 ^ (64 - s))))] = numV (n / 2 ^ s)) ∧
    (64 ≤ s → ∀ h l : Nat, h = n / B → l = n % B → Value.agg #[.int .u64 0, .int .u64 ((h : Int) / 2 ^ (s - 64))] = numV (n / 2 ^ s)) := by
  refine ⟨fun hs h l e1 e2 => ?_, fun hs h l e1 e2 => ?_⟩
  · subst e1 e2; rw [shr_small _ _ _ (half_lt hn) (low_lt _) hs, parts_eq]
  · subst e1 e2; rw [shr_great _ (n % B) _ (half_lt hn) (low_lt _) hs, parts_eq]

set_option maxRecDepth 100000 in
set_option maxHeartbeats 400000 in
theorem numShr_any (n : Nat) (k : Int) (w : World) (hn : n < B * B) :
    Calls Try.prog 42 #[numV n, .int .i64 k] w (RetNum w (n / 2 ^ sh k)) := by
  have HV := Lib.hid (shr_val n (sh k) hn)
  obtain ⟨y, z, he, hh, hl⟩ := numV_parts n
  have HH : Hid (y = n / B ∧ z = n % B) := ⟨hh, hl⟩
  rw [he]
  clear he hh hl hn
  rcases Int.lt_or_le 0 k with h0 | h0
  · obtain ⟨s, rfl⟩ := Int.eq_ofNat_of_zero_le (Int.le_of_lt h0)
    have h0' : 0 < s := by omega
    clear h0
    rcases Nat.lt_or_ge s 64 with h1 | h1
    · have HS : Hid (sh (s : Int) = s) := by show _ = _; unfold sh; omega
      go_enter Try.func42, Try.ntmps42
      go_wp2
      exact bodyPost_ret (v := .agg #[.int .u64 ((y : Int) / 2 ^ s), .int .u64 (bits .or .u64 ((z : Int) / 2 ^ s) (IntKind.u64.wrap ((y : Int) * 2 ^ (64 - s))))]) (by simp [results, Try.results42, go_sem]) rfl ⟨by rw [HS.out] at HV ⊢; rw [HV.out.1 h1 y z HH.out.1 HH.out.2], (by repeat (first | exact Below.refl _ _ | assumption | refine Below.drew ?_ | refine Below.alloc ?_ (by first | omega | (simp <;> omega)) _ | refine Below.setCell ?_ (by first | omega | (simp <;> omega)) _ | refine Below.trans ?_ (Below.mono (by assumption) (by first | omega | (simp <;> omega)))))⟩
    · rcases Nat.lt_or_ge s 129 with h2 | h2
      · have HS : Hid (sh (s : Int) = s) := by show _ = _; unfold sh; omega
        by_cases h3 : s = 128
        · subst h3
          go_enter Try.func42, Try.ntmps42
          go_wp2
          exact bodyPost_ret (v := .agg #[.int .u64 0, .int .u64 ((y : Int) / 18446744073709551616)]) (by simp [results, Try.results42, go_sem]) rfl ⟨by rw [HS.out] at HV ⊢; rw [← HV.out.2 h1 y z HH.out.1 HH.out.2]; simp, (by repeat (first | exact Below.refl _ _ | assumption | refine Below.drew ?_ | refine Below.alloc ?_ (by first | omega | (simp <;> omega)) _ | refine Below.setCell ?_ (by first | omega | (simp <;> omega)) _ | refine Below.trans ?_ (Below.mono (by assumption) (by first | omega | (simp <;> omega)))))⟩
        · have h4 : s < 128 := by omega
          clear h3 h2
          go_enter Try.func42, Try.ntmps42
          go_wp2
          exact bodyPost_ret (v := .agg #[.int .u64 0, .int .u64 ((y : Int) / 2 ^ (s - 64))]) (by simp [results, Try.results42, go_sem]) rfl ⟨by rw [HS.out] at HV ⊢; rw [HV.out.2 h1 y z HH.out.1 HH.out.2], (by repeat (first | exact Below.refl _ _ | assumption | refine Below.drew ?_ | refine Below.alloc ?_ (by first | omega | (simp <;> omega)) _ | refine Below.setCell ?_ (by first | omega | (simp <;> omega)) _ | refine Below.trans ?_ (Below.mono (by assumption) (by first | omega | (simp <;> omega)))))⟩
      · have HS : Hid (sh (s : Int) = 128) := by show _ = _; unfold sh; omega
        go_enter Try.func42, Try.ntmps42
        go_wp2
        exact bodyPost_ret (v := .agg #[.int .u64 0, .int .u64 ((y : Int) / 18446744073709551616)]) (by simp [results, Try.results42, go_sem]) rfl ⟨by rw [HS.out] at HV ⊢; rw [← HV.out.2 (by omega) y z HH.out.1 HH.out.2]; simp, (by repeat (first | exact Below.refl _ _ | assumption | refine Below.drew ?_ | refine Below.alloc ?_ (by first | omega | (simp <;> omega)) _ | refine Below.setCell ?_ (by first | omega | (simp <;> omega)) _ | refine Below.trans ?_ (Below.mono (by assumption) (by first | omega | (simp <;> omega)))))⟩
  · have HS : Hid (sh k = 0) := by show _ = _; unfold sh; omega
    go_enter Try.func42, Try.ntmps42
    go_wp2
    all_goals exact bodyPost_ret (v := .agg #[.int .u64 (y : Int), .int .u64 (bits .or .u64 (z : Int) (IntKind.u64.wrap ((y : Int) * 18446744073709551616)))]) (by simp [results, Try.results42, go_sem]) rfl ⟨by rw [HS.out] at HV ⊢; rw [← HV.out.1 (by omega) y z HH.out.1 HH.out.2]; simp, (by repeat (first | exact Below.refl _ _ | assumption | refine Below.drew ?_ | refine Below.alloc ?_ (by first | omega | (simp <;> omega)) _ | refine Below.setCell ?_ (by first | omega | (simp <;> omega)) _ | refine Below.trans ?_ (Below.mono (by assumption) (by first | omega | (simp <;> omega)))))⟩

theorem ones_val : Value.agg #[.int .u64 18446744073709551615, .int .u64 18446744073709551615] = numV (B * B - 1) := by kernel_rfl
theorem BB_pow : B * B = 2 ^ 128 := by rw [B_pow, ← Nat.pow_add]
theorem ones_div (t : Nat) (h : t ≤ 128) : (B * B - 1) / 2 ^ (128 - t) = 2 ^ t - 1 := by
  have h1 : B * B = 2 ^ t * 2 ^ (128 - t) := by rw [BB_pow, ← Nat.pow_add]; congr 1; omega
  have h2 : 0 < 2 ^ (128 - t) := Nat.two_pow_pos _
  have h3 : 0 < 2 ^ t := Nat.two_pow_pos _
  apply Nat.div_eq_of_lt_le
  · rw [Nat.sub_mul, h1]; omega
  · rw [h1, Nat.sub_add_cancel h3]
    have : 0 < 2 ^ t * 2 ^ (128 - t) := Nat.mul_pos h3 h2
    omega
theorem mask_lt (w : Int) : 2 ^ sh w - 1 < B * B := by
  have h1 : 2 ^ sh w ≤ 2 ^ 128 := Nat.pow_le_pow_right (by omega) (sh_le w)
  have h2 : 0 < 2 ^ sh w := Nat.two_pow_pos _
  rw [BB_pow]; omega

set_option maxRecDepth 100000 in
set_option maxHeartbeats 400000 in
theorem numMask_any (k : Int) (w : World) : Calls Try.prog 37 #[.int .i64 k] w (RetNum w (2 ^ sh k - 1)) := by
  by_cases h0 : k < 1
  · have HS : Hid (sh k = 0) := by show _ = _; unfold sh; omega
    go_enter Try.func37, Try.ntmps37
    go_wp2_with fail
    exact bodyPost_ret (v := .agg #[.int .u64 0, .int .u64 0]) (by simp [results, Try.results37, go_sem]) rfl ⟨by rw [HS.out]; rfl, (by repeat (first | exact Below.refl _ _ | assumption | refine Below.drew ?_ | refine Below.alloc ?_ (by first | omega | (simp <;> omega)) _ | refine Below.setCell ?_ (by first | omega | (simp <;> omega)) _ | refine Below.trans ?_ (Below.mono (by assumption) (by first | omega | (simp <;> omega)))))⟩
  · have HS : ∀ j : Int, (128 < k → j = 0) → (k ≤ 128 → j = 128 - k) → Hid ((B * B - 1) / 2 ^ sh j = 2 ^ sh k - 1) := by
      intro j h1 h2
      show _ = _
      rw [← ones_div _ (sh_le k)]
      have : sh j = 128 - sh k := by unfold sh; omega
      rw [this]
    have HL : Hid (B * B - 1 < B * B) := by show _ < _; unfold B; omega
    have HO := Lib.hid ones_val
    go_enter Try.func37, Try.ntmps37
    go_wp2_with fail
    all_goals
      rw [HO.out]
      refine (numShr_any _ _ _ HL.out).mono ?_
      rintro e w1 ⟨rfl, hb⟩
      obtain ⟨hc, hf⟩ := bcell hb
      have hz := hb.size
      simp at hz
      obtain ⟨y, z, he, -, -⟩ := numV_parts ((B * B - 1) / 2 ^ sh _)
      have HE := Lib.hid he
      rw [he]
      clear he
      go_wp2_with fail
      have L2 : w.heap.size < w.heap.size + 1 + 1 := by omega
      exact bodyPost_ret (v := .agg #[.int .u64 (y : Int), .int .u64 (z : Int)]) (by simp [results, Try.results37, go_sem, hc, L2]) rfl ⟨by rw [← HE.out]; rw [(HS _ (by intro; omega) (by intro; omega)).out], (by repeat (first | exact Below.refl _ _ | assumption | refine Below.drew ?_ | refine Below.alloc ?_ (by first | omega | (simp <;> omega)) _ | refine Below.setCell ?_ (by first | omega | (simp <;> omega)) _ | refine Below.trans ?_ (Below.mono (by assumption) (by first | omega | (simp <;> omega)))))⟩

set_option maxRecDepth 100000 in
set_option maxHeartbeats 400000 in
theorem numCut_any (n : Nat) (k : Int) (w : World) (hn : n < B * B) : Calls Try.prog 39 #[numV n, .int .i64 k] w (RetNum w (n % 2 ^ sh k)) := by
  have HV : Hid (n &&& (2 ^ sh k - 1) = n % 2 ^ sh k) := Nat.and_two_pow_sub_one_eq_mod n (sh k)
  have HB := Lib.hid (and_num n (2 ^ sh k - 1) hn (mask_lt k))
  obtain ⟨y, z, he, hy, hz0⟩ := numV_parts n
  obtain ⟨u, v, hm, hu, hv⟩ := numV_parts (2 ^ sh k - 1)
  rw [← hy, ← hz0, ← hu, ← hv] at HB
  have HM := Lib.hid hm
  rw [he]
  clear he hy hz0 hm hu hv
  go_enter Try.func39, Try.ntmps39
  go_wp2_with fail
  go_region_with (first
    | (go_at_call 37; refine (numMask_any _ _).mono ?_; rintro e w1 ⟨rfl, hb⟩; rw [HM.out]; obtain ⟨hc, hf⟩ := bcell hb; have hz := hb.size; simp at hz; have L1 : w.heap.size + 1 < w1.heap.size := by omega)
    | (go_at_call 44; refine (and_any _ _ _ _ _).mono ?_; rintro e w2 ⟨rfl, hb2⟩; obtain ⟨hc2, hf2⟩ := bcell hb2; have hz2 := hb2.size))
  all_goals go_wp2_with fail
  all_goals exact bodyPost_ret (v := .agg #[.int .u64 (bits .and .u64 (y : Int) (u : Int)), .int .u64 (bits .and .u64 (z : Int) (v : Int))]) (by simp [results, Try.results39, go_sem, hc, hc2, L1]) rfl ⟨by rw [HB.out, HV.out], (by repeat (first | exact Below.refl _ _ | assumption | refine Below.drew ?_ | refine Below.alloc ?_ (by first | omega | (simp <;> omega)) _ | refine Below.setCell ?_ (by first | omega | (simp <;> omega)) _ | refine Below.trans ?_ (Below.mono (by assumption) (by first | omega | (simp <;> omega)))))⟩

set_option maxRecDepth 100000 in
set_option maxHeartbeats 400000 in
theorem numShl_any (n : Nat) (k j : Int) (w : World) (hn : n < B * B) : Calls Try.prog 62 #[numV n, .int .i64 k, .int .i64 j] w (RetNum w (n * 2 ^ sh k % (B * B) % 2 ^ sh j)) := by
  have HC : Hid (n * 2 ^ sh k % (B * B) < B * B) := Nat.mod_lt _ (by unfold B; omega)
  have HV1 : sh k < 64 → ∀ y z : Nat, y = n / B → z = n % B → Value.agg #[.int .u64 (bits .or .u64 (IntKind.u64.wrap ((y : Int) * 2 ^ sh k)) ((z : Int) / 2 ^ (64 - sh k))), .int .u64 (IntKind.u64.wrap ((z : Int) * 2 ^ sh k))] = numV (n * 2 ^ sh k % (B * B)) := by
    intro hs y z e1 e2
    subst e1 e2; rw [shl_small _ _ _ (half_lt hn) (low_lt _) hs, parts_eq]
  have HV2 : 64 ≤ sh k → ∀ z : Nat, z = n % B → Value.agg #[.int .u64 (IntKind.u64.wrap ((z : Int) * 2 ^ (sh k - 64))), .int .u64 0] = numV (n * 2 ^ sh k % (B * B)) := by
    intro hs z e2
    subst e2; rw [shl_great _ (n % B) _ (half_lt hn) (low_lt _) hs, parts_eq]
  have HA := Lib.hid HV1; clear HV1
  have HB := Lib.hid HV2; clear HV2
  obtain ⟨y, z, he, hy, hz0⟩ := numV_parts n
  have HH : Hid (y = n / B ∧ z = n % B) := ⟨hy, hz0⟩
  rw [he]
  clear he hy hz0 hn
  rcases Int.lt_or_le 0 k with h0 | h0
  · obtain ⟨s, rfl⟩ := Int.eq_ofNat_of_zero_le (Int.le_of_lt h0)
    have h0' : 0 < s := by omega
    clear h0
    rcases Nat.lt_or_ge s 64 with h1 | h1
    · have HS : Hid (sh (s : Int) = s) := by show _ = _; unfold sh; omega
      have HE : Hid (Value.agg #[.int .u64 (bits .or .u64 (IntKind.u64.wrap ((y : Int) * 2 ^ s)) ((z : Int) / 2 ^ (64 - s))), .int .u64 (IntKind.u64.wrap ((z : Int) * 2 ^ s))] = numV (n * 2 ^ sh (s : Int) % (B * B))) := by
        show _ = _
        rw [← HA.out (by rw [HS.out]; exact h1) y z HH.out.1 HH.out.2, HS.out]
      go_enter Try.func62, Try.ntmps62
      go_wp2_with (go_at_call 48; go_in)
      rw [HE.out]
      refine (numCut_any _ _ _ HC.out).mono ?_
      rintro e w1 ⟨rfl, hb⟩
      obtain ⟨hc, hf⟩ := bcell hb
      have hz := hb.size
      simp at hz
      have L1 : w.heap.size + 1 < w1.heap.size := by omega
      obtain ⟨u, v, hm, -, -⟩ := numV_parts (n * 2 ^ sh _ % (B * B) % 2 ^ sh j)
      have HM := Lib.hid hm
      rw [hm]
      clear hm
      go_wp2_with fail
      exact bodyPost_ret (v := .agg #[.int .u64 (u : Int), .int .u64 (v : Int)]) (by simp [results, Try.results62, go_sem, hc]) rfl ⟨by rw [← HM.out], (by repeat (first | exact Below.refl _ _ | assumption | refine Below.drew ?_ | refine Below.alloc ?_ (by first | omega | (simp <;> omega)) _ | refine Below.setCell ?_ (by first | omega | (simp <;> omega)) _ | refine Below.trans ?_ (Below.mono (by assumption) (by first | omega | (simp <;> omega)))))⟩
    · rcases Nat.lt_or_ge s 128 with h2 | h2
      · have HS : Hid (sh (s : Int) = s) := by show _ = _; unfold sh; omega
        have HE : Hid (Value.agg #[.int .u64 (IntKind.u64.wrap ((z : Int) * 2 ^ (s - 64))), .int .u64 0] = numV (n * 2 ^ sh (s : Int) % (B * B))) := by
          show _ = _
          rw [← HB.out (by rw [HS.out]; exact h1) z HH.out.2, HS.out]
        go_enter Try.func62, Try.ntmps62
        go_wp2_with (go_at_call 48; go_in)
        rw [HE.out]
        refine (numCut_any _ _ _ HC.out).mono ?_
        rintro e w1 ⟨rfl, hb⟩
        obtain ⟨hc, hf⟩ := bcell hb
        have hz := hb.size
        simp at hz
        have L1 : w.heap.size + 1 < w1.heap.size := by omega
        obtain ⟨u, v, hm, -, -⟩ := numV_parts (n * 2 ^ sh _ % (B * B) % 2 ^ sh j)
        have HM := Lib.hid hm
        rw [hm]
        clear hm
        go_wp2_with fail
        exact bodyPost_ret (v := .agg #[.int .u64 (u : Int), .int .u64 (v : Int)]) (by simp [results, Try.results62, go_sem, hc]) rfl ⟨by rw [← HM.out], (by repeat (first | exact Below.refl _ _ | assumption | refine Below.drew ?_ | refine Below.alloc ?_ (by first | omega | (simp <;> omega)) _ | refine Below.setCell ?_ (by first | omega | (simp <;> omega)) _ | refine Below.trans ?_ (Below.mono (by assumption) (by first | omega | (simp <;> omega)))))⟩
      · have HS : Hid (sh (s : Int) = 128) := by show _ = _; unfold sh; omega
        have HE : Hid (Value.agg #[.int .u64 (IntKind.u64.wrap ((z : Int) * 18446744073709551616)), .int .u64 0] = numV (n * 2 ^ sh (s : Int) % (B * B))) := by
          show _ = _
          rw [← HB.out (by rw [HS.out]; omega) z HH.out.2, HS.out]; simp
        by_cases h3 : s = 128
        · subst h3
          go_enter Try.func62, Try.ntmps62
          go_wp2_with (go_at_call 48; go_in)
          rw [HE.out]
          refine (numCut_any _ _ _ HC.out).mono ?_
          rintro e w1 ⟨rfl, hb⟩
          obtain ⟨hc, hf⟩ := bcell hb
          have hz := hb.size
          simp at hz
          have L1 : w.heap.size + 1 < w1.heap.size := by omega
          obtain ⟨u, v, hm, -, -⟩ := numV_parts (n * 2 ^ sh _ % (B * B) % 2 ^ sh j)
          have HM := Lib.hid hm
          rw [hm]
          clear hm
          go_wp2_with fail
          exact bodyPost_ret (v := .agg #[.int .u64 (u : Int), .int .u64 (v : Int)]) (by simp [results, Try.results62, go_sem, hc]) rfl ⟨by rw [← HM.out], (by repeat (first | exact Below.refl _ _ | assumption | refine Below.drew ?_ | refine Below.alloc ?_ (by first | omega | (simp <;> omega)) _ | refine Below.setCell ?_ (by first | omega | (simp <;> omega)) _ | refine Below.trans ?_ (Below.mono (by assumption) (by first | omega | (simp <;> omega)))))⟩
        · have h4 : 128 < s := by omega
          clear h3 h2
          go_enter Try.func62, Try.ntmps62
          go_wp2_with (go_at_call 48; go_in)
          rw [HE.out]
          refine (numCut_any _ _ _ HC.out).mono ?_
          rintro e w1 ⟨rfl, hb⟩
          obtain ⟨hc, hf⟩ := bcell hb
          have hz := hb.size
          simp at hz
          have L1 : w.heap.size + 1 < w1.heap.size := by omega
          obtain ⟨u, v, hm, -, -⟩ := numV_parts (n * 2 ^ sh _ % (B * B) % 2 ^ sh j)
          have HM := Lib.hid hm
          rw [hm]
          clear hm
          go_wp2_with fail
          exact bodyPost_ret (v := .agg #[.int .u64 (u : Int), .int .u64 (v : Int)]) (by simp [results, Try.results62, go_sem, hc]) rfl ⟨by rw [← HM.out], (by repeat (first | exact Below.refl _ _ | assumption | refine Below.drew ?_ | refine Below.alloc ?_ (by first | omega | (simp <;> omega)) _ | refine Below.setCell ?_ (by first | omega | (simp <;> omega)) _ | refine Below.trans ?_ (Below.mono (by assumption) (by first | omega | (simp <;> omega)))))⟩
  · have HS : Hid (sh k = 0) := by show _ = _; unfold sh; omega
    have HE : Hid (Value.agg #[.int .u64 (bits .or .u64 (IntKind.u64.wrap (y : Int)) ((z : Int) / 18446744073709551616)), .int .u64 (IntKind.u64.wrap ((z : Int)))] = numV (n * 2 ^ sh k % (B * B))) := by
      show _ = _
      rw [← HA.out (by rw [HS.out]; omega) y z HH.out.1 HH.out.2, HS.out]; simp
    go_enter Try.func62, Try.ntmps62
    go_wp2_with (go_at_call 48; go_in)
    rw [HE.out]
    refine (numCut_any _ _ _ HC.out).mono ?_
    rintro e w1 ⟨rfl, hb⟩
    obtain ⟨hc, hf⟩ := bcell hb
    have hz := hb.size
    simp at hz
    have L1 : w.heap.size + 1 < w1.heap.size := by omega
    obtain ⟨u, v, hm, -, -⟩ := numV_parts (n * 2 ^ sh _ % (B * B) % 2 ^ sh j)
    have HM := Lib.hid hm
    rw [hm]
    clear hm
    go_wp2_with fail
    exact bodyPost_ret (v := .agg #[.int .u64 (u : Int), .int .u64 (v : Int)]) (by simp [results, Try.results62, go_sem, hc]) rfl ⟨by rw [← HM.out], (by repeat (first | exact Below.refl _ _ | assumption | refine Below.drew ?_ | refine Below.alloc ?_ (by first | omega | (simp <;> omega)) _ | refine Below.setCell ?_ (by first | omega | (simp <;> omega)) _ | refine Below.trans ?_ (Below.mono (by assumption) (by first | omega | (simp <;> omega)))))⟩

end Go.Proofs.Ytehcclcokgmplaa

/-
  Fits, of the program alone.
-/
namespace Go.Proofs.Ytehcclcokgmplaa
open Go.RowKit

theorem pair_eq (n m : Nat) : (decide (n / B = m / B) && decide (n % B = m % B)) = decide (n = m) := by
  by_cases h : n = m
  · simp [h]
  · rw [decide_eq_false h]
    by_cases h1 : n / B = m / B
    · have h2 : ¬ n % B = m % B := fun e => h (by rw [← Nat.div_add_mod n B, ← Nat.div_add_mod m B, h1, e])
      simp [h2]
    · simp [h1]

set_option maxRecDepth 100000 in
set_option maxHeartbeats 1000000 in
theorem numFits_all (n : Nat) (k : Int) (w : World) (hn : n < B * B) : Calls Try.prog 28 #[numV n, .int .i64 k] w fun e w' => e = .returned (.bool (decide (n % 2 ^ sh k = n))) ∧ Below w.heap.size w w' := by
  have HC0 : ∀ W, Calls Try.prog 39 #[numV n, .int .i64 k] W (RetNum W (n % 2 ^ sh k)) := fun W => numCut_any n k W hn
  obtain ⟨y, z, he, ey, ez⟩ := numV_parts n
  obtain ⟨y1, z1, he1, ey1, ez1⟩ := numV_parts (n % 2 ^ sh k)
  obtain ⟨X, hX⟩ : ∃ X, X = (decide (y1 = y) && decide (z1 = z)) := ⟨_, rfl⟩
  have HX : Hid (X = decide (n % 2 ^ sh k = n)) := by show X = _; rw [hX, ey, ez, ey1, ez1, pair_eq]
  unfold RetNum at HC0
  rw [he, he1] at HC0
  rw [he]
  have HC := Lib.hid HC0
  have heq : ∀ W, (Go.binOp .eql 59 (.agg #[.int .u64 (y1 : Int), .int .u64 (z1 : Int)]) (.agg #[.int .u64 (y : Int), .int .u64 (z : Int)])).run Try.prog W = .ok (.bool X) W := fun W => by rw [hX]; exact eql_pair W
  clear HC0 he he1 hn hX ey ez ey1 ez1
  go_enter Try.func28, Try.ntmps28
  go_wp2_with fail
  have hbx : Below w.heap.size w (w.alloc (.cells #[.int .u64 (y : Int), .int .u64 (z : Int)] 59)) := (Below.refl _ _).alloc (Nat.le_refl _) _
  have hx : Hid (Below w.heap.size w (w.alloc (.cells #[.int .u64 (y : Int), .int .u64 (z : Int)] 59)).drew ∧ (w.alloc (.cells #[.int .u64 (y : Int), .int .u64 (z : Int)] 59)).drew.cell? ⟨w.heap.size, 0, none⟩ = some (.int .u64 (y : Int)) ∧ (w.alloc (.cells #[.int .u64 (y : Int), .int .u64 (z : Int)] 59)).drew.cell? ⟨w.heap.size, 1, none⟩ = some (.int .u64 (z : Int))) := ⟨below_drewN hbx 1, by simp [go_sem], by simp [go_sem]⟩
  clear hbx
  go_region_held3 (fun Wk => Below (w.heap.size) (w) Wk ∧ Wk.cell? ⟨w.heap.size, 0, none⟩ = some (.int .u64 (y : Int)) ∧ Wk.cell? ⟨w.heap.size, 1, none⟩ = some (.int .u64 (z : Int)))
    (first | exact hx.out | exact held_2_0 hb1 (by assumption) | assumption)
    (first
    | (go_at_call 39; (with_reducible refine (HC.out _).mono ?_); rintro e w1 ⟨rfl, hb1⟩))
  rename_i hS
  have HB := Lib.hid hS.1
  clear hS
  go_wp2_with fail
  exact bodyPost_ret (v := .bool X) (by simp [results, Try.results28, go_sem]) rfl ⟨by rw [HX.out], HB.out⟩

end Go.Proofs.Ytehcclcokgmplaa

/-
  Layer 10's code, walked: at of actions, given.
-/
namespace Go.Proofs.Ytehcclcokgmplaa
open Go.RowKit

def actParams (l : List Actn) (i : Int) : List Int := if 0 ≤ i ∧ i < (l.length : Int) then (l.getD i.toNat ⟨[], []⟩).params else []
set_option maxRecDepth 100000 in
set_option maxHeartbeats 1600000 in
theorem atA_any (l : List Actn) (p : Option Addr) (n c : Nat) (i : Int) (w : World) (h : ActnRow w (.slice p n c) l) :
    Calls Try.prog 31 #[.slice p n c, .int .i64 i] w fun e w' => (∃ q m d v, e = .returned (.tuple #[.agg #[.slice q m d, v], .bool (decide (0 ≤ i ∧ i < (l.length : Int)))]) ∧ (∃ q2 m2 d2, v = .slice q2 m2 d2) ∧ IRow w (.slice q m d) (actParams l i)) ∧ Below w.heap.size w w' := by
  have HN : Hid (n = l.length) := h.ln.1
  have HR : Hid (n ≤ 9223372036854775807) := by obtain ⟨h1, h2, h3, -⟩ := h.ln; show n ≤ _; unfold maxLen at h3; omega
  unfold actParams
  by_cases h0 : i < 0
  · have e1 : ¬ (0 ≤ i ∧ i < (l.length : Int)) := by omega
    rw [if_neg e1, decide_eq_false e1]
    clear e1 h
    go_enter Try.func31, Try.ntmps31
    go_wp2_with fail
    refine bodyPost_ret (v := .tuple #[.agg #[.slice none 0 0, .slice none 0 0], .bool false]) (by simp [results, Try.results31, go_sem]) rfl ⟨⟨_, _, _, _, rfl, ⟨_, _, _, rfl⟩, RowAt.nil⟩, ?_⟩
    exact (by repeat (first | exact Below.refl _ _ | assumption | refine Below.drew ?_ | refine Below.alloc ?_ (by first | omega | (simp <;> omega)) _ | refine Below.setCell ?_ (by first | omega | (simp <;> omega)) _ | refine Below.trans ?_ (Below.mono (by assumption) (by first | omega | (simp <;> omega)))))
  · by_cases h1 : i < (n : Int)
    · obtain ⟨k, rfl⟩ : ∃ k : Nat, i = (k : Int) := ⟨i.toNat, by omega⟩
      obtain ⟨b, o, p1, n1, c1, p2, n2, c2, rfl, hb, y0, hy, y1, -⟩ := ActnRow.el h (j := k) (by have := HN.out; omega)
      have e1 : 0 ≤ (k : Int) ∧ (k : Int) < (l.length : Int) := by have := HN.out; omega
      rw [if_pos e1, decide_eq_true e1, Int.toNat_natCast]
      have HY := Lib.hid hy
      clear e1 h hy
      go_enter Try.func31, Try.ntmps31
      go_wp2_with fail
      refine bodyPost_ret (v := .tuple #[.agg #[.slice p1 n1 c1, .slice p2 n2 c2], .bool true]) (by simp [results, Try.results31, go_sem]) rfl ⟨⟨_, _, _, _, rfl, ⟨_, _, _, rfl⟩, HY.out⟩, ?_⟩
      exact (by repeat (first | exact Below.refl _ _ | assumption | refine Below.drew ?_ | refine Below.alloc ?_ (by first | omega | (simp <;> omega)) _ | refine Below.setCell ?_ (by first | omega | (simp <;> omega)) _ | refine Below.trans ?_ (Below.mono (by assumption) (by first | omega | (simp <;> omega)))))
    · have e1 : ¬ (0 ≤ i ∧ i < (l.length : Int)) := by have := HN.out; omega
      rw [if_neg e1, decide_eq_false e1]
      clear e1 h
      go_enter Try.func31, Try.ntmps31
      go_wp2_with fail
      refine bodyPost_ret (v := .tuple #[.agg #[.slice none 0 0, .slice none 0 0], .bool false]) (by simp [results, Try.results31, go_sem]) rfl ⟨⟨_, _, _, _, rfl, ⟨_, _, _, rfl⟩, RowAt.nil⟩, ?_⟩
      exact (by repeat (first | exact Below.refl _ _ | assumption | refine Below.drew ?_ | refine Below.alloc ?_ (by first | omega | (simp <;> omega)) _ | refine Below.setCell ?_ (by first | omega | (simp <;> omega)) _ | refine Below.trans ?_ (Below.mono (by assumption) (by first | omega | (simp <;> omega)))))

end Go.Proofs.Ytehcclcokgmplaa
