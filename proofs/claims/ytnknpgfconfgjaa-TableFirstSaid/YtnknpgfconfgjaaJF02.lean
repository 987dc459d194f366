/-
  Lemmas, joined: Held, RowP, Num, RefBits, BitR, TabA, TabB, TabC, TabP.
-/
import Derived.Test.YtnknpgfconfgjaaJF01
import Derived.Laws.Rows
import Derived.Laws.Tables
import Derived.Deep.QuietTactic
import Derived.BigQuiet
import Derived.StillTailTactics
import Derived.RegionTactic
import Derived.BigRegion
import Derived.Deep.RegionHeld3
import Derived.Outline
/-
  What a region that draws its order keeps: cells that are read, cells that are written at its end.
-/
namespace Go.Proofs.Ytnknpgfconfgjaa
open Go.RowKit

theorem held_6_0 {w W w1 : World} {p0 p1 p2 p3 p4 p5 : Addr} {v0 v1 v2 v3 v4 v5 : Value} (hb : Below W.heap.size W w1) (h : Below w.heap.size w W ∧ W.cell? p0 = some v0 ∧ W.cell? p1 = some v1 ∧ W.cell? p2 = some v2 ∧ W.cell? p3 = some v3 ∧ W.cell? p4 = some v4 ∧ W.cell? p5 = some v5) :
    Below w.heap.size w w1 ∧ w1.cell? p0 = some v0 ∧ w1.cell? p1 = some v1 ∧ w1.cell? p2 = some v2 ∧ w1.cell? p3 = some v3 ∧ w1.cell? p4 = some v4 ∧ w1.cell? p5 = some v5 := by
  obtain ⟨q, q0, q1, q2, q3, q4, q5⟩ := h
  exact ⟨q.trans (hb.mono q.size), (hb.cell (cell_there q0).1).trans q0, (hb.cell (cell_there q1).1).trans q1, (hb.cell (cell_there q2).1).trans q2, (hb.cell (cell_there q3).1).trans q3, (hb.cell (cell_there q4).1).trans q4, (hb.cell (cell_there q5).1).trans q5⟩

theorem held_2_0 {w W w1 : World} {p0 p1 : Addr} {v0 v1 : Value} (hb : Below W.heap.size W w1) (h : Below w.heap.size w W ∧ W.cell? p0 = some v0 ∧ W.cell? p1 = some v1) :
    Below w.heap.size w w1 ∧ w1.cell? p0 = some v0 ∧ w1.cell? p1 = some v1 := by
  obtain ⟨q, q0, q1⟩ := h
  exact ⟨q.trans (hb.mono q.size), (hb.cell (cell_there q0).1).trans q0, (hb.cell (cell_there q1).1).trans q1⟩

theorem held_13_0 {w W w1 : World} {p0 p1 p2 p3 p4 p5 p6 p7 p8 p9 p10 p11 p12 : Addr} {v0 v1 v2 v3 v4 v5 v6 v7 v8 v9 v10 v11 v12 : Value} (hb : Below W.heap.size W w1) (h : Below w.heap.size w W ∧ W.cell? p0 = some v0 ∧ W.cell? p1 = some v1 ∧ W.cell? p2 = some v2 ∧ W.cell? p3 = some v3 ∧ W.cell? p4 = some v4 ∧ W.cell? p5 = some v5 ∧ W.cell? p6 = some v6 ∧ W.cell? p7 = some v7 ∧ W.cell? p8 = some v8 ∧ W.cell? p9 = some v9 ∧ W.cell? p10 = some v10 ∧ W.cell? p11 = some v11 ∧ W.cell? p12 = some v12) :
    Below w.heap.size w w1 ∧ w1.cell? p0 = some v0 ∧ w1.cell? p1 = some v1 ∧ w1.cell? p2 = some v2 ∧ w1.cell? p3 = some v3 ∧ w1.cell? p4 = some v4 ∧ w1.cell? p5 = some v5 ∧ w1.cell? p6 = some v6 ∧ w1.cell? p7 = some v7 ∧ w1.cell? p8 = some v8 ∧ w1.cell? p9 = some v9 ∧ w1.cell? p10 = some v10 ∧ w1.cell? p11 = some v11 ∧ w1.cell? p12 = some v12 := by
  obtain ⟨q, q0, q1, q2, q3, q4, q5, q6, q7, q8, q9, q10, q11, q12⟩ := h
  exact ⟨q.trans (hb.mono q.size), (hb.cell (cell_there q0).1).trans q0, (hb.cell (cell_there q1).1).trans q1, (hb.cell (cell_there q2).1).trans q2, (hb.cell (cell_there q3).1).trans q3, (hb.cell (cell_there q4).1).trans q4, (hb.cell (cell_there q5).1).trans q5, (hb.cell (cell_there q6).1).trans q6, (hb.cell (cell_there q7).1).trans q7, (hb.cell (cell_there q8).1).trans q8, (hb.cell (cell_there q9).1).trans q9, (hb.cell (cell_there q10).1).trans q10, (hb.cell (cell_there q11).1).trans q11, (hb.cell (cell_there q12).1).trans q12⟩

end Go.Proofs.Ytnknpgfconfgjaa



/-
  Contracts of package num (and of the reference's Of), over the seat's program: what each returns, as natural numbers' own operations.
-/
namespace Go.Proofs.Ytnknpgfconfgjaa
open Go.RowKit

/-- A number is handed back; nothing that was has changed. -/
def RetNum (w : World) (n : Nat) (e : Ending) (w' : World) : Prop := e = .returned (numV n) ∧ Below w.heap.size w w'

set_option maxRecDepth 100000 in
set_option maxHeartbeats 400000 in
theorem or1_any (a b : Int) (w : World) :
    Calls Try.prog 83 #[.int .u64 a, .int .u64 b] w fun e w' => e = .returned (.int .u64 (bits BinOp.or IntKind.u64 a b)) ∧ w' = w := by
  go_enter Try.func83, Try.ntmps83
  go_wp2
  go_ret
  exact ⟨rfl, rfl⟩

set_option maxRecDepth 100000 in
set_option maxHeartbeats 400000 in
theorem both_or (a b c d : Int) (w : World) :
    Calls Try.prog 74 #[.agg #[.int .u64 a, .int .u64 b], .agg #[.int .u64 c, .int .u64 d], .func (Fn.func 83) #[] #[]] w fun e w' => e = .returned (.agg #[.int .u64 (bits BinOp.or IntKind.u64 a c), .int .u64 (bits BinOp.or IntKind.u64 b d)]) ∧ Below w.heap.size w w' := by
  go_enter Try.func74, Try.ntmps74
  go_wp2
  refine wp_region_still_tail 13 (by kernel_rfl) (by kernel_rfl) ?_
  simp only [List.take_succ_cons, List.take_zero, List.drop_succ_cons, List.drop_zero]
  change wpStill _ _ (World.drew _) _ _ _
  repeat (first | still_step | still_call (or1_any _ _ _))
  refine wpStill_nil ?_
  change wpList _ _ _ _ _ (World.drew _)
  go_wp2
  exact bodyPost_ret (v := .agg #[.int .u64 (bits BinOp.or IntKind.u64 a c), .int .u64 (bits BinOp.or IntKind.u64 b d)]) (by simp [results, Try.results74, go_sem]) rfl ⟨rfl, (by repeat (first | exact Below.refl _ _ | assumption | refine Below.drew ?_ | refine Below.alloc ?_ (by first | omega | (simp <;> omega)) _ | refine Below.setCell ?_ (by first | omega | (simp <;> omega)) _ | refine Below.trans ?_ (Below.mono (by assumption) (by first | omega | (simp <;> omega)))))⟩

set_option maxRecDepth 100000 in
set_option maxHeartbeats 400000 in
theorem or_any (a b c d : Int) (w : World) :
    Calls Try.prog 68 #[.agg #[.int .u64 a, .int .u64 b], .agg #[.int .u64 c, .int .u64 d]] w fun e w' => e = .returned (.agg #[.int .u64 (bits BinOp.or IntKind.u64 a c), .int .u64 (bits BinOp.or IntKind.u64 b d)]) ∧ Below w.heap.size w w' := by
  go_enter Try.func68, Try.ntmps68
  go_wp2_with (go_at_call 74; refine (both_or _ _ _ _ _).mono ?_; rintro e w1 ⟨rfl, hb⟩; obtain ⟨hc, hf⟩ := bcell hb; have hz := hb.size; simp at hz)
  exact bodyPost_ret (v := .agg #[.int .u64 (bits BinOp.or IntKind.u64 a c), .int .u64 (bits BinOp.or IntKind.u64 b d)]) (by simp [results, Try.results68, go_sem, hc, hf, hz]) rfl ⟨rfl, (by repeat (first | exact Below.refl _ _ | assumption | refine Below.drew ?_ | refine Below.alloc ?_ (by first | omega | (simp <;> omega)) _ | refine Below.setCell ?_ (by first | omega | (simp <;> omega)) _ | refine Below.trans ?_ (Below.mono (by assumption) (by first | omega | (simp <;> omega)))))⟩

set_option maxRecDepth 100000 in
set_option maxHeartbeats 400000 in
theorem and1_any (a b : Int) (w : World) :
    Calls Try.prog 75 #[.int .u64 a, .int .u64 b] w fun e w' => e = .returned (.int .u64 (bits BinOp.and IntKind.u64 a b)) ∧ w' = w := by
  go_enter Try.func75, Try.ntmps75
  go_wp2
  go_ret
  exact ⟨rfl, rfl⟩

set_option maxRecDepth 100000 in
set_option maxHeartbeats 400000 in
theorem both_and (a b c d : Int) (w : World) :
    Calls Try.prog 74 #[.agg #[.int .u64 a, .int .u64 b], .agg #[.int .u64 c, .int .u64 d], .func (Fn.func 75) #[] #[]] w fun e w' => e = .returned (.agg #[.int .u64 (bits BinOp.and IntKind.u64 a c), .int .u64 (bits BinOp.and IntKind.u64 b d)]) ∧ Below w.heap.size w w' := by
  go_enter Try.func74, Try.ntmps74
  go_wp2
  refine wp_region_still_tail 13 (by kernel_rfl) (by kernel_rfl) ?_
  simp only [List.take_succ_cons, List.take_zero, List.drop_succ_cons, List.drop_zero]
  change wpStill _ _ (World.drew _) _ _ _
  repeat (first | still_step | still_call (and1_any _ _ _))
  refine wpStill_nil ?_
  change wpList _ _ _ _ _ (World.drew _)
  go_wp2
  exact bodyPost_ret (v := .agg #[.int .u64 (bits BinOp.and IntKind.u64 a c), .int .u64 (bits BinOp.and IntKind.u64 b d)]) (by simp [results, Try.results74, go_sem]) rfl ⟨rfl, (by repeat (first | exact Below.refl _ _ | assumption | refine Below.drew ?_ | refine Below.alloc ?_ (by first | omega | (simp <;> omega)) _ | refine Below.setCell ?_ (by first | omega | (simp <;> omega)) _ | refine Below.trans ?_ (Below.mono (by assumption) (by first | omega | (simp <;> omega)))))⟩

set_option maxRecDepth 100000 in
set_option maxHeartbeats 400000 in
theorem and_any (a b c d : Int) (w : World) :
    Calls Try.prog 42 #[.agg #[.int .u64 a, .int .u64 b], .agg #[.int .u64 c, .int .u64 d]] w fun e w' => e = .returned (.agg #[.int .u64 (bits BinOp.and IntKind.u64 a c), .int .u64 (bits BinOp.and IntKind.u64 b d)]) ∧ Below w.heap.size w w' := by
  go_enter Try.func42, Try.ntmps42
  go_wp2_with (go_at_call 74; refine (both_and _ _ _ _ _).mono ?_; rintro e w1 ⟨rfl, hb⟩; obtain ⟨hc, hf⟩ := bcell hb; have hz := hb.size; simp at hz)
  exact bodyPost_ret (v := .agg #[.int .u64 (bits BinOp.and IntKind.u64 a c), .int .u64 (bits BinOp.and IntKind.u64 b d)]) (by simp [results, Try.results42, go_sem, hc, hf, hz]) rfl ⟨rfl, (by repeat (first | exact Below.refl _ _ | assumption | refine Below.drew ?_ | refine Below.alloc ?_ (by first | omega | (simp <;> omega)) _ | refine Below.setCell ?_ (by first | omega | (simp <;> omega)) _ | refine Below.trans ?_ (Below.mono (by assumption) (by first | omega | (simp <;> omega)))))⟩

theorem numAnd_any (a b : Nat) (w : World) (ha : a < B * B) (hb : b < B * B) : Calls Try.prog 42 #[numV a, numV b] w (RetNum w (a &&& b)) :=
  (and_any _ _ _ _ w).mono fun e w' ⟨h1, h2⟩ => ⟨by rw [h1, and_num a b ha hb], h2⟩

end Go.Proofs.Ytnknpgfconfgjaa





/-
  match.Ahead, match.Agrees and the document's.
-/
namespace Go.Proofs.Ytnknpgfconfgjaa
open Go.RowKit

/-- Does the first go ahead of the second? (Priority, length.) -/
def ahd (p1 l1 p2 l2 : Int) : Bool := decide (p2 < p1) || (decide (p1 = p2) && decide (l2 < l1))
theorem ahd_ne {p1 l1 p2 l2 : Int} (h : p1 ≠ p2) : ahd p1 l1 p2 l2 = decide (p2 < p1) := by unfold ahd; simp [h]
theorem ahd_eq {p l1 l2 : Int} : ahd p l1 p l2 = decide (l2 < l1) := by unfold ahd; simp

set_option maxRecDepth 100000 in
set_option maxHeartbeats 800000 in
theorem ahead_any (t1 l1 q1 a1 t2 l2 q2 a2 : Int) (p1 r1 p2 r2 : Option Addr) (n1 c1 m1 d1 n2 c2 m2 d2 : Nat) (w : World) :
    Calls Try.prog 35 #[.agg #[.int .i64 t1, .slice p1 n1 c1, .int .i64 l1, .int .i64 q1, .int .i64 a1, .slice r1 m1 d1], .agg #[.int .i64 t2, .slice p2 n2 c2, .int .i64 l2, .int .i64 q2, .int .i64 a2, .slice r2 m2 d2]] w
      fun e w' => e = .returned (.bool (ahd q1 l1 q2 l2)) ∧ Below w.heap.size w w' := by
  by_cases h : q1 = q2
  · subst h
    have hA : Hid (ahd q1 l1 q1 l2 = decide (l2 < l1)) := ahd_eq
    go_enter Try.func35, Try.ntmps35
    go_wp2
    go_ret
    exact ⟨by rw [hA.out]; rfl, (by repeat (first | exact Below.refl _ _ | assumption | refine Below.drew ?_ | refine Below.alloc ?_ (by first | omega | (simp <;> omega)) _ | refine Below.setCell ?_ (by first | omega | (simp <;> omega)) _ | refine Below.trans ?_ (Below.mono (by assumption) (by first | omega | (simp <;> omega)))))⟩
  · have hA : Hid (ahd q1 l1 q2 l2 = decide (q2 < q1)) := ahd_ne h
    go_enter Try.func35, Try.ntmps35
    go_wp2
    go_ret
    exact ⟨by rw [hA.out]; rfl, (by repeat (first | exact Below.refl _ _ | assumption | refine Below.drew ?_ | refine Below.alloc ?_ (by first | omega | (simp <;> omega)) _ | refine Below.setCell ?_ (by first | omega | (simp <;> omega)) _ | refine Below.trans ?_ (Below.mono (by assumption) (by first | omega | (simp <;> omega)))))⟩

theorem eql_pair {a b c d : Nat} (W : World) : (Go.binOp .eql 24 (.agg #[.int .u64 (a : Int), .int .u64 (b : Int)]) (.agg #[.int .u64 (c : Int), .int .u64 (d : Int)])).run Try.prog W = .ok (.bool (decide (a = c) && decide (b = d))) W := by
  have e1 : decide (a = c) = decide ((a : Int) = c) := by simp only [decide_eq_decide]; omega
  have e2 : decide (b = d) = decide ((b : Int) = d) := by simp only [decide_eq_decide]; omega
  rw [e1, e2]
  by_cases h1 : (a : Int) = c <;> by_cases h2 : (b : Int) = d <;> simp [go_sem, h1, h2]

/-- Does a number agree with a pattern? -/
def agr (p : Pt) (n : Nat) : Bool := decide (n &&& p.m = p.v)

set_option maxRecDepth 100000 in
set_option maxHeartbeats 1600000 in
theorem agrees_any (p : Pt) (n : Nat) (w : World) (hn : n < B * B) (hv : p.v < B * B) (hm : p.m < B * B) :
    Calls Try.prog 31 #[patV p, numV n] w fun e w' => e = .returned (.bool (agr p n)) ∧ Below w.heap.size w w' := by
  unfold patV numV
  obtain ⟨v, m⟩ := p
  simp only at hv hm ⊢
  have HA : Hid (∀ W, Calls Try.prog 42 #[.agg #[.int .u64 ((n / B : Nat) : Int), .int .u64 ((n % B : Nat) : Int)], .agg #[.int .u64 ((m / B : Nat) : Int), .int .u64 ((m % B : Nat) : Int)]] W fun e w' => e = .returned (.agg #[.int .u64 (((n &&& m) / B : Nat) : Int), .int .u64 (((n &&& m) % B : Nat) : Int)]) ∧ Below W.heap.size W w') := fun W => numAnd_any n m W hn hm
  have HG : Hid (agr ⟨v, m⟩ n = (decide ((n &&& m) / B = v / B) && decide ((n &&& m) % B = v % B))) := by
    show _ = _
    unfold agr
    by_cases h : n &&& m = v
    · simp [h]
    · simp only [h, decide_false]
      symm
      rw [Bool.and_eq_false_iff]
      by_cases h2 : (n &&& m) / B = v / B
      · right
        refine decide_eq_false fun h3 => h ?_
        rw [← Nat.div_add_mod (n &&& m) B, ← Nat.div_add_mod v B, h2, h3]
      · left
        exact decide_eq_false h2
  obtain ⟨nh, e1⟩ : ∃ x, x = n / B := ⟨_, rfl⟩
  obtain ⟨nl, e2⟩ : ∃ x, x = n % B := ⟨_, rfl⟩
  obtain ⟨mh, e3⟩ : ∃ x, x = m / B := ⟨_, rfl⟩
  obtain ⟨ml, e4⟩ : ∃ x, x = m % B := ⟨_, rfl⟩
  obtain ⟨vh, e5⟩ : ∃ x, x = v / B := ⟨_, rfl⟩
  obtain ⟨vl, e6⟩ : ∃ x, x = v % B := ⟨_, rfl⟩
  obtain ⟨rh, e7⟩ : ∃ x, x = (n &&& m) / B := ⟨_, rfl⟩
  obtain ⟨rl, e8⟩ : ∃ x, x = (n &&& m) % B := ⟨_, rfl⟩
  rw [← e1, ← e2, ← e3, ← e4, ← e7, ← e8] at HA
  rw [← e5, ← e6, ← e7, ← e8] at HG
  rw [← e1, ← e2, ← e3, ← e4, ← e5, ← e6]
  clear e1 e2 e3 e4 e5 e6 e7 e8
  obtain ⟨rb, hrb⟩ : ∃ rb, rb = (decide (rh = vh) && decide (rl = vl)) := ⟨_, rfl⟩
  have heq : ∀ W, (Go.binOp .eql 24 (.agg #[.int .u64 (rh : Int), .int .u64 (rl : Int)]) (.agg #[.int .u64 (vh : Int), .int .u64 (vl : Int)])).run Try.prog W = .ok (.bool rb) W := fun W => by rw [hrb]; exact eql_pair W
  rw [← hrb] at HG
  clear hrb
  go_enter Try.func31, Try.ntmps31
  go_wp2_with fail
  have hbx : Below w.heap.size w ((w.alloc (.cells #[.int .u64 (vh : Int), .int .u64 (vl : Int), .int .u64 (mh : Int), .int .u64 (ml : Int)] 85)).alloc (.cells #[.int .u64 (nh : Int), .int .u64 (nl : Int)] 24)) := (by repeat (first | exact Below.refl _ _ | assumption | refine Below.drew ?_ | refine Below.alloc ?_ (by first | omega | (simp <;> omega)) _ | refine Below.setCell ?_ (by first | omega | (simp <;> omega)) _ | refine Below.trans ?_ (Below.mono (by assumption) (by first | omega | (simp <;> omega)))))
  generalize hX : (w.alloc (.cells #[.int .u64 (vh : Int), .int .u64 (vl : Int), .int .u64 (mh : Int), .int .u64 (ml : Int)] 85)).alloc (.cells #[.int .u64 (nh : Int), .int .u64 (nl : Int)] 24) = X at hbx
  have x0 : X.cell? ⟨w.heap.size, 0, none⟩ = some (.int .u64 (vh : Int)) := by rw [← hX]; simp [go_sem]
  have x1 : X.cell? ⟨w.heap.size, 1, none⟩ = some (.int .u64 (vl : Int)) := by rw [← hX]; simp [go_sem]
  have x2 : X.cell? ⟨w.heap.size, 2, none⟩ = some (.int .u64 (mh : Int)) := by rw [← hX]; simp [go_sem]
  have x3 : X.cell? ⟨w.heap.size, 3, none⟩ = some (.int .u64 (ml : Int)) := by rw [← hX]; simp [go_sem]
  have x4 : X.cell? ⟨w.heap.size + 1, 0, none⟩ = some (.int .u64 (nh : Int)) := by rw [← hX]; simp [go_sem]
  have x5 : X.cell? ⟨w.heap.size + 1, 1, none⟩ = some (.int .u64 (nl : Int)) := by rw [← hX]; simp [go_sem]
  have hx := Lib.hid (And.intro (below_drewN hbx 1) (And.intro x0 (And.intro x1 (And.intro x2 (And.intro x3 (And.intro x4 x5))))))
  clear hX hbx
  go_region_held3 (fun Wk => Below (w.heap.size) (w) Wk ∧ Wk.cell? ⟨w.heap.size, 0, none⟩ = some (.int .u64 (vh : Int)) ∧ Wk.cell? ⟨w.heap.size, 1, none⟩ = some (.int .u64 (vl : Int)) ∧ Wk.cell? ⟨w.heap.size, 2, none⟩ = some (.int .u64 (mh : Int)) ∧ Wk.cell? ⟨w.heap.size, 3, none⟩ = some (.int .u64 (ml : Int)) ∧ Wk.cell? ⟨w.heap.size + 1, 0, none⟩ = some (.int .u64 (nh : Int)) ∧ Wk.cell? ⟨w.heap.size + 1, 1, none⟩ = some (.int .u64 (nl : Int)))
    (first | exact hx.out | exact held_6_0 hb1 (by assumption) | assumption)
    (first
    | (go_at_call 42; (with_reducible refine (HA.out _).mono ?_); rintro e w1 ⟨rfl, hb1⟩))
  rename_i hS
  have HB := Lib.hid hS.1
  clear hS
  go_wp2_with fail
  go_ret
  exact ⟨by rw [HG.out]; rfl, HB.out⟩

end Go.Proofs.Ytnknpgfconfgjaa



/-
  table.Matches and the document's.
-/
namespace Go.Proofs.Ytnknpgfconfgjaa
open Go.RowKit

/-- Does an entry match? -/
def matB (e : Ent) (tab : Int) (ks : List Nat) : Bool := decide (e.tab = tab) && (decide (e.pats.length = ks.length) && (List.zip e.pats ks).all (fun x => agr x.1 x.2))
theorem matB_tab {e : Ent} {tab : Int} {ks : List Nat} (h : e.tab ≠ tab) : matB e tab ks = false := by unfold matB; simp [h]
theorem matB_len {e : Ent} {tab : Int} {ks : List Nat} (h : e.pats.length ≠ ks.length) : matB e tab ks = false := by unfold matB; simp [h]
theorem matB_not {e : Ent} {tab : Int} {ks : List Nat} {k n : Nat} {p : Pt} (h1 : e.pats[k]? = some p) (h2 : ks[k]? = some n) (h : agr p n = false) : matB e tab ks = false := by
  unfold matB
  rw [show (List.zip e.pats ks).all (fun x => agr x.1 x.2) = false from ?_]
  · simp
  · rw [List.all_eq_false]
    exact ⟨(p, n), List.mem_of_getElem? (i := k) (by rw [List.getElem?_zip_eq_some]; exact ⟨h1, h2⟩), by simp [h]⟩
theorem matB_yes {e : Ent} {tab : Int} {ks : List Nat} (h1 : e.tab = tab) (h2 : e.pats.length = ks.length) (h : ∀ (k : Nat) (p : Pt) (n : Nat), e.pats[k]? = some p → ks[k]? = some n → agr p n = true) : matB e tab ks = true := by
  unfold matB
  rw [show (List.zip e.pats ks).all (fun x => agr x.1 x.2) = true from ?_]
  · simp [h1, h2]
  · rw [List.all_eq_true]
    rintro ⟨p, n⟩ hx
    obtain ⟨k, hk⟩ := List.getElem?_of_mem hx
    rw [List.getElem?_zip_eq_some] at hk
    exact h k p n hk.1 hk.2

set_option maxRecDepth 100000 in
set_option maxHeartbeats 1600000 in
theorem matches_any (e : Ent) (tab : Int) (ks : List Nat) (ev kv : Value) (w : World) (he : EntV w ev e) (hk : NRow w kv ks) (hpl : e.pats.length ≤ 1000000) :
    Calls Try.prog 15 #[ev, .int .i64 tab, kv] w fun r w' => r = .returned (.bool (matB e tab ks)) ∧ Below w.heap.size w w' := by
  obtain ⟨pv, av, rfl, hp, ha⟩ := he
  obtain ⟨pp, pc, rfl, p1, p2⟩ := hp.shape
  obtain ⟨kp, kc, rfl, k1, k2⟩ := hk.shape
  obtain ⟨ap, ac, rfl, a1, a2⟩ := ha.shape
  obtain ⟨tb, pats, ln, pr, act, args⟩ := e
  simp only at hp ha p1 p2 a1 a2 hpl ⊢
  have HP := Lib.hid hp
  have HK := Lib.hid hk
  clear hp hk ha
  by_cases h1 : tb = tab
  · subst h1
    by_cases h2 : pats.length = ks.length
    · have HT : Hid ((∀ (k : Nat) (p : Pt) (n : Nat), pats[k]? = some p → ks[k]? = some n → agr p n = true) → matB ⟨tb, pats, ln, pr, act, args⟩ tb ks = true) := fun h => matB_yes rfl h2 h
      have HF : Hid (∀ (k n : Nat) (p : Pt), pats[k]? = some p → ks[k]? = some n → agr p n = false → matB ⟨tb, pats, ln, pr, act, args⟩ tb ks = false) := fun k n p q1 q2 q3 => matB_not q1 q2 q3
      obtain ⟨n, hn⟩ : ∃ n, n = pats.length := ⟨_, rfl⟩
      have hn2 : n = ks.length := hn.trans h2
      rw [← hn] at hpl p1 ⊢
      rw [← hn2] at k1 ⊢
      have HN := Lib.hid hn
      have HN2 := Lib.hid hn2
      have hpc : (n : Int) ≤ (pc : Int) := by omega
      clear hn hn2 h2
      go_enter Try.func15, Try.ntmps15
      go_wp2_with fail
      have HB0 : Hid (Below w.heap.size w (w.alloc (.cells #[.int .i64 tb, .slice pp n pc, .int .i64 ln, .int .i64 pr, .int .i64 act, .slice ap args.length ac] 60))) := (by repeat (first | exact Below.refl _ _ | assumption | refine Below.drew ?_ | refine Below.alloc ?_ (by first | omega | (simp <;> omega)) _ | refine Below.setCell ?_ (by first | omega | (simp <;> omega)) _ | refine Below.trans ?_ (Below.mono (by assumption) (by first | omega | (simp <;> omega)))))
      go_loopw [7, 8, 24] (fun u v i wr => ∃ k : Nat, k ≤ n ∧ i = .int .i64 k ∧ Hid (∀ (j : Nat) (p : Pt) (x : Nat), j < k → pats[j]? = some p → ks[j]? = some x → agr p x = true) ∧ Hid (Below w.heap.size w wr)) (fun _ _ i _ => n - (intOf i).toNat)
      case atStart => exact ⟨0, by omega, rfl, fun j _ _ h => absurd h (by omega), HB0.out⟩
      case round =>
        clear HB0
        obtain ⟨k, hkn, rfl, HJ, HW⟩ := hrel
        by_cases hlt : k < n
        · obtain ⟨p, hp⟩ : ∃ p, pats[k]? = some p := ⟨_, List.getElem?_eq_getElem (by have := HN.out; omega)⟩
          obtain ⟨x, hx⟩ : ∃ x, ks[k]? = some x := ⟨_, List.getElem?_eq_getElem (by have := HN2.out; omega)⟩
          obtain ⟨pb, po, pc', hpe, hpb, ⟨pv0, pc0, pc1⟩, ⟨pm0, pc2, pc3⟩⟩ := (HP.out.below keepP HW.out).at hp
          obtain ⟨kb, ko, kc', hke, hkb, kx0, kc0, kc1⟩ := (HK.out.below keepN HW.out).at hx
          simp only [Value.slice.injEq] at hpe hke
          obtain ⟨rfl, -, -⟩ := hpe
          obtain ⟨rfl, -, -⟩ := hke
          obtain ⟨v, m⟩ := p
          simp only at pv0 pc0 pc1 pm0 pc2 pc3
          have HC : Hid (∀ W, Calls Try.prog 31 #[.agg #[.int .u64 ((v / B : Nat) : Int), .int .u64 ((v % B : Nat) : Int), .int .u64 ((m / B : Nat) : Int), .int .u64 ((m % B : Nat) : Int)], .agg #[.int .u64 ((x / B : Nat) : Int), .int .u64 ((x % B : Nat) : Int)]] W fun e w' => e = .returned (.bool (agr ⟨v, m⟩ x)) ∧ Below W.heap.size W w') := fun W => agrees_any ⟨v, m⟩ x W kx0 pv0 pm0
          obtain ⟨q0, e0⟩ : ∃ q : Int, q = ((v / B : Nat) : Int) := ⟨_, rfl⟩
          obtain ⟨q1, e1⟩ : ∃ q : Int, q = ((v % B : Nat) : Int) := ⟨_, rfl⟩
          obtain ⟨q2, e2⟩ : ∃ q : Int, q = ((m / B : Nat) : Int) := ⟨_, rfl⟩
          obtain ⟨q3, e3⟩ : ∃ q : Int, q = ((m % B : Nat) : Int) := ⟨_, rfl⟩
          obtain ⟨q4, e4⟩ : ∃ q : Int, q = ((x / B : Nat) : Int) := ⟨_, rfl⟩
          obtain ⟨q5, e5⟩ : ∃ q : Int, q = ((x % B : Nat) : Int) := ⟨_, rfl⟩
          rw [← e0, ← e1, ← e2, ← e3, ← e4, ← e5] at HC
          rw [← e0] at pc0
          rw [← e1] at pc1
          rw [← e2] at pc2
          rw [← e3] at pc3
          rw [← e4] at kc0
          rw [← e5] at kc1
          have HPK := Lib.hid (And.intro hp hx)
          obtain ⟨r, hr⟩ : ∃ r, r = agr ⟨v, m⟩ x := ⟨_, rfl⟩
          rw [← hr] at HC
          have HR := Lib.hid hr
          clear e0 e1 e2 e3 e4 e5 hp hx pv0 pm0 kx0 hr
          have z1 : (k : Int) < (n : Int) := by omega
          go_wp2_with fail
          have hbx : Below wr.heap.size wr (wr.alloc (.cells #[.int .u64 q0, .int .u64 q1, .int .u64 q2, .int .u64 q3] 85)) := (by repeat (first | exact Below.refl _ _ | assumption | refine Below.drew ?_ | refine Below.alloc ?_ (by first | omega | (simp <;> omega)) _ | refine Below.setCell ?_ (by first | omega | (simp <;> omega)) _ | refine Below.trans ?_ (Below.mono (by assumption) (by first | omega | (simp <;> omega)))))
          generalize hX : wr.alloc (.cells #[.int .u64 q0, .int .u64 q1, .int .u64 q2, .int .u64 q3] 85) = X at hbx
          have x0 : X.cell? ⟨wr.heap.size, 0, none⟩ = some (.int .u64 q0) := by rw [← hX]; simp [go_sem]
          have x1 : X.cell? ⟨wr.heap.size, 1, none⟩ = some (.int .u64 q1) := by rw [← hX]; simp [go_sem]
          have x2 : X.cell? ⟨wr.heap.size, 2, none⟩ = some (.int .u64 q2) := by rw [← hX]; simp [go_sem]
          have x3 : X.cell? ⟨wr.heap.size, 3, none⟩ = some (.int .u64 q3) := by rw [← hX]; simp [go_sem]
          have x4 := (hbx.cell (cell_there kc0).1).trans kc0
          have x5 := (hbx.cell (cell_there kc1).1).trans kc1
          have hx := Lib.hid (And.intro (below_drewN hbx 1) (And.intro x0 (And.intro x1 (And.intro x2 (And.intro x3 (And.intro x4 x5))))))
          have z0 : (0 : Int) ≤ (k : Int) := by omega
          clear hX hbx kc0 kc1 pc0 pc1 pc2 pc3
          go_region_held3 (fun Wk => Below (wr.heap.size) (wr) Wk ∧ Wk.cell? ⟨wr.heap.size, 0, none⟩ = some (.int .u64 q0) ∧ Wk.cell? ⟨wr.heap.size, 1, none⟩ = some (.int .u64 q1) ∧ Wk.cell? ⟨wr.heap.size, 2, none⟩ = some (.int .u64 q2) ∧ Wk.cell? ⟨wr.heap.size, 3, none⟩ = some (.int .u64 q3) ∧ Wk.cell? ⟨kb, ko + k * 2, none⟩ = some (.int .u64 q4) ∧ Wk.cell? ⟨kb, ko + k * 2 + 1, none⟩ = some (.int .u64 q5))
            (first | exact hx.out | exact held_6_0 hb1 (by assumption) | assumption)
            (first
            | (go_at_call 31; (with_reducible refine (HC.out _).mono ?_); rintro e w1 ⟨rfl, hb1⟩))
          rename_i hS
          have HW1 : Hid (Below w.heap.size w w1) := HW.out.trans (hS.1.mono HW.out.size)
          clear hS x0 x1 x2 x3 x4 x5 hx hb1 HW HC
          cases r
          · go_wp2_with fail
            go_ret
            exact ⟨by rw [HF.out k x ⟨v, m⟩ HPK.out.1 HPK.out.2 HR.out.symm]; rfl, HW1.out⟩
          · go_wp2_with fail
            go_roundw
            case rel => exact ⟨k + 1, by omega, by go_num, fun j p' x' hj h1 h2 => by
              by_cases e : j = k
              · subst e
                rw [HPK.out.1] at h1
                rw [HPK.out.2] at h2
                cases h1
                cases h2
                exact HR.out.symm
              · exact HJ.out j p' x' (by omega) h1 h2, HW1⟩
            case measure => simp [intOf]; omega
        · obtain rfl : k = n := by omega
          go_wp2_with fail
          go_ret
          exact ⟨by rw [HT.out fun k p x q1 q2 => HJ.out k p x (by have := (List.getElem?_eq_some_iff.1 q1).1; have := HN.out; omega) q1 q2]; rfl, HW.out⟩
    · have HE : Hid (matB ⟨tb, pats, ln, pr, act, args⟩ tb ks = false) := matB_len h2
      have hne : ¬ ((pats.length : Nat) : Int) = ((ks.length : Nat) : Int) := by omega
      clear h2
      go_enter Try.func15, Try.ntmps15
      go_wp2_with fail
      go_ret
      exact ⟨by rw [HE.out]; rfl, (by repeat (first | exact Below.refl _ _ | assumption | refine Below.drew ?_ | refine Below.alloc ?_ (by first | omega | (simp <;> omega)) _ | refine Below.setCell ?_ (by first | omega | (simp <;> omega)) _ | refine Below.trans ?_ (Below.mono (by assumption) (by first | omega | (simp <;> omega)))))⟩
  · have HE : Hid (matB ⟨tb, pats, ln, pr, act, args⟩ tab ks = false) := matB_tab h1
    go_enter Try.func15, Try.ntmps15
    go_wp2_with fail
    go_ret
    exact ⟨by rw [HE.out]; rfl, (by repeat (first | exact Below.refl _ _ | assumption | refine Below.drew ?_ | refine Below.alloc ?_ (by first | omega | (simp <;> omega)) _ | refine Below.setCell ?_ (by first | omega | (simp <;> omega)) _ | refine Below.trans ?_ (Below.mono (by assumption) (by first | omega | (simp <;> omega)))))⟩

end Go.Proofs.Ytnknpgfconfgjaa

/-
  The plain law of tables: the order of a table's entries; the one that is chosen.
-/
namespace Go.Proofs.Ytnknpgfconfgjaa
open Stab

def eAt (l : List Ent) (x : Int) : Ent := l.getD x.toNat ⟨0, [], 0, 0, 0, []⟩
theorem eAt_nat (l : List Ent) (k : Nat) (h : k < l.length) : l[k]? = some (eAt l k) := by
  unfold eAt; simp [List.getElem?_eq_getElem h, List.getD_eq_getElem?_getD]
/-- Does entry x go ahead of entry y? -/
def lts (l : List Ent) (x y : Int) : Bool := ahd (eAt l x).prio (eAt l x).len (eAt l y).prio (eAt l y).len
/-- The strict total order of a list's places. -/
def tot (l : List Ent) (x y : Int) : Bool := lts l x y || (decide ((eAt l x).prio = (eAt l y).prio ∧ (eAt l x).len = (eAt l y).len) && decide (x < y))
theorem tot_iff {l : List Ent} {x y : Int} : tot l x y = true ↔ ((eAt l y).prio < (eAt l x).prio ∨ ((eAt l x).prio = (eAt l y).prio ∧ ((eAt l y).len < (eAt l x).len ∨ ((eAt l x).len = (eAt l y).len ∧ x < y)))) := by
  unfold tot lts ahd
  simp only [Bool.or_eq_true, Bool.and_eq_true, decide_eq_true_eq]
  constructor
  · rintro ((h | ⟨h1, h2⟩) | ⟨⟨h1, h2⟩, h3⟩) <;> omega
  · intro h
    by_cases h1 : (eAt l y).prio < (eAt l x).prio
    · exact .inl (.inl h1)
    · by_cases h2 : (eAt l y).len < (eAt l x).len
      · exact .inl (.inr ⟨by omega, h2⟩)
      · exact .inr ⟨⟨by omega, by omega⟩, by omega⟩
theorem tot_ord (l : List Ent) : Ord (tot l) where
  irr := fun x => by
    cases h : tot l x x
    · rfl
    · rw [tot_iff] at h; omega
  tr := fun x y z h1 h2 => by rw [tot_iff] at *; omega
  tot := fun x y h1 h2 => by
    rw [tot_iff]
    have h3 : ¬ tot l x y = true := by rw [h2]; decide
    rw [tot_iff] at h3
    omega
theorem lts_iff {l : List Ent} {x y : Int} : lts l x y = true ↔ ((eAt l y).prio < (eAt l x).prio ∨ ((eAt l x).prio = (eAt l y).prio ∧ (eAt l y).len < (eAt l x).len)) := by
  unfold lts ahd
  simp only [Bool.or_eq_true, Bool.and_eq_true, decide_eq_true_eq]
theorem tot_lts {l : List Ent} {x y : Int} (h : x < y) : tot l y x = lts l y x := by
  rw [Bool.eq_iff_iff, tot_iff, lts_iff]; omega
/-- What the comparison tells. -/
def cmpE (l : List Ent) (x y : Int) : Int := if lts l x y then -1 else if lts l y x then 1 else 0
theorem cmpE_neg {l : List Ent} {x y : Int} : x < y → (cmpE l y x < 0 ↔ tot l y x = true) := by
  intro h
  rw [tot_lts h]
  unfold cmpE
  cases h1 : lts l y x
  · cases h2 : lts l x y <;> simp
  · simp

/-- The places of a table's entries. -/
def sel (l : List Ent) (tab : Int) : Nat → List Int
  | 0 => []
  | k + 1 => sel l tab k ++ (if (eAt l k).tab = tab then [(k : Int)] else [])
theorem mem_sel {l : List Ent} {tab x : Int} : ∀ {k : Nat}, x ∈ sel l tab k ↔ (0 ≤ x ∧ x < k ∧ (eAt l x).tab = tab)
  | 0 => by simp [sel]; omega
  | k + 1 => by
    unfold sel
    rw [List.mem_append, mem_sel (k := k)]
    by_cases h : (eAt l (k : Int)).tab = tab
    · rw [if_pos h, List.mem_singleton]
      constructor
      · rintro (⟨h1, h2, h3⟩ | rfl)
        · exact ⟨h1, by omega, h3⟩
        · exact ⟨by omega, by omega, h⟩
      · rintro ⟨h1, h2, h3⟩
        by_cases e : x = (k : Int)
        · exact .inr e
        · exact .inl ⟨h1, by omega, h3⟩
    · rw [if_neg h]
      constructor
      · rintro (⟨h1, h2, h3⟩ | h4)
        · exact ⟨h1, by omega, h3⟩
        · cases h4
      · rintro ⟨h1, h2, h3⟩
        by_cases e : x = (k : Int)
        · exact absurd h3 (by rw [e]; exact h)
        · exact .inl ⟨h1, by omega, h3⟩
theorem sel_len (l : List Ent) (tab : Int) : ∀ k, (sel l tab k).length ≤ k
  | 0 => by simp [sel]
  | k + 1 => by
    unfold sel
    have := sel_len l tab k
    rw [List.length_append]
    split <;> simp <;> omega
theorem sel_lt (l : List Ent) (tab : Int) {k p : Nat} (h : p < (sel l tab k).length) : 0 ≤ (sel l tab k).getD p 0 ∧ (sel l tab k).getD p 0 < k ∧ (eAt l ((sel l tab k).getD p 0)).tab = tab := by
  rw [List.getD_eq_getElem?_getD, List.getElem?_eq_getElem h, Option.getD_some]
  exact mem_sel.1 (List.getElem_mem h)
theorem getD_app1 {xs ys : List Int} {p : Nat} (h : p < xs.length) : (xs ++ ys).getD p 0 = xs.getD p 0 := by
  rw [List.getD_eq_getElem?_getD, List.getD_eq_getElem?_getD, List.getElem?_append_left h]
theorem getD_app2 {xs : List Int} {y : Int} : (xs ++ [y]).getD xs.length 0 = y := by
  rw [List.getD_eq_getElem?_getD, List.getElem?_append_right (Nat.le_refl _)]; simp
theorem sel_asc (l : List Ent) (tab : Int) : ∀ k p q, p < q → q < (sel l tab k).length → (sel l tab k).getD p 0 < (sel l tab k).getD q 0
  | 0 => fun p q _ h => by simp [sel] at h
  | k + 1 => fun p q h1 h2 => by
    unfold sel at h2 ⊢
    by_cases e : (eAt l (k : Int)).tab = tab
    · rw [if_pos e] at h2 ⊢
      rw [List.length_append, List.length_singleton] at h2
      by_cases hq : q < (sel l tab k).length
      · rw [getD_app1 hq, getD_app1 (by omega)]; exact sel_asc l tab k p q h1 hq
      · obtain rfl : q = (sel l tab k).length := by omega
        rw [getD_app2, getD_app1 h1]
        exact (sel_lt l tab h1).2.1
    · rw [if_neg e] at h2 ⊢
      rw [List.append_nil] at h2 ⊢
      exact sel_asc l tab k p q h1 h2

/-- A list as a function of places. -/
def fnOf (xs : List Int) : Nat → Int := fun i => xs.getD i 0
/-- The list is the table's entries in their order. -/
structure IsOrd (l : List Ent) (tab : Int) (xs : List Int) : Prop where
  len : xs.length = (sel l tab l.length).length
  srt : Srt (tot l) (fnOf xs) 0 xs.length
  same : Same (fnOf (sel l tab l.length)) (fnOf xs) 0 xs.length

theorem IsOrd.mem {l : List Ent} {tab x : Int} {xs : List Int} (h : IsOrd l tab xs) : x ∈ xs ↔ (0 ≤ x ∧ x < l.length ∧ (eAt l x).tab = tab) := by
  rw [← mem_sel]
  have hs := h.same x
  have key : ∀ ys : List Int, x ∈ ys ↔ ∃ i, 0 ≤ i ∧ i < ys.length ∧ fnOf ys i = x := fun ys => by
    rw [List.mem_iff_getElem]
    constructor
    · rintro ⟨i, hi, e⟩
      exact ⟨i, Nat.zero_le _, hi, by unfold fnOf; rw [List.getD_eq_getElem?_getD, List.getElem?_eq_getElem hi]; exact e⟩
    · rintro ⟨i, -, hi, e⟩
      exact ⟨i, hi, by unfold fnOf at e; rw [List.getD_eq_getElem?_getD, List.getElem?_eq_getElem hi] at e; exact e⟩
  rw [key xs, key (sel l tab l.length), ← h.len]
  exact hs.symm

end Go.Proofs.Ytnknpgfconfgjaa
