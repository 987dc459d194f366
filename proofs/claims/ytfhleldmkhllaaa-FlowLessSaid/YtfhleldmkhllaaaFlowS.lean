/-
  The regions of flow.comes that draw their order in the round.
-/
import Derived.Test.YtfhleldmkhllaaaFlowR
namespace Go.Proofs.Ytfhleldmkhllaaa
open Go.RowKit Flow

def r9D : List (Option Nat) := [some 36, some 37, some 38, some 39, some 40, some 41, some 42, some 43, none]
theorem r9_slots : Slots 89 r9D := by
  have h1 : ((List.range 9).all fun i => (List.range 9).all fun j => decide (i = j) || (r9D[i]?.getD none).isNone || !((r9D[i]?.getD none) == (r9D[j]?.getD none))) = true := by decide
  have h2 : (r9D.all fun x => match x with | some s => decide (s < 89) | none => true) = true := by decide
  refine ⟨fun i j s hi hj => ?_, fun i s hi => ?_⟩
  · have li : i < 9 := (List.getElem?_eq_some_iff.1 hi).1
    have lj : j < 9 := (List.getElem?_eq_some_iff.1 hj).1
    have := List.all_eq_true.1 (List.all_eq_true.1 h1 i (List.mem_range.2 li)) j (List.mem_range.2 lj)
    rw [hi, hj] at this
    simpa using this
  · have := List.all_eq_true.1 h2 _ (List.mem_of_getElem? hi)
    simpa using this
theorem r9_old (s : Nat) (h : s < 36) : ∀ i : Nat, r9D[i]? ≠ some (some s) := by
  have h2 : (r9D.all fun x => match x with | some s => decide (36 ≤ s) | none => true) = true := by decide
  intro i hi
  have := List.all_eq_true.1 h2 _ (List.mem_of_getElem? hi)
  simp at this
  omega
def r9V (S0 gT nn xi r1 : Nat) : List Value := [.slice (some ⟨gT, 0, none⟩) nn nn, .int .i64 (xi : Int), .slice (some ⟨gT, 0, none⟩) nn nn, .int .i64 (xi : Int), .int .i64 ((xi : Int) + 1), .pointer (some ⟨gT, xi + 1, none⟩), .int .i64 (r1 : Int), .pointer (some ⟨gT, xi, none⟩), undef]
noncomputable def r9O : { c : Array Oper // (Try.f10.body.bind (findRegion 9)) = some (.region 9 c true) } := ⟨_, rfl⟩
theorem r9_o0 : ∃ o, r9O.1[0]? = some o ∧ o.dst = some 36 ∧ o.guard = none ∧ o.op = Go.Op.load 38 (Go.Operand.tmp 3) ∧ (∀ c, o.op ≠ .defer c) := ⟨_, rfl, rfl, rfl, rfl, fun c h => by cases h⟩
theorem r9_o1 : ∃ o, r9O.1[1]? = some o ∧ o.dst = some 37 ∧ o.guard = none ∧ o.op = Go.Op.move (Go.Operand.tmp 4) ∧ (∀ c, o.op ≠ .defer c) := ⟨_, rfl, rfl, rfl, rfl, fun c h => by cases h⟩
theorem r9_o2 : ∃ o, r9O.1[2]? = some o ∧ o.dst = some 38 ∧ o.guard = none ∧ o.op = Go.Op.load 38 (Go.Operand.tmp 3) ∧ (∀ c, o.op ≠ .defer c) := ⟨_, rfl, rfl, rfl, rfl, fun c h => by cases h⟩
theorem r9_o3 : ∃ o, r9O.1[3]? = some o ∧ o.dst = some 39 ∧ o.guard = none ∧ o.op = Go.Op.move (Go.Operand.tmp 4) ∧ (∀ c, o.op ≠ .defer c) := ⟨_, rfl, rfl, rfl, rfl, fun c h => by cases h⟩
theorem r9_o4 : ∃ o, r9O.1[4]? = some o ∧ o.dst = some 40 ∧ o.guard = none ∧ o.op = Go.Op.binOp Go.BinOp.add 3 (Go.Operand.tmp 39) (Go.Operand.const (Go.Value.int Go.IntKind.i64 1)) 3 ∧ (∀ c, o.op ≠ .defer c) := ⟨_, rfl, rfl, rfl, rfl, fun c h => by cases h⟩
theorem r9_o5 : ∃ o, r9O.1[5]? = some o ∧ o.dst = some 41 ∧ o.guard = none ∧ o.op = Go.Op.indexAddr 38 (Go.Operand.tmp 38) (Go.Operand.tmp 40) ∧ (∀ c, o.op ≠ .defer c) := ⟨_, rfl, rfl, rfl, rfl, fun c h => by cases h⟩
theorem r9_o6 : ∃ o, r9O.1[6]? = some o ∧ o.dst = some 42 ∧ o.guard = none ∧ o.op = Go.Op.load 3 (Go.Operand.tmp 41) ∧ (∀ c, o.op ≠ .defer c) := ⟨_, rfl, rfl, rfl, rfl, fun c h => by cases h⟩
theorem r9_o7 : ∃ o, r9O.1[7]? = some o ∧ o.dst = some 43 ∧ o.guard = none ∧ o.op = Go.Op.indexAddr 38 (Go.Operand.tmp 36) (Go.Operand.tmp 37) ∧ (∀ c, o.op ≠ .defer c) := ⟨_, rfl, rfl, rfl, rfl, fun c h => by cases h⟩
theorem r9_o8 : ∃ o, r9O.1[8]? = some o ∧ o.dst = none ∧ o.guard = none ∧ o.op = Go.Op.store 3 (Go.Operand.tmp 43) (Go.Operand.tmp 42) ∧ (∀ c, o.op ≠ .defer c) := ⟨_, rfl, rfl, rfl, rfl, fun c h => by cases h⟩
theorem r9_e0 : ∃ o, r9O.1[0]? = some o ∧ o.after = #[] := ⟨_, rfl, rfl⟩
theorem r9_e1 : ∃ o, r9O.1[1]? = some o ∧ o.after = #[] := ⟨_, rfl, rfl⟩
theorem r9_e2 : ∃ o, r9O.1[2]? = some o ∧ o.after = #[] := ⟨_, rfl, rfl⟩
theorem r9_e3 : ∃ o, r9O.1[3]? = some o ∧ o.after = #[] := ⟨_, rfl, rfl⟩
theorem r9_e4 : ∃ o, r9O.1[4]? = some o ∧ o.after = #[⟨3, .data⟩] := ⟨_, rfl, rfl⟩
theorem r9_e5 : ∃ o, r9O.1[5]? = some o ∧ o.after = #[⟨2, .data⟩, ⟨4, .data⟩] := ⟨_, rfl, rfl⟩
theorem r9_e6 : ∃ o, r9O.1[6]? = some o ∧ o.after = #[⟨5, .data⟩] := ⟨_, rfl, rfl⟩
theorem r9_e7 : ∃ o, r9O.1[7]? = some o ∧ o.after = #[⟨0, .data⟩, ⟨1, .data⟩, ⟨0, .phase⟩, ⟨1, .phase⟩, ⟨2, .phase⟩, ⟨3, .phase⟩, ⟨4, .phase⟩, ⟨5, .phase⟩, ⟨6, .phase⟩] := ⟨_, rfl, rfl⟩
theorem r9_e8 : ∃ o, r9O.1[8]? = some o ∧ o.after = #[⟨7, .data⟩, ⟨6, .data⟩, ⟨0, .phase⟩, ⟨1, .phase⟩, ⟨2, .phase⟩, ⟨3, .phase⟩, ⟨4, .phase⟩, ⟨5, .phase⟩, ⟨6, .phase⟩] := ⟨_, rfl, rfl⟩
set_option maxRecDepth 100000 in
set_option maxHeartbeats 4000000 in
theorem r9 (l' m : Nat) (W : World) (S0 gT nn xi r1 : Nat) (Q : Exit → Act → World → Prop) (a : Act) (hsz : a.tmps.size = 89)
    (k3 : a.tmps[3]? = some (.pointer (some ⟨S0, 0, none⟩)))
    (k4 : a.tmps[4]? = some (.int .i64 (xi : Int)))
    (cT : W.cell? ⟨S0, 0, none⟩ = some (.slice (some ⟨gT, 0, none⟩) nn nn))
    (hxn : xi + 1 < nn)
    (hnn : nn ≤ 1000000000000001)
    (y1 : W.cell? ⟨gT, xi + 1, none⟩ = some (.int .i64 (r1 : Int)))
    (u : Value) (y2 : W.cell? ⟨gT, xi, none⟩ = some u)
    (y3 : W.frozen? ⟨gT, xi, none⟩ = false)
    (hexit : ∀ a' W', W' = W.drew.setCell ⟨gT, xi, none⟩ (.int .i64 (r1 : Int)) → Q .normal a' W') :
    Code.wpIn (Fence.wide.inRound l') m Try.prog (((Try.f10.body.bind (findRegion 9))).getD .skip) Q a W := by
  rw [r9O.2]
  show Code.wpIn _ _ _ (.region 9 r9O.1 true) Q a W
  refine wpIn_region_inv (by kernel_rfl) (fun L a1 w1 => RI a.tmps r9D (r9V S0 gT nn xi r1) L a1 ∧ ((did L 8 = true → (∀ j, j < 8 → did L j = true) ∧ w1 = W.drew.setCell ⟨gT, xi, none⟩ (.int .i64 (r1 : Int))) ∧ (did L 8 = false → w1 = W.drew))) ?_ ?_ ?_ ?_
  · exact ⟨RI.init rfl, ⟨fun h => (by rw [did_none] at h; cases h), fun _ => rfl⟩⟩
  · rintro L a1 w1 i hL hi hnd hdep ⟨hI, hw⟩
    have hLs : L.size = 9 := hL
    have hsl : Slots a.tmps.size r9D := by rw [hsz]; exact r9_slots
    have e3 : a1.eval (.tmp 3) = .pointer (some ⟨S0, 0, none⟩) := hI.ev0 (r9_old 3 (by decide)) k3
    have e4 : a1.eval (.tmp 4) = .int .i64 (xi : Int) := hI.ev0 (r9_old 4 (by decide)) k4
    match i, hi with
    | 0, _ =>
      obtain ⟨o, ho, hd, hg, hop, hnod⟩ := r9_o0
      have h8 : did L 8 = false := by
        cases hq : did L 8 with
        | false => rfl
        | true => exact absurd ((hw.1 hq).1 0 (by decide)) (by rw [hnd]; decide)
      have hw0 : w1 = W.drew := hw.2 h8
      refine wpOpIn_val ho (wanted_un hg) hnod (ex_load_ints hop e3 (by rw [hw0]; exact cT)) ⟨by rw [hd]; exact hI.put hsl rfl rfl, ?_⟩
      rw [did_set (by omega), show decide (8 = 0) = false from rfl, Bool.false_or, h8]; exact ⟨fun h => (by cases h), fun _ => hw0⟩
    | 1, _ =>
      obtain ⟨o, ho, hd, hg, hop, hnod⟩ := r9_o1
      have h8 : did L 8 = false := by
        cases hq : did L 8 with
        | false => rfl
        | true => exact absurd ((hw.1 hq).1 1 (by decide)) (by rw [hnd]; decide)
      have hw0 : w1 = W.drew := hw.2 h8
      refine wpOpIn_val ho (wanted_un hg) hnod (ex_move hop e4) ⟨by rw [hd]; exact hI.put hsl rfl rfl, ?_⟩
      rw [did_set (by omega), show decide (8 = 1) = false from rfl, Bool.false_or, h8]; exact ⟨fun h => (by cases h), fun _ => hw0⟩
    | 2, _ =>
      obtain ⟨o, ho, hd, hg, hop, hnod⟩ := r9_o2
      have h8 : did L 8 = false := by
        cases hq : did L 8 with
        | false => rfl
        | true => exact absurd ((hw.1 hq).1 2 (by decide)) (by rw [hnd]; decide)
      have hw0 : w1 = W.drew := hw.2 h8
      refine wpOpIn_val ho (wanted_un hg) hnod (ex_load_ints hop e3 (by rw [hw0]; exact cT)) ⟨by rw [hd]; exact hI.put hsl rfl rfl, ?_⟩
      rw [did_set (by omega), show decide (8 = 2) = false from rfl, Bool.false_or, h8]; exact ⟨fun h => (by cases h), fun _ => hw0⟩
    | 3, _ =>
      obtain ⟨o, ho, hd, hg, hop, hnod⟩ := r9_o3
      have h8 : did L 8 = false := by
        cases hq : did L 8 with
        | false => rfl
        | true => exact absurd ((hw.1 hq).1 3 (by decide)) (by rw [hnd]; decide)
      have hw0 : w1 = W.drew := hw.2 h8
      refine wpOpIn_val ho (wanted_un hg) hnod (ex_move hop e4) ⟨by rw [hd]; exact hI.put hsl rfl rfl, ?_⟩
      rw [did_set (by omega), show decide (8 = 3) = false from rfl, Bool.false_or, h8]; exact ⟨fun h => (by cases h), fun _ => hw0⟩
    | 4, _ =>
      obtain ⟨o, ho, hd, hg, hop, hnod⟩ := r9_o4
      have h8 : did L 8 = false := by
        cases hq : did L 8 with
        | false => rfl
        | true => exact absurd ((hw.1 hq).1 4 (by decide)) (by rw [hnd]; decide)
      have hw0 : w1 = W.drew := hw.2 h8
      have e39 : a1.eval (.tmp 39) = .int .i64 (xi : Int) := hI.ev (i := 3) (hdep o ho ⟨3, .data⟩ (by obtain ⟨o2, ho2, hof⟩ := r9_e4; rw [ho] at ho2; cases ho2; rw [hof]; simp) (by kernel_rfl)) rfl rfl
      refine wpOpIn_val ho (wanted_un hg) hnod (ex_add1 hop e39 (by omega) (by omega) rfl) ⟨by rw [hd]; exact hI.put hsl rfl rfl, ?_⟩
      rw [did_set (by omega), show decide (8 = 4) = false from rfl, Bool.false_or, h8]; exact ⟨fun h => (by cases h), fun _ => hw0⟩
    | 5, _ =>
      obtain ⟨o, ho, hd, hg, hop, hnod⟩ := r9_o5
      have h8 : did L 8 = false := by
        cases hq : did L 8 with
        | false => rfl
        | true => exact absurd ((hw.1 hq).1 5 (by decide)) (by rw [hnd]; decide)
      have hw0 : w1 = W.drew := hw.2 h8
      have e38 : a1.eval (.tmp 38) = .slice (some ⟨gT, 0, none⟩) nn nn := hI.ev (i := 2) (hdep o ho ⟨2, .data⟩ (by obtain ⟨o2, ho2, hof⟩ := r9_e5; rw [ho] at ho2; cases ho2; rw [hof]; simp) (by kernel_rfl)) rfl rfl
      have e40 : a1.eval (.tmp 40) = .int .i64 ((xi : Int) + 1) := hI.ev (i := 4) (hdep o ho ⟨4, .data⟩ (by obtain ⟨o2, ho2, hof⟩ := r9_e5; rw [ho] at ho2; cases ho2; rw [hof]; simp) (by kernel_rfl)) rfl rfl
      refine wpOpIn_val ho (wanted_un hg) hnod (ex_index (j := xi + 1) hop e38 e40 (by omega)) ⟨by rw [hd]; exact hI.put hsl rfl rfl, ?_⟩
      rw [did_set (by omega), show decide (8 = 5) = false from rfl, Bool.false_or, h8]; exact ⟨fun h => (by cases h), fun _ => hw0⟩
    | 6, _ =>
      obtain ⟨o, ho, hd, hg, hop, hnod⟩ := r9_o6
      have h8 : did L 8 = false := by
        cases hq : did L 8 with
        | false => rfl
        | true => exact absurd ((hw.1 hq).1 6 (by decide)) (by rw [hnd]; decide)
      have hw0 : w1 = W.drew := hw.2 h8
      have e41 : a1.eval (.tmp 41) = .pointer (some ⟨gT, xi + 1, none⟩) := hI.ev (i := 5) (hdep o ho ⟨5, .data⟩ (by obtain ⟨o2, ho2, hof⟩ := r9_e6; rw [ho] at ho2; cases ho2; rw [hof]; simp) (by kernel_rfl)) rfl rfl
      refine wpOpIn_val ho (wanted_un hg) hnod (ex_load_int hop e41 (by rw [hw0]; exact y1)) ⟨by rw [hd]; exact hI.put hsl rfl rfl, ?_⟩
      rw [did_set (by omega), show decide (8 = 6) = false from rfl, Bool.false_or, h8]; exact ⟨fun h => (by cases h), fun _ => hw0⟩
    | 7, _ =>
      obtain ⟨o, ho, hd, hg, hop, hnod⟩ := r9_o7
      have h8 : did L 8 = false := by
        cases hq : did L 8 with
        | false => rfl
        | true => exact absurd ((hw.1 hq).1 7 (by decide)) (by rw [hnd]; decide)
      have hw0 : w1 = W.drew := hw.2 h8
      have e36 : a1.eval (.tmp 36) = .slice (some ⟨gT, 0, none⟩) nn nn := hI.ev (i := 0) (hdep o ho ⟨0, .data⟩ (by obtain ⟨o2, ho2, hof⟩ := r9_e7; rw [ho] at ho2; cases ho2; rw [hof]; simp) (by kernel_rfl)) rfl rfl
      have e37 : a1.eval (.tmp 37) = .int .i64 (xi : Int) := hI.ev (i := 1) (hdep o ho ⟨1, .data⟩ (by obtain ⟨o2, ho2, hof⟩ := r9_e7; rw [ho] at ho2; cases ho2; rw [hof]; simp) (by kernel_rfl)) rfl rfl
      refine wpOpIn_val ho (wanted_un hg) hnod (ex_index hop e36 e37 (by omega)) ⟨by rw [hd]; exact hI.put hsl rfl rfl, ?_⟩
      rw [did_set (by omega), show decide (8 = 7) = false from rfl, Bool.false_or, h8]; exact ⟨fun h => (by cases h), fun _ => hw0⟩
    | 8, _ =>
      obtain ⟨o, ho, hd, hg, hop, hnod⟩ := r9_o8
      have hw0 : w1 = W.drew := hw.2 hnd
      have e42 : a1.eval (.tmp 42) = .int .i64 (r1 : Int) := hI.ev (i := 6) (hdep o ho ⟨6, .data⟩ (by obtain ⟨o2, ho2, hof⟩ := r9_e8; rw [ho] at ho2; cases ho2; rw [hof]; simp) (by kernel_rfl)) rfl rfl
      have e43 : a1.eval (.tmp 43) = .pointer (some ⟨gT, xi, none⟩) := hI.ev (i := 7) (hdep o ho ⟨7, .data⟩ (by obtain ⟨o2, ho2, hof⟩ := r9_e8; rw [ho] at ho2; cases ho2; rw [hof]; simp) (by kernel_rfl)) rfl rfl
      refine wpOpIn_skip ho (wanted_un hg) hnod (ex_store_int hop e43 e42 (by rw [hw0]; exact y2) (by rw [hw0]; exact y3)) ⟨by rw [hd]; exact hI.skip rfl, ?_⟩
      rw [did_set (by omega), show decide (8 = 8) = true from rfl, Bool.true_or]
      have hj : ∀ j, j < 8 → did L j = true := by
        obtain ⟨o2, ho2, hof⟩ := r9_e8
        rw [ho] at ho2; cases ho2
        intro j hj
        match j, hj with
        | 0, _ => exact hdep o ho ⟨0, .phase⟩ (by rw [hof]; simp) (by kernel_rfl)
        | 1, _ => exact hdep o ho ⟨1, .phase⟩ (by rw [hof]; simp) (by kernel_rfl)
        | 2, _ => exact hdep o ho ⟨2, .phase⟩ (by rw [hof]; simp) (by kernel_rfl)
        | 3, _ => exact hdep o ho ⟨3, .phase⟩ (by rw [hof]; simp) (by kernel_rfl)
        | 4, _ => exact hdep o ho ⟨4, .phase⟩ (by rw [hof]; simp) (by kernel_rfl)
        | 5, _ => exact hdep o ho ⟨5, .phase⟩ (by rw [hof]; simp) (by kernel_rfl)
        | 6, _ => exact hdep o ho ⟨6, .phase⟩ (by rw [hof]; simp) (by kernel_rfl)
        | 7, _ => exact hdep o ho ⟨7, .data⟩ (by rw [hof]; simp) (by kernel_rfl)
      exact ⟨fun _ => ⟨fun j h => (by rw [did_set (by omega), hj j h, Bool.or_true]), by rw [hw0]⟩, fun h => (by cases h)⟩
    | i + 9, hi => exact absurd hi (by show ¬ (i + 9 < 9); omega)
  · intro i o ho e he
    have h : ((List.range 9).all fun i => (r9O.1[i]?.map fun o => o.after.all fun e => decide (e.on < i)).getD false) = true := by kernel_rfl
    have hi : i < 9 := by
      by_cases q : i < 9
      · exact q
      · rw [Array.getElem?_eq_none (by show 9 ≤ i; omega)] at ho; cases ho
    have h2 := List.all_eq_true.1 h i (List.mem_range.2 hi)
    rw [ho] at h2
    simp only [Option.map_some, Option.getD_some, Array.all_eq_true'] at h2
    simpa using h2 e he
  · rintro L a1 w1 hall ⟨hI, hw⟩
    exact hexit a1 w1 (hw.1 (hall 8 (by show 8 < 9; decide))).2

def r12D : List (Option Nat) := [some 49, some 50, some 51, some 52, some 53, some 54, some 55, some 56, none]
theorem r12_slots : Slots 89 r12D := by
  have h1 : ((List.range 9).all fun i => (List.range 9).all fun j => decide (i = j) || (r12D[i]?.getD none).isNone || !((r12D[i]?.getD none) == (r12D[j]?.getD none))) = true := by decide
  have h2 : (r12D.all fun x => match x with | some s => decide (s < 89) | none => true) = true := by decide
  refine ⟨fun i j s hi hj => ?_, fun i s hi => ?_⟩
  · have li : i < 9 := (List.getElem?_eq_some_iff.1 hi).1
    have lj : j < 9 := (List.getElem?_eq_some_iff.1 hj).1
    have := List.all_eq_true.1 (List.all_eq_true.1 h1 i (List.mem_range.2 li)) j (List.mem_range.2 lj)
    rw [hi, hj] at this
    simpa using this
  · have := List.all_eq_true.1 h2 _ (List.mem_of_getElem? hi)
    simpa using this
theorem r12_old (s : Nat) (h : s < 49) : ∀ i : Nat, r12D[i]? ≠ some (some s) := by
  have h2 : (r12D.all fun x => match x with | some s => decide (49 ≤ s) | none => true) = true := by decide
  intro i hi
  have := List.all_eq_true.1 h2 _ (List.mem_of_getElem? hi)
  simp at this
  omega
def r12V (S0 gT nn xi r1 Bx tj : Nat) : List Value := [.slice (some ⟨gT, 0, none⟩) nn nn, .int .i64 (xi : Int), .slice (some ⟨gT, 0, none⟩) nn nn, .pointer (some ⟨Bx, 4, none⟩), .int .i64 (tj : Int), .pointer (some ⟨gT, tj, none⟩), .int .i64 (r1 : Int), .pointer (some ⟨gT, xi, none⟩), undef]
noncomputable def r12O : { c : Array Oper // (Try.f10.body.bind (findRegion 12)) = some (.region 12 c true) } := ⟨_, rfl⟩
theorem r12_o0 : ∃ o, r12O.1[0]? = some o ∧ o.dst = some 49 ∧ o.guard = none ∧ o.op = Go.Op.load 38 (Go.Operand.tmp 3) ∧ (∀ c, o.op ≠ .defer c) := ⟨_, rfl, rfl, rfl, rfl, fun c h => by cases h⟩
theorem r12_o1 : ∃ o, r12O.1[1]? = some o ∧ o.dst = some 50 ∧ o.guard = none ∧ o.op = Go.Op.move (Go.Operand.tmp 4) ∧ (∀ c, o.op ≠ .defer c) := ⟨_, rfl, rfl, rfl, rfl, fun c h => by cases h⟩
theorem r12_o2 : ∃ o, r12O.1[2]? = some o ∧ o.dst = some 51 ∧ o.guard = none ∧ o.op = Go.Op.load 38 (Go.Operand.tmp 3) ∧ (∀ c, o.op ≠ .defer c) := ⟨_, rfl, rfl, rfl, rfl, fun c h => by cases h⟩
theorem r12_o3 : ∃ o, r12O.1[3]? = some o ∧ o.dst = some 52 ∧ o.guard = none ∧ o.op = Go.Op.fieldAddr 30 (Go.Operand.tmp 5) 4 ∧ (∀ c, o.op ≠ .defer c) := ⟨_, rfl, rfl, rfl, rfl, fun c h => by cases h⟩
theorem r12_o4 : ∃ o, r12O.1[4]? = some o ∧ o.dst = some 53 ∧ o.guard = none ∧ o.op = Go.Op.load 3 (Go.Operand.tmp 52) ∧ (∀ c, o.op ≠ .defer c) := ⟨_, rfl, rfl, rfl, rfl, fun c h => by cases h⟩
theorem r12_o5 : ∃ o, r12O.1[5]? = some o ∧ o.dst = some 54 ∧ o.guard = none ∧ o.op = Go.Op.indexAddr 38 (Go.Operand.tmp 51) (Go.Operand.tmp 53) ∧ (∀ c, o.op ≠ .defer c) := ⟨_, rfl, rfl, rfl, rfl, fun c h => by cases h⟩
theorem r12_o6 : ∃ o, r12O.1[6]? = some o ∧ o.dst = some 55 ∧ o.guard = none ∧ o.op = Go.Op.load 3 (Go.Operand.tmp 54) ∧ (∀ c, o.op ≠ .defer c) := ⟨_, rfl, rfl, rfl, rfl, fun c h => by cases h⟩
theorem r12_o7 : ∃ o, r12O.1[7]? = some o ∧ o.dst = some 56 ∧ o.guard = none ∧ o.op = Go.Op.indexAddr 38 (Go.Operand.tmp 49) (Go.Operand.tmp 50) ∧ (∀ c, o.op ≠ .defer c) := ⟨_, rfl, rfl, rfl, rfl, fun c h => by cases h⟩
theorem r12_o8 : ∃ o, r12O.1[8]? = some o ∧ o.dst = none ∧ o.guard = none ∧ o.op = Go.Op.store 3 (Go.Operand.tmp 56) (Go.Operand.tmp 55) ∧ (∀ c, o.op ≠ .defer c) := ⟨_, rfl, rfl, rfl, rfl, fun c h => by cases h⟩
theorem r12_e0 : ∃ o, r12O.1[0]? = some o ∧ o.after = #[] := ⟨_, rfl, rfl⟩
theorem r12_e1 : ∃ o, r12O.1[1]? = some o ∧ o.after = #[] := ⟨_, rfl, rfl⟩
theorem r12_e2 : ∃ o, r12O.1[2]? = some o ∧ o.after = #[] := ⟨_, rfl, rfl⟩
theorem r12_e3 : ∃ o, r12O.1[3]? = some o ∧ o.after = #[] := ⟨_, rfl, rfl⟩
theorem r12_e4 : ∃ o, r12O.1[4]? = some o ∧ o.after = #[⟨3, .data⟩] := ⟨_, rfl, rfl⟩
theorem r12_e5 : ∃ o, r12O.1[5]? = some o ∧ o.after = #[⟨2, .data⟩, ⟨4, .data⟩] := ⟨_, rfl, rfl⟩
theorem r12_e6 : ∃ o, r12O.1[6]? = some o ∧ o.after = #[⟨5, .data⟩] := ⟨_, rfl, rfl⟩
theorem r12_e7 : ∃ o, r12O.1[7]? = some o ∧ o.after = #[⟨0, .data⟩, ⟨1, .data⟩, ⟨0, .phase⟩, ⟨1, .phase⟩, ⟨2, .phase⟩, ⟨3, .phase⟩, ⟨4, .phase⟩, ⟨5, .phase⟩, ⟨6, .phase⟩] := ⟨_, rfl, rfl⟩
theorem r12_e8 : ∃ o, r12O.1[8]? = some o ∧ o.after = #[⟨7, .data⟩, ⟨6, .data⟩, ⟨0, .phase⟩, ⟨1, .phase⟩, ⟨2, .phase⟩, ⟨3, .phase⟩, ⟨4, .phase⟩, ⟨5, .phase⟩, ⟨6, .phase⟩] := ⟨_, rfl, rfl⟩
set_option maxRecDepth 100000 in
set_option maxHeartbeats 4000000 in
theorem r12 (l' m : Nat) (W : World) (S0 gT nn xi r1 Bx tj : Nat) (Q : Exit → Act → World → Prop) (a : Act) (hsz : a.tmps.size = 89)
    (k3 : a.tmps[3]? = some (.pointer (some ⟨S0, 0, none⟩)))
    (k4 : a.tmps[4]? = some (.int .i64 (xi : Int)))
    (k5 : a.tmps[5]? = some (.pointer (some ⟨Bx, 0, none⟩)))
    (cT : W.cell? ⟨S0, 0, none⟩ = some (.slice (some ⟨gT, 0, none⟩) nn nn))
    (cB : W.cell? ⟨Bx, 4, none⟩ = some (.int .i64 (tj : Int)))
    (hxn : xi + 1 < nn)
    (htn : tj < nn)
    (y1 : W.cell? ⟨gT, tj, none⟩ = some (.int .i64 (r1 : Int)))
    (u : Value) (y2 : W.cell? ⟨gT, xi, none⟩ = some u)
    (y3 : W.frozen? ⟨gT, xi, none⟩ = false)
    (hexit : ∀ a' W', W' = W.drew.setCell ⟨gT, xi, none⟩ (.int .i64 (r1 : Int)) → Q .normal a' W') :
    Code.wpIn (Fence.wide.inRound l') m Try.prog (((Try.f10.body.bind (findRegion 12))).getD .skip) Q a W := by
  rw [r12O.2]
  show Code.wpIn _ _ _ (.region 12 r12O.1 true) Q a W
  refine wpIn_region_inv (by kernel_rfl) (fun L a1 w1 => RI a.tmps r12D (r12V S0 gT nn xi r1 Bx tj) L a1 ∧ ((did L 8 = true → (∀ j, j < 8 → did L j = true) ∧ w1 = W.drew.setCell ⟨gT, xi, none⟩ (.int .i64 (r1 : Int))) ∧ (did L 8 = false → w1 = W.drew))) ?_ ?_ ?_ ?_
  · exact ⟨RI.init rfl, ⟨fun h => (by rw [did_none] at h; cases h), fun _ => rfl⟩⟩
  · rintro L a1 w1 i hL hi hnd hdep ⟨hI, hw⟩
    have hLs : L.size = 9 := hL
    have hsl : Slots a.tmps.size r12D := by rw [hsz]; exact r12_slots
    have e3 : a1.eval (.tmp 3) = .pointer (some ⟨S0, 0, none⟩) := hI.ev0 (r12_old 3 (by decide)) k3
    have e4 : a1.eval (.tmp 4) = .int .i64 (xi : Int) := hI.ev0 (r12_old 4 (by decide)) k4
    have e5 : a1.eval (.tmp 5) = .pointer (some ⟨Bx, 0, none⟩) := hI.ev0 (r12_old 5 (by decide)) k5
    match i, hi with
    | 0, _ =>
      obtain ⟨o, ho, hd, hg, hop, hnod⟩ := r12_o0
      have h8 : did L 8 = false := by
        cases hq : did L 8 with
        | false => rfl
        | true => exact absurd ((hw.1 hq).1 0 (by decide)) (by rw [hnd]; decide)
      have hw0 : w1 = W.drew := hw.2 h8
      refine wpOpIn_val ho (wanted_un hg) hnod (ex_load_ints hop e3 (by rw [hw0]; exact cT)) ⟨by rw [hd]; exact hI.put hsl rfl rfl, ?_⟩
      rw [did_set (by omega), show decide (8 = 0) = false from rfl, Bool.false_or, h8]; exact ⟨fun h => (by cases h), fun _ => hw0⟩
    | 1, _ =>
      obtain ⟨o, ho, hd, hg, hop, hnod⟩ := r12_o1
      have h8 : did L 8 = false := by
        cases hq : did L 8 with
        | false => rfl
        | true => exact absurd ((hw.1 hq).1 1 (by decide)) (by rw [hnd]; decide)
      have hw0 : w1 = W.drew := hw.2 h8
      refine wpOpIn_val ho (wanted_un hg) hnod (ex_move hop e4) ⟨by rw [hd]; exact hI.put hsl rfl rfl, ?_⟩
      rw [did_set (by omega), show decide (8 = 1) = false from rfl, Bool.false_or, h8]; exact ⟨fun h => (by cases h), fun _ => hw0⟩
    | 2, _ =>
      obtain ⟨o, ho, hd, hg, hop, hnod⟩ := r12_o2
      have h8 : did L 8 = false := by
        cases hq : did L 8 with
        | false => rfl
        | true => exact absurd ((hw.1 hq).1 2 (by decide)) (by rw [hnd]; decide)
      have hw0 : w1 = W.drew := hw.2 h8
      refine wpOpIn_val ho (wanted_un hg) hnod (ex_load_ints hop e3 (by rw [hw0]; exact cT)) ⟨by rw [hd]; exact hI.put hsl rfl rfl, ?_⟩
      rw [did_set (by omega), show decide (8 = 2) = false from rfl, Bool.false_or, h8]; exact ⟨fun h => (by cases h), fun _ => hw0⟩
    | 3, _ =>
      obtain ⟨o, ho, hd, hg, hop, hnod⟩ := r12_o3
      have h8 : did L 8 = false := by
        cases hq : did L 8 with
        | false => rfl
        | true => exact absurd ((hw.1 hq).1 3 (by decide)) (by rw [hnd]; decide)
      have hw0 : w1 = W.drew := hw.2 h8
      refine wpOpIn_val ho (wanted_un hg) hnod (ex_field (by decide) hop e5) ⟨by rw [hd]; exact hI.put hsl rfl rfl, ?_⟩
      rw [did_set (by omega), show decide (8 = 3) = false from rfl, Bool.false_or, h8]; exact ⟨fun h => (by cases h), fun _ => hw0⟩
    | 4, _ =>
      obtain ⟨o, ho, hd, hg, hop, hnod⟩ := r12_o4
      have h8 : did L 8 = false := by
        cases hq : did L 8 with
        | false => rfl
        | true => exact absurd ((hw.1 hq).1 4 (by decide)) (by rw [hnd]; decide)
      have hw0 : w1 = W.drew := hw.2 h8
      have e52 : a1.eval (.tmp 52) = .pointer (some ⟨Bx, 4, none⟩) := hI.ev (i := 3) (hdep o ho ⟨3, .data⟩ (by obtain ⟨o2, ho2, hof⟩ := r12_e4; rw [ho] at ho2; cases ho2; rw [hof]; simp) (by kernel_rfl)) rfl rfl
      refine wpOpIn_val ho (wanted_un hg) hnod (ex_load_int hop e52 (by rw [hw0]; exact cB)) ⟨by rw [hd]; exact hI.put hsl rfl rfl, ?_⟩
      rw [did_set (by omega), show decide (8 = 4) = false from rfl, Bool.false_or, h8]; exact ⟨fun h => (by cases h), fun _ => hw0⟩
    | 5, _ =>
      obtain ⟨o, ho, hd, hg, hop, hnod⟩ := r12_o5
      have h8 : did L 8 = false := by
        cases hq : did L 8 with
        | false => rfl
        | true => exact absurd ((hw.1 hq).1 5 (by decide)) (by rw [hnd]; decide)
      have hw0 : w1 = W.drew := hw.2 h8
      have e51 : a1.eval (.tmp 51) = .slice (some ⟨gT, 0, none⟩) nn nn := hI.ev (i := 2) (hdep o ho ⟨2, .data⟩ (by obtain ⟨o2, ho2, hof⟩ := r12_e5; rw [ho] at ho2; cases ho2; rw [hof]; simp) (by kernel_rfl)) rfl rfl
      have e53 : a1.eval (.tmp 53) = .int .i64 (tj : Int) := hI.ev (i := 4) (hdep o ho ⟨4, .data⟩ (by obtain ⟨o2, ho2, hof⟩ := r12_e5; rw [ho] at ho2; cases ho2; rw [hof]; simp) (by kernel_rfl)) rfl rfl
      refine wpOpIn_val ho (wanted_un hg) hnod (ex_index hop e51 e53 (by omega)) ⟨by rw [hd]; exact hI.put hsl rfl rfl, ?_⟩
      rw [did_set (by omega), show decide (8 = 5) = false from rfl, Bool.false_or, h8]; exact ⟨fun h => (by cases h), fun _ => hw0⟩
    | 6, _ =>
      obtain ⟨o, ho, hd, hg, hop, hnod⟩ := r12_o6
      have h8 : did L 8 = false := by
        cases hq : did L 8 with
        | false => rfl
        | true => exact absurd ((hw.1 hq).1 6 (by decide)) (by rw [hnd]; decide)
      have hw0 : w1 = W.drew := hw.2 h8
      have e54 : a1.eval (.tmp 54) = .pointer (some ⟨gT, tj, none⟩) := hI.ev (i := 5) (hdep o ho ⟨5, .data⟩ (by obtain ⟨o2, ho2, hof⟩ := r12_e6; rw [ho] at ho2; cases ho2; rw [hof]; simp) (by kernel_rfl)) rfl rfl
      refine wpOpIn_val ho (wanted_un hg) hnod (ex_load_int hop e54 (by rw [hw0]; exact y1)) ⟨by rw [hd]; exact hI.put hsl rfl rfl, ?_⟩
      rw [did_set (by omega), show decide (8 = 6) = false from rfl, Bool.false_or, h8]; exact ⟨fun h => (by cases h), fun _ => hw0⟩
    | 7, _ =>
      obtain ⟨o, ho, hd, hg, hop, hnod⟩ := r12_o7
      have h8 : did L 8 = false := by
        cases hq : did L 8 with
        | false => rfl
        | true => exact absurd ((hw.1 hq).1 7 (by decide)) (by rw [hnd]; decide)
      have hw0 : w1 = W.drew := hw.2 h8
      have e49 : a1.eval (.tmp 49) = .slice (some ⟨gT, 0, none⟩) nn nn := hI.ev (i := 0) (hdep o ho ⟨0, .data⟩ (by obtain ⟨o2, ho2, hof⟩ := r12_e7; rw [ho] at ho2; cases ho2; rw [hof]; simp) (by kernel_rfl)) rfl rfl
      have e50 : a1.eval (.tmp 50) = .int .i64 (xi : Int) := hI.ev (i := 1) (hdep o ho ⟨1, .data⟩ (by obtain ⟨o2, ho2, hof⟩ := r12_e7; rw [ho] at ho2; cases ho2; rw [hof]; simp) (by kernel_rfl)) rfl rfl
      refine wpOpIn_val ho (wanted_un hg) hnod (ex_index hop e49 e50 (by omega)) ⟨by rw [hd]; exact hI.put hsl rfl rfl, ?_⟩
      rw [did_set (by omega), show decide (8 = 7) = false from rfl, Bool.false_or, h8]; exact ⟨fun h => (by cases h), fun _ => hw0⟩
    | 8, _ =>
      obtain ⟨o, ho, hd, hg, hop, hnod⟩ := r12_o8
      have hw0 : w1 = W.drew := hw.2 hnd
      have e55 : a1.eval (.tmp 55) = .int .i64 (r1 : Int) := hI.ev (i := 6) (hdep o ho ⟨6, .data⟩ (by obtain ⟨o2, ho2, hof⟩ := r12_e8; rw [ho] at ho2; cases ho2; rw [hof]; simp) (by kernel_rfl)) rfl rfl
      have e56 : a1.eval (.tmp 56) = .pointer (some ⟨gT, xi, none⟩) := hI.ev (i := 7) (hdep o ho ⟨7, .data⟩ (by obtain ⟨o2, ho2, hof⟩ := r12_e8; rw [ho] at ho2; cases ho2; rw [hof]; simp) (by kernel_rfl)) rfl rfl
      refine wpOpIn_skip ho (wanted_un hg) hnod (ex_store_int hop e56 e55 (by rw [hw0]; exact y2) (by rw [hw0]; exact y3)) ⟨by rw [hd]; exact hI.skip rfl, ?_⟩
      rw [did_set (by omega), show decide (8 = 8) = true from rfl, Bool.true_or]
      have hj : ∀ j, j < 8 → did L j = true := by
        obtain ⟨o2, ho2, hof⟩ := r12_e8
        rw [ho] at ho2; cases ho2
        intro j hj
        match j, hj with
        | 0, _ => exact hdep o ho ⟨0, .phase⟩ (by rw [hof]; simp) (by kernel_rfl)
        | 1, _ => exact hdep o ho ⟨1, .phase⟩ (by rw [hof]; simp) (by kernel_rfl)
        | 2, _ => exact hdep o ho ⟨2, .phase⟩ (by rw [hof]; simp) (by kernel_rfl)
        | 3, _ => exact hdep o ho ⟨3, .phase⟩ (by rw [hof]; simp) (by kernel_rfl)
        | 4, _ => exact hdep o ho ⟨4, .phase⟩ (by rw [hof]; simp) (by kernel_rfl)
        | 5, _ => exact hdep o ho ⟨5, .phase⟩ (by rw [hof]; simp) (by kernel_rfl)
        | 6, _ => exact hdep o ho ⟨6, .phase⟩ (by rw [hof]; simp) (by kernel_rfl)
        | 7, _ => exact hdep o ho ⟨7, .data⟩ (by rw [hof]; simp) (by kernel_rfl)
      exact ⟨fun _ => ⟨fun j h => (by rw [did_set (by omega), hj j h, Bool.or_true]), by rw [hw0]⟩, fun h => (by cases h)⟩
    | i + 9, hi => exact absurd hi (by show ¬ (i + 9 < 9); omega)
  · intro i o ho e he
    have h : ((List.range 9).all fun i => (r12O.1[i]?.map fun o => o.after.all fun e => decide (e.on < i)).getD false) = true := by kernel_rfl
    have hi : i < 9 := by
      by_cases q : i < 9
      · exact q
      · rw [Array.getElem?_eq_none (by show 9 ≤ i; omega)] at ho; cases ho
    have h2 := List.all_eq_true.1 h i (List.mem_range.2 hi)
    rw [ho] at h2
    simp only [Option.map_some, Option.getD_some, Array.all_eq_true'] at h2
    simpa using h2 e he
  · rintro L a1 w1 hall ⟨hI, hw⟩
    exact hexit a1 w1 (hw.1 (hall 8 (by show 8 < 9; decide))).2

def r14D : List (Option Nat) := [some 80, some 81, some 82, some 83, some 84, some 85, some 86, some 87, none]
theorem r14_slots : Slots 89 r14D := by
  have h1 : ((List.range 9).all fun i => (List.range 9).all fun j => decide (i = j) || (r14D[i]?.getD none).isNone || !((r14D[i]?.getD none) == (r14D[j]?.getD none))) = true := by decide
  have h2 : (r14D.all fun x => match x with | some s => decide (s < 89) | none => true) = true := by decide
  refine ⟨fun i j s hi hj => ?_, fun i s hi => ?_⟩
  · have li : i < 9 := (List.getElem?_eq_some_iff.1 hi).1
    have lj : j < 9 := (List.getElem?_eq_some_iff.1 hj).1
    have := List.all_eq_true.1 (List.all_eq_true.1 h1 i (List.mem_range.2 li)) j (List.mem_range.2 lj)
    rw [hi, hj] at this
    simpa using this
  · have := List.all_eq_true.1 h2 _ (List.mem_of_getElem? hi)
    simpa using this
theorem r14_old (s : Nat) (h : s < 80) : ∀ i : Nat, r14D[i]? ≠ some (some s) := by
  have h2 : (r14D.all fun x => match x with | some s => decide (80 ≤ s) | none => true) = true := by decide
  intro i hi
  have := List.all_eq_true.1 h2 _ (List.mem_of_getElem? hi)
  simp at this
  omega
def r14V (S0 gT nn xi r1 : Nat) : List Value := [.slice (some ⟨gT, 0, none⟩) nn nn, .int .i64 (xi : Int), .slice (some ⟨gT, 0, none⟩) nn nn, .int .i64 (xi : Int), .int .i64 ((xi : Int) + 1), .pointer (some ⟨gT, xi + 1, none⟩), .int .i64 (r1 : Int), .pointer (some ⟨gT, xi, none⟩), undef]
noncomputable def r14O : { c : Array Oper // (Try.f10.body.bind (findRegion 14)) = some (.region 14 c true) } := ⟨_, rfl⟩
theorem r14_o0 : ∃ o, r14O.1[0]? = some o ∧ o.dst = some 80 ∧ o.guard = none ∧ o.op = Go.Op.load 38 (Go.Operand.tmp 3) ∧ (∀ c, o.op ≠ .defer c) := ⟨_, rfl, rfl, rfl, rfl, fun c h => by cases h⟩
theorem r14_o1 : ∃ o, r14O.1[1]? = some o ∧ o.dst = some 81 ∧ o.guard = none ∧ o.op = Go.Op.move (Go.Operand.tmp 4) ∧ (∀ c, o.op ≠ .defer c) := ⟨_, rfl, rfl, rfl, rfl, fun c h => by cases h⟩
theorem r14_o2 : ∃ o, r14O.1[2]? = some o ∧ o.dst = some 82 ∧ o.guard = none ∧ o.op = Go.Op.load 38 (Go.Operand.tmp 3) ∧ (∀ c, o.op ≠ .defer c) := ⟨_, rfl, rfl, rfl, rfl, fun c h => by cases h⟩
theorem r14_o3 : ∃ o, r14O.1[3]? = some o ∧ o.dst = some 83 ∧ o.guard = none ∧ o.op = Go.Op.move (Go.Operand.tmp 4) ∧ (∀ c, o.op ≠ .defer c) := ⟨_, rfl, rfl, rfl, rfl, fun c h => by cases h⟩
theorem r14_o4 : ∃ o, r14O.1[4]? = some o ∧ o.dst = some 84 ∧ o.guard = none ∧ o.op = Go.Op.binOp Go.BinOp.add 3 (Go.Operand.tmp 83) (Go.Operand.const (Go.Value.int Go.IntKind.i64 1)) 3 ∧ (∀ c, o.op ≠ .defer c) := ⟨_, rfl, rfl, rfl, rfl, fun c h => by cases h⟩
theorem r14_o5 : ∃ o, r14O.1[5]? = some o ∧ o.dst = some 85 ∧ o.guard = none ∧ o.op = Go.Op.indexAddr 38 (Go.Operand.tmp 82) (Go.Operand.tmp 84) ∧ (∀ c, o.op ≠ .defer c) := ⟨_, rfl, rfl, rfl, rfl, fun c h => by cases h⟩
theorem r14_o6 : ∃ o, r14O.1[6]? = some o ∧ o.dst = some 86 ∧ o.guard = none ∧ o.op = Go.Op.load 3 (Go.Operand.tmp 85) ∧ (∀ c, o.op ≠ .defer c) := ⟨_, rfl, rfl, rfl, rfl, fun c h => by cases h⟩
theorem r14_o7 : ∃ o, r14O.1[7]? = some o ∧ o.dst = some 87 ∧ o.guard = none ∧ o.op = Go.Op.indexAddr 38 (Go.Operand.tmp 80) (Go.Operand.tmp 81) ∧ (∀ c, o.op ≠ .defer c) := ⟨_, rfl, rfl, rfl, rfl, fun c h => by cases h⟩
theorem r14_o8 : ∃ o, r14O.1[8]? = some o ∧ o.dst = none ∧ o.guard = none ∧ o.op = Go.Op.store 3 (Go.Operand.tmp 87) (Go.Operand.tmp 86) ∧ (∀ c, o.op ≠ .defer c) := ⟨_, rfl, rfl, rfl, rfl, fun c h => by cases h⟩
theorem r14_e0 : ∃ o, r14O.1[0]? = some o ∧ o.after = #[] := ⟨_, rfl, rfl⟩
theorem r14_e1 : ∃ o, r14O.1[1]? = some o ∧ o.after = #[] := ⟨_, rfl, rfl⟩
theorem r14_e2 : ∃ o, r14O.1[2]? = some o ∧ o.after = #[] := ⟨_, rfl, rfl⟩
theorem r14_e3 : ∃ o, r14O.1[3]? = some o ∧ o.after = #[] := ⟨_, rfl, rfl⟩
theorem r14_e4 : ∃ o, r14O.1[4]? = some o ∧ o.after = #[⟨3, .data⟩] := ⟨_, rfl, rfl⟩
theorem r14_e5 : ∃ o, r14O.1[5]? = some o ∧ o.after = #[⟨2, .data⟩, ⟨4, .data⟩] := ⟨_, rfl, rfl⟩
theorem r14_e6 : ∃ o, r14O.1[6]? = some o ∧ o.after = #[⟨5, .data⟩] := ⟨_, rfl, rfl⟩
theorem r14_e7 : ∃ o, r14O.1[7]? = some o ∧ o.after = #[⟨0, .data⟩, ⟨1, .data⟩, ⟨0, .phase⟩, ⟨1, .phase⟩, ⟨2, .phase⟩, ⟨3, .phase⟩, ⟨4, .phase⟩, ⟨5, .phase⟩, ⟨6, .phase⟩] := ⟨_, rfl, rfl⟩
theorem r14_e8 : ∃ o, r14O.1[8]? = some o ∧ o.after = #[⟨7, .data⟩, ⟨6, .data⟩, ⟨0, .phase⟩, ⟨1, .phase⟩, ⟨2, .phase⟩, ⟨3, .phase⟩, ⟨4, .phase⟩, ⟨5, .phase⟩, ⟨6, .phase⟩] := ⟨_, rfl, rfl⟩
set_option maxRecDepth 100000 in
set_option maxHeartbeats 4000000 in
theorem r14 (l' m : Nat) (W : World) (S0 gT nn xi r1 : Nat) (Q : Exit → Act → World → Prop) (a : Act) (hsz : a.tmps.size = 89)
    (k3 : a.tmps[3]? = some (.pointer (some ⟨S0, 0, none⟩)))
    (k4 : a.tmps[4]? = some (.int .i64 (xi : Int)))
    (cT : W.cell? ⟨S0, 0, none⟩ = some (.slice (some ⟨gT, 0, none⟩) nn nn))
    (hxn : xi + 1 < nn)
    (hnn : nn ≤ 1000000000000001)
    (y1 : W.cell? ⟨gT, xi + 1, none⟩ = some (.int .i64 (r1 : Int)))
    (u : Value) (y2 : W.cell? ⟨gT, xi, none⟩ = some u)
    (y3 : W.frozen? ⟨gT, xi, none⟩ = false)
    (hexit : ∀ a' W', W' = W.drew.setCell ⟨gT, xi, none⟩ (.int .i64 (r1 : Int)) → Q .normal a' W') :
    Code.wpIn (Fence.wide.inRound l') m Try.prog (((Try.f10.body.bind (findRegion 14))).getD .skip) Q a W := by
  rw [r14O.2]
  show Code.wpIn _ _ _ (.region 14 r14O.1 true) Q a W
  refine wpIn_region_inv (by kernel_rfl) (fun L a1 w1 => RI a.tmps r14D (r14V S0 gT nn xi r1) L a1 ∧ ((did L 8 = true → (∀ j, j < 8 → did L j = true) ∧ w1 = W.drew.setCell ⟨gT, xi, none⟩ (.int .i64 (r1 : Int))) ∧ (did L 8 = false → w1 = W.drew))) ?_ ?_ ?_ ?_
  · exact ⟨RI.init rfl, ⟨fun h => (by rw [did_none] at h; cases h), fun _ => rfl⟩⟩
  · rintro L a1 w1 i hL hi hnd hdep ⟨hI, hw⟩
    have hLs : L.size = 9 := hL
    have hsl : Slots a.tmps.size r14D := by rw [hsz]; exact r14_slots
    have e3 : a1.eval (.tmp 3) = .pointer (some ⟨S0, 0, none⟩) := hI.ev0 (r14_old 3 (by decide)) k3
    have e4 : a1.eval (.tmp 4) = .int .i64 (xi : Int) := hI.ev0 (r14_old 4 (by decide)) k4
    match i, hi with
    | 0, _ =>
      obtain ⟨o, ho, hd, hg, hop, hnod⟩ := r14_o0
      have h8 : did L 8 = false := by
        cases hq : did L 8 with
        | false => rfl
        | true => exact absurd ((hw.1 hq).1 0 (by decide)) (by rw [hnd]; decide)
      have hw0 : w1 = W.drew := hw.2 h8
      refine wpOpIn_val ho (wanted_un hg) hnod (ex_load_ints hop e3 (by rw [hw0]; exact cT)) ⟨by rw [hd]; exact hI.put hsl rfl rfl, ?_⟩
      rw [did_set (by omega), show decide (8 = 0) = false from rfl, Bool.false_or, h8]; exact ⟨fun h => (by cases h), fun _ => hw0⟩
    | 1, _ =>
      obtain ⟨o, ho, hd, hg, hop, hnod⟩ := r14_o1
      have h8 : did L 8 = false := by
        cases hq : did L 8 with
        | false => rfl
        | true => exact absurd ((hw.1 hq).1 1 (by decide)) (by rw [hnd]; decide)
      have hw0 : w1 = W.drew := hw.2 h8
      refine wpOpIn_val ho (wanted_un hg) hnod (ex_move hop e4) ⟨by rw [hd]; exact hI.put hsl rfl rfl, ?_⟩
      rw [did_set (by omega), show decide (8 = 1) = false from rfl, Bool.false_or, h8]; exact ⟨fun h => (by cases h), fun _ => hw0⟩
    | 2, _ =>
      obtain ⟨o, ho, hd, hg, hop, hnod⟩ := r14_o2
      have h8 : did L 8 = false := by
        cases hq : did L 8 with
        | false => rfl
        | true => exact absurd ((hw.1 hq).1 2 (by decide)) (by rw [hnd]; decide)
      have hw0 : w1 = W.drew := hw.2 h8
      refine wpOpIn_val ho (wanted_un hg) hnod (ex_load_ints hop e3 (by rw [hw0]; exact cT)) ⟨by rw [hd]; exact hI.put hsl rfl rfl, ?_⟩
      rw [did_set (by omega), show decide (8 = 2) = false from rfl, Bool.false_or, h8]; exact ⟨fun h => (by cases h), fun _ => hw0⟩
    | 3, _ =>
      obtain ⟨o, ho, hd, hg, hop, hnod⟩ := r14_o3
      have h8 : did L 8 = false := by
        cases hq : did L 8 with
        | false => rfl
        | true => exact absurd ((hw.1 hq).1 3 (by decide)) (by rw [hnd]; decide)
      have hw0 : w1 = W.drew := hw.2 h8
      refine wpOpIn_val ho (wanted_un hg) hnod (ex_move hop e4) ⟨by rw [hd]; exact hI.put hsl rfl rfl, ?_⟩
      rw [did_set (by omega), show decide (8 = 3) = false from rfl, Bool.false_or, h8]; exact ⟨fun h => (by cases h), fun _ => hw0⟩
    | 4, _ =>
      obtain ⟨o, ho, hd, hg, hop, hnod⟩ := r14_o4
      have h8 : did L 8 = false := by
        cases hq : did L 8 with
        | false => rfl
        | true => exact absurd ((hw.1 hq).1 4 (by decide)) (by rw [hnd]; decide)
      have hw0 : w1 = W.drew := hw.2 h8
      have e83 : a1.eval (.tmp 83) = .int .i64 (xi : Int) := hI.ev (i := 3) (hdep o ho ⟨3, .data⟩ (by obtain ⟨o2, ho2, hof⟩ := r14_e4; rw [ho] at ho2; cases ho2; rw [hof]; simp) (by kernel_rfl)) rfl rfl
      refine wpOpIn_val ho (wanted_un hg) hnod (ex_add1 hop e83 (by omega) (by omega) rfl) ⟨by rw [hd]; exact hI.put hsl rfl rfl, ?_⟩
      rw [did_set (by omega), show decide (8 = 4) = false from rfl, Bool.false_or, h8]; exact ⟨fun h => (by cases h), fun _ => hw0⟩
    | 5, _ =>
      obtain ⟨o, ho, hd, hg, hop, hnod⟩ := r14_o5
      have h8 : did L 8 = false := by
        cases hq : did L 8 with
        | false => rfl
        | true => exact absurd ((hw.1 hq).1 5 (by decide)) (by rw [hnd]; decide)
      have hw0 : w1 = W.drew := hw.2 h8
      have e82 : a1.eval (.tmp 82) = .slice (some ⟨gT, 0, none⟩) nn nn := hI.ev (i := 2) (hdep o ho ⟨2, .data⟩ (by obtain ⟨o2, ho2, hof⟩ := r14_e5; rw [ho] at ho2; cases ho2; rw [hof]; simp) (by kernel_rfl)) rfl rfl
      have e84 : a1.eval (.tmp 84) = .int .i64 ((xi : Int) + 1) := hI.ev (i := 4) (hdep o ho ⟨4, .data⟩ (by obtain ⟨o2, ho2, hof⟩ := r14_e5; rw [ho] at ho2; cases ho2; rw [hof]; simp) (by kernel_rfl)) rfl rfl
      refine wpOpIn_val ho (wanted_un hg) hnod (ex_index (j := xi + 1) hop e82 e84 (by omega)) ⟨by rw [hd]; exact hI.put hsl rfl rfl, ?_⟩
      rw [did_set (by omega), show decide (8 = 5) = false from rfl, Bool.false_or, h8]; exact ⟨fun h => (by cases h), fun _ => hw0⟩
    | 6, _ =>
      obtain ⟨o, ho, hd, hg, hop, hnod⟩ := r14_o6
      have h8 : did L 8 = false := by
        cases hq : did L 8 with
        | false => rfl
        | true => exact absurd ((hw.1 hq).1 6 (by decide)) (by rw [hnd]; decide)
      have hw0 : w1 = W.drew := hw.2 h8
      have e85 : a1.eval (.tmp 85) = .pointer (some ⟨gT, xi + 1, none⟩) := hI.ev (i := 5) (hdep o ho ⟨5, .data⟩ (by obtain ⟨o2, ho2, hof⟩ := r14_e6; rw [ho] at ho2; cases ho2; rw [hof]; simp) (by kernel_rfl)) rfl rfl
      refine wpOpIn_val ho (wanted_un hg) hnod (ex_load_int hop e85 (by rw [hw0]; exact y1)) ⟨by rw [hd]; exact hI.put hsl rfl rfl, ?_⟩
      rw [did_set (by omega), show decide (8 = 6) = false from rfl, Bool.false_or, h8]; exact ⟨fun h => (by cases h), fun _ => hw0⟩
    | 7, _ =>
      obtain ⟨o, ho, hd, hg, hop, hnod⟩ := r14_o7
      have h8 : did L 8 = false := by
        cases hq : did L 8 with
        | false => rfl
        | true => exact absurd ((hw.1 hq).1 7 (by decide)) (by rw [hnd]; decide)
      have hw0 : w1 = W.drew := hw.2 h8
      have e80 : a1.eval (.tmp 80) = .slice (some ⟨gT, 0, none⟩) nn nn := hI.ev (i := 0) (hdep o ho ⟨0, .data⟩ (by obtain ⟨o2, ho2, hof⟩ := r14_e7; rw [ho] at ho2; cases ho2; rw [hof]; simp) (by kernel_rfl)) rfl rfl
      have e81 : a1.eval (.tmp 81) = .int .i64 (xi : Int) := hI.ev (i := 1) (hdep o ho ⟨1, .data⟩ (by obtain ⟨o2, ho2, hof⟩ := r14_e7; rw [ho] at ho2; cases ho2; rw [hof]; simp) (by kernel_rfl)) rfl rfl
      refine wpOpIn_val ho (wanted_un hg) hnod (ex_index hop e80 e81 (by omega)) ⟨by rw [hd]; exact hI.put hsl rfl rfl, ?_⟩
      rw [did_set (by omega), show decide (8 = 7) = false from rfl, Bool.false_or, h8]; exact ⟨fun h => (by cases h), fun _ => hw0⟩
    | 8, _ =>
      obtain ⟨o, ho, hd, hg, hop, hnod⟩ := r14_o8
      have hw0 : w1 = W.drew := hw.2 hnd
      have e86 : a1.eval (.tmp 86) = .int .i64 (r1 : Int) := hI.ev (i := 6) (hdep o ho ⟨6, .data⟩ (by obtain ⟨o2, ho2, hof⟩ := r14_e8; rw [ho] at ho2; cases ho2; rw [hof]; simp) (by kernel_rfl)) rfl rfl
      have e87 : a1.eval (.tmp 87) = .pointer (some ⟨gT, xi, none⟩) := hI.ev (i := 7) (hdep o ho ⟨7, .data⟩ (by obtain ⟨o2, ho2, hof⟩ := r14_e8; rw [ho] at ho2; cases ho2; rw [hof]; simp) (by kernel_rfl)) rfl rfl
      refine wpOpIn_skip ho (wanted_un hg) hnod (ex_store_int hop e87 e86 (by rw [hw0]; exact y2) (by rw [hw0]; exact y3)) ⟨by rw [hd]; exact hI.skip rfl, ?_⟩
      rw [did_set (by omega), show decide (8 = 8) = true from rfl, Bool.true_or]
      have hj : ∀ j, j < 8 → did L j = true := by
        obtain ⟨o2, ho2, hof⟩ := r14_e8
        rw [ho] at ho2; cases ho2
        intro j hj
        match j, hj with
        | 0, _ => exact hdep o ho ⟨0, .phase⟩ (by rw [hof]; simp) (by kernel_rfl)
        | 1, _ => exact hdep o ho ⟨1, .phase⟩ (by rw [hof]; simp) (by kernel_rfl)
        | 2, _ => exact hdep o ho ⟨2, .phase⟩ (by rw [hof]; simp) (by kernel_rfl)
        | 3, _ => exact hdep o ho ⟨3, .phase⟩ (by rw [hof]; simp) (by kernel_rfl)
        | 4, _ => exact hdep o ho ⟨4, .phase⟩ (by rw [hof]; simp) (by kernel_rfl)
        | 5, _ => exact hdep o ho ⟨5, .phase⟩ (by rw [hof]; simp) (by kernel_rfl)
        | 6, _ => exact hdep o ho ⟨6, .phase⟩ (by rw [hof]; simp) (by kernel_rfl)
        | 7, _ => exact hdep o ho ⟨7, .data⟩ (by rw [hof]; simp) (by kernel_rfl)
      exact ⟨fun _ => ⟨fun j h => (by rw [did_set (by omega), hj j h, Bool.or_true]), by rw [hw0]⟩, fun h => (by cases h)⟩
    | i + 9, hi => exact absurd hi (by show ¬ (i + 9 < 9); omega)
  · intro i o ho e he
    have h : ((List.range 9).all fun i => (r14O.1[i]?.map fun o => o.after.all fun e => decide (e.on < i)).getD false) = true := by kernel_rfl
    have hi : i < 9 := by
      by_cases q : i < 9
      · exact q
      · rw [Array.getElem?_eq_none (by show 9 ≤ i; omega)] at ho; cases ho
    have h2 := List.all_eq_true.1 h i (List.mem_range.2 hi)
    rw [ho] at h2
    simp only [Option.map_some, Option.getD_some, Array.all_eq_true'] at h2
    simpa using h2 e he
  · rintro L a1 w1 hall ⟨hI, hw⟩
    exact hexit a1 w1 (hw.1 (hall 8 (by show 8 < 9; decide))).2

def r7D : List (Option Nat) := [some 27, some 28, some 29, some 30, none]
theorem r7_slots : Slots 89 r7D := by
  refine ⟨fun i j s hi hj => ?_, fun i s hi => ?_⟩
  · have li : i < 5 := (List.getElem?_eq_some_iff.1 hi).1
    have lj : j < 5 := (List.getElem?_eq_some_iff.1 hj).1
    have h1 : ((List.range 5).all fun i => (List.range 5).all fun j => decide (i = j) || (r7D[i]?.getD none).isNone || !((r7D[i]?.getD none) == (r7D[j]?.getD none))) = true := by decide
    have := List.all_eq_true.1 (List.all_eq_true.1 h1 i (List.mem_range.2 li)) j (List.mem_range.2 lj)
    rw [hi, hj] at this
    simpa using this
  · have h2 : (r7D.all fun x => match x with | some s => decide (s < 89) | none => true) = true := by decide
    have := List.all_eq_true.1 h2 _ (List.mem_of_getElem? hi)
    simpa using this
theorem r7_old (s : Nat) (h : s < 27) : ∀ i : Nat, r7D[i]? ≠ some (some s) := by
  have h2 : (r7D.all fun x => match x with | some s => decide (27 ≤ s) | none => true) = true := by decide
  intro i hi
  have := List.all_eq_true.1 h2 _ (List.mem_of_getElem? hi)
  simp at this
  omega
def r7V (gT nn xi : Nat) : List Value := [.slice (some ⟨gT, 0, none⟩) nn nn, .int .i64 (xi : Int), .int .i64 (xi : Int), .pointer (some ⟨gT, xi, none⟩), undef]
noncomputable def r7O : { c : Array Oper // (Try.f10.body.bind (findRegion 7)) = some (.region 7 c false) } := ⟨_, rfl⟩
theorem r7_o0 : ∃ o, r7O.1[0]? = some o ∧ o.dst = some 27 ∧ o.guard = none ∧ o.op = Go.Op.load 38 (Go.Operand.tmp 3) ∧ (∀ c, o.op ≠ .defer c) := ⟨_, rfl, rfl, rfl, rfl, fun c h => by cases h⟩
theorem r7_o1 : ∃ o, r7O.1[1]? = some o ∧ o.dst = some 28 ∧ o.guard = none ∧ o.op = Go.Op.move (Go.Operand.tmp 4) ∧ (∀ c, o.op ≠ .defer c) := ⟨_, rfl, rfl, rfl, rfl, fun c h => by cases h⟩
theorem r7_o2 : ∃ o, r7O.1[2]? = some o ∧ o.dst = some 29 ∧ o.guard = none ∧ o.op = Go.Op.move (Go.Operand.tmp 4) ∧ (∀ c, o.op ≠ .defer c) := ⟨_, rfl, rfl, rfl, rfl, fun c h => by cases h⟩
theorem r7_o3 : ∃ o, r7O.1[3]? = some o ∧ o.dst = some 30 ∧ o.guard = none ∧ o.op = Go.Op.indexAddr 38 (Go.Operand.tmp 27) (Go.Operand.tmp 28) ∧ (∀ c, o.op ≠ .defer c) := ⟨_, rfl, rfl, rfl, rfl, fun c h => by cases h⟩
theorem r7_o4 : ∃ o, r7O.1[4]? = some o ∧ o.dst = none ∧ o.guard = none ∧ o.op = Go.Op.store 3 (Go.Operand.tmp 30) (Go.Operand.tmp 29) ∧ (∀ c, o.op ≠ .defer c) := ⟨_, rfl, rfl, rfl, rfl, fun c h => by cases h⟩
set_option maxRecDepth 100000 in
set_option maxHeartbeats 2000000 in
theorem r7 (l' m : Nat) (W : World) (S0 gT nn xi : Nat) (Q : Exit → Act → World → Prop) (a : Act) (hsz : a.tmps.size = 89)
    (k3 : a.tmps[3]? = some (.pointer (some ⟨S0, 0, none⟩))) (k4 : a.tmps[4]? = some (.int .i64 (xi : Int)))
    (cT : W.cell? ⟨S0, 0, none⟩ = some (.slice (some ⟨gT, 0, none⟩) nn nn)) (hxn : xi < nn) (u : Value) (y2 : W.cell? ⟨gT, xi, none⟩ = some u) (y3 : W.frozen? ⟨gT, xi, none⟩ = false)
    (hexit : ∀ a', Q .normal a' (W.setCell ⟨gT, xi, none⟩ (.int .i64 (xi : Int)))) :
    Code.wpIn (Fence.wide.inRound l') m Try.prog (((Try.f10.body.bind (findRegion 7))).getD .skip) Q a W := by
  rw [r7O.2]
  show Code.wpIn _ _ _ (.region 7 r7O.1 false) Q a W
  refine wpIn_region ?_
  rw [show List.range r7O.1.size = [0, 1, 2, 3, 4] from rfl]
  have hsl : Slots a.tmps.size r7D := by rw [hsz]; exact r7_slots
  have I0 : RI a.tmps r7D (r7V gT nn xi) (Array.replicate 5 false) a := RI.init rfl
  obtain ⟨o0, ho0, hd0, hg0, hop0, hn0⟩ := r7_o0
  obtain ⟨o1, ho1, hd1, hg1, hop1, hn1⟩ := r7_o1
  obtain ⟨o2, ho2, hd2, hg2, hop2, hn2⟩ := r7_o2
  obtain ⟨o3, ho3, hd3, hg3, hop3, hn3⟩ := r7_o3
  obtain ⟨o4, ho4, hd4, hg4, hop4, hn4⟩ := r7_o4
  rw [wpOpsIn_cons]
  refine wpOpIn_val ho0 (wanted_un hg0) hn0 (ex_load_ints hop0 (I0.ev0 (r7_old 3 (by decide)) k3) cT) ?_
  rw [hd0]
  have I1 := I0.put hsl (i := 0) rfl rfl
  rw [wpOpsIn_cons]
  refine wpOpIn_val ho1 (wanted_un hg1) hn1 (ex_move hop1 (I1.ev0 (r7_old 4 (by decide)) k4)) ?_
  rw [hd1]
  have I2 := I1.put hsl (i := 1) rfl rfl
  rw [wpOpsIn_cons]
  refine wpOpIn_val ho2 (wanted_un hg2) hn2 (ex_move hop2 (I2.ev0 (r7_old 4 (by decide)) k4)) ?_
  rw [hd2]
  have I3 := I2.put hsl (i := 2) rfl rfl
  rw [wpOpsIn_cons]
  refine wpOpIn_val ho3 (wanted_un hg3) hn3 (ex_index hop3 (I3.ev (i := 0) rfl rfl rfl) (I3.ev (i := 1) rfl rfl rfl) hxn) ?_
  rw [hd3]
  have I4 := I3.put hsl (i := 3) rfl rfl
  rw [wpOpsIn_cons]
  refine wpOpIn_skip ho4 (wanted_un hg4) hn4 (ex_store_int hop4 (I4.ev (i := 3) rfl rfl rfl) (I4.ev (i := 2) rfl rfl rfl) y2 y3) ?_
  exact hexit _

def r13nD : List (Option Nat) := [some 58, some 59, some 60, some 61, some 62, some 63, some 64, some 65, some 66, some 67, some 68, some 69, some 70, some 71, some 72, some 73, some 74, some 75, some 76, some 77, some 78, some 79, some 57]
theorem r13n_slots : Slots 89 r13nD := by
  have h1 : ((List.range 23).all fun i => (List.range 23).all fun j => decide (i = j) || (r13nD[i]?.getD none).isNone || !((r13nD[i]?.getD none) == (r13nD[j]?.getD none))) = true := by decide
  have h2 : (r13nD.all fun x => match x with | some s => decide (s < 89) | none => true) = true := by decide
  refine ⟨fun i j s hi hj => ?_, fun i s hi => ?_⟩
  · have li : i < 23 := (List.getElem?_eq_some_iff.1 hi).1
    have lj : j < 23 := (List.getElem?_eq_some_iff.1 hj).1
    have := List.all_eq_true.1 (List.all_eq_true.1 h1 i (List.mem_range.2 li)) j (List.mem_range.2 lj)
    rw [hi, hj] at this
    simpa using this
  · have := List.all_eq_true.1 h2 _ (List.mem_of_getElem? hi)
    simpa using this
theorem r13n_old (s : Nat) (h : s < 57) : ∀ i : Nat, r13nD[i]? ≠ some (some s) := by
  have h2 : (r13nD.all fun x => match x with | some s => decide (57 ≤ s) | none => true) = true := by decide
  intro i hi
  have := List.all_eq_true.1 h2 _ (List.mem_of_getElem? hi)
  simp at this
  omega
def r13nV (S0 gT nn xi r1 r2 Bx tj me ce : Nat) (pe : Option Addr) (zk : Int) : List Value := [.pointer (some ⟨Bx, 0, none⟩), .int .u8 zk, .bool false, .bool false, undef, undef, undef, undef, .bool false, .bool false, undef, undef, undef, undef, undef, undef, undef, undef, undef, undef, undef, .bool false, .bool false]
noncomputable def r13nO : { c : Array Oper // (Try.f10.body.bind (findRegion 13)) = some (.region 13 c true) } := ⟨_, rfl⟩
theorem r13n_o0 : ∃ o, r13nO.1[0]? = some o ∧ o.dst = some 58 ∧ o.guard = none ∧ o.op = Go.Op.fieldAddr 30 (Go.Operand.tmp 5) 0 ∧ (∀ c, o.op ≠ .defer c) := ⟨_, rfl, rfl, rfl, rfl, fun c h => by cases h⟩
theorem r13n_o1 : ∃ o, r13nO.1[1]? = some o ∧ o.dst = some 59 ∧ o.guard = none ∧ o.op = Go.Op.load 5 (Go.Operand.tmp 58) ∧ (∀ c, o.op ≠ .defer c) := ⟨_, rfl, rfl, rfl, rfl, fun c h => by cases h⟩
theorem r13n_o2 : ∃ o, r13nO.1[2]? = some o ∧ o.dst = some 60 ∧ o.guard = none ∧ o.op = Go.Op.binOp Go.BinOp.eql 5 (Go.Operand.tmp 59) (Go.Operand.const (Go.Value.int Go.IntKind.u8 7)) 5 ∧ (∀ c, o.op ≠ .defer c) := ⟨_, rfl, rfl, rfl, rfl, fun c h => by cases h⟩
theorem r13n_o3 : ∃ o, r13nO.1[3]? = some o ∧ o.dst = some 61 ∧ o.guard = none ∧ o.op = Go.Op.move (Go.Operand.tmp 60) ∧ (∀ c, o.op ≠ .defer c) := ⟨_, rfl, rfl, rfl, rfl, fun c h => by cases h⟩
theorem r13n_o4 : ∃ o, r13nO.1[4]? = some o ∧ o.dst = some 62 ∧ o.guard = some (3, true) ∧ o.op = Go.Op.fieldAddr 30 (Go.Operand.tmp 5) 3 ∧ (∀ c, o.op ≠ .defer c) := ⟨_, rfl, rfl, rfl, rfl, fun c h => by cases h⟩
theorem r13n_o5 : ∃ o, r13nO.1[5]? = some o ∧ o.dst = some 63 ∧ o.guard = some (3, true) ∧ o.op = Go.Op.load 28 (Go.Operand.tmp 62) ∧ (∀ c, o.op ≠ .defer c) := ⟨_, rfl, rfl, rfl, rfl, fun c h => by cases h⟩
theorem r13n_o6 : ∃ o, r13nO.1[6]? = some o ∧ o.dst = some 64 ∧ o.guard = some (3, true) ∧ o.op = Go.Op.call { callee := Go.Callee.value (Go.Operand.func 18), args := #[Go.Operand.tmp 63], argTypes := #[28] } ∧ (∀ c, o.op ≠ .defer c) := ⟨_, rfl, rfl, rfl, rfl, fun c h => by cases h⟩
theorem r13n_o7 : ∃ o, r13nO.1[7]? = some o ∧ o.dst = some 65 ∧ o.guard = some (3, true) ∧ o.op = Go.Op.unOp Go.UnOp.not 4 (Go.Operand.tmp 64) ∧ (∀ c, o.op ≠ .defer c) := ⟨_, rfl, rfl, rfl, rfl, fun c h => by cases h⟩
theorem r13n_o8 : ∃ o, r13nO.1[8]? = some o ∧ o.dst = some 66 ∧ o.guard = none ∧ o.op = Go.Op.pick (Go.Operand.tmp 61) (Go.Operand.tmp 65) (Go.Operand.const (Go.Value.bool false)) ∧ (∀ c, o.op ≠ .defer c) := ⟨_, rfl, rfl, rfl, rfl, fun c h => by cases h⟩
theorem r13n_o9 : ∃ o, r13nO.1[9]? = some o ∧ o.dst = some 67 ∧ o.guard = none ∧ o.op = Go.Op.move (Go.Operand.tmp 66) ∧ (∀ c, o.op ≠ .defer c) := ⟨_, rfl, rfl, rfl, rfl, fun c h => by cases h⟩
theorem r13n_o10 : ∃ o, r13nO.1[10]? = some o ∧ o.dst = some 68 ∧ o.guard = some (9, true) ∧ o.op = Go.Op.load 38 (Go.Operand.tmp 3) ∧ (∀ c, o.op ≠ .defer c) := ⟨_, rfl, rfl, rfl, rfl, fun c h => by cases h⟩
theorem r13n_o11 : ∃ o, r13nO.1[11]? = some o ∧ o.dst = some 69 ∧ o.guard = some (9, true) ∧ o.op = Go.Op.move (Go.Operand.tmp 4) ∧ (∀ c, o.op ≠ .defer c) := ⟨_, rfl, rfl, rfl, rfl, fun c h => by cases h⟩
theorem r13n_o12 : ∃ o, r13nO.1[12]? = some o ∧ o.dst = some 70 ∧ o.guard = some (9, true) ∧ o.op = Go.Op.binOp Go.BinOp.add 3 (Go.Operand.tmp 69) (Go.Operand.const (Go.Value.int Go.IntKind.i64 1)) 3 ∧ (∀ c, o.op ≠ .defer c) := ⟨_, rfl, rfl, rfl, rfl, fun c h => by cases h⟩
theorem r13n_o13 : ∃ o, r13nO.1[13]? = some o ∧ o.dst = some 71 ∧ o.guard = some (9, true) ∧ o.op = Go.Op.indexAddr 38 (Go.Operand.tmp 68) (Go.Operand.tmp 70) ∧ (∀ c, o.op ≠ .defer c) := ⟨_, rfl, rfl, rfl, rfl, fun c h => by cases h⟩
theorem r13n_o14 : ∃ o, r13nO.1[14]? = some o ∧ o.dst = some 72 ∧ o.guard = some (9, true) ∧ o.op = Go.Op.load 3 (Go.Operand.tmp 71) ∧ (∀ c, o.op ≠ .defer c) := ⟨_, rfl, rfl, rfl, rfl, fun c h => by cases h⟩
theorem r13n_o15 : ∃ o, r13nO.1[15]? = some o ∧ o.dst = some 73 ∧ o.guard = some (9, true) ∧ o.op = Go.Op.load 38 (Go.Operand.tmp 3) ∧ (∀ c, o.op ≠ .defer c) := ⟨_, rfl, rfl, rfl, rfl, fun c h => by cases h⟩
theorem r13n_o16 : ∃ o, r13nO.1[16]? = some o ∧ o.dst = some 74 ∧ o.guard = some (9, true) ∧ o.op = Go.Op.fieldAddr 30 (Go.Operand.tmp 5) 4 ∧ (∀ c, o.op ≠ .defer c) := ⟨_, rfl, rfl, rfl, rfl, fun c h => by cases h⟩
theorem r13n_o17 : ∃ o, r13nO.1[17]? = some o ∧ o.dst = some 75 ∧ o.guard = some (9, true) ∧ o.op = Go.Op.load 3 (Go.Operand.tmp 74) ∧ (∀ c, o.op ≠ .defer c) := ⟨_, rfl, rfl, rfl, rfl, fun c h => by cases h⟩
theorem r13n_o18 : ∃ o, r13nO.1[18]? = some o ∧ o.dst = some 76 ∧ o.guard = some (9, true) ∧ o.op = Go.Op.indexAddr 38 (Go.Operand.tmp 73) (Go.Operand.tmp 75) ∧ (∀ c, o.op ≠ .defer c) := ⟨_, rfl, rfl, rfl, rfl, fun c h => by cases h⟩
theorem r13n_o19 : ∃ o, r13nO.1[19]? = some o ∧ o.dst = some 77 ∧ o.guard = some (9, true) ∧ o.op = Go.Op.load 3 (Go.Operand.tmp 76) ∧ (∀ c, o.op ≠ .defer c) := ⟨_, rfl, rfl, rfl, rfl, fun c h => by cases h⟩
theorem r13n_o20 : ∃ o, r13nO.1[20]? = some o ∧ o.dst = some 78 ∧ o.guard = some (9, true) ∧ o.op = Go.Op.binOp Go.BinOp.eql 3 (Go.Operand.tmp 72) (Go.Operand.tmp 77) 3 ∧ (∀ c, o.op ≠ .defer c) := ⟨_, rfl, rfl, rfl, rfl, fun c h => by cases h⟩
theorem r13n_o21 : ∃ o, r13nO.1[21]? = some o ∧ o.dst = some 79 ∧ o.guard = none ∧ o.op = Go.Op.pick (Go.Operand.tmp 67) (Go.Operand.tmp 78) (Go.Operand.const (Go.Value.bool false)) ∧ (∀ c, o.op ≠ .defer c) := ⟨_, rfl, rfl, rfl, rfl, fun c h => by cases h⟩
theorem r13n_o22 : ∃ o, r13nO.1[22]? = some o ∧ o.dst = some 57 ∧ o.guard = none ∧ o.op = Go.Op.assign (Go.Operand.tmp 79) ∧ (∀ c, o.op ≠ .defer c) := ⟨_, rfl, rfl, rfl, rfl, fun c h => by cases h⟩
theorem r13n_e0 : ∃ o, r13nO.1[0]? = some o ∧ o.after = #[] := ⟨_, rfl, rfl⟩
theorem r13n_e1 : ∃ o, r13nO.1[1]? = some o ∧ o.after = #[⟨0, .data⟩] := ⟨_, rfl, rfl⟩
theorem r13n_e2 : ∃ o, r13nO.1[2]? = some o ∧ o.after = #[⟨1, .data⟩] := ⟨_, rfl, rfl⟩
theorem r13n_e3 : ∃ o, r13nO.1[3]? = some o ∧ o.after = #[⟨2, .data⟩] := ⟨_, rfl, rfl⟩
theorem r13n_e4 : ∃ o, r13nO.1[4]? = some o ∧ o.after = #[⟨3, .guard⟩] := ⟨_, rfl, rfl⟩
theorem r13n_e5 : ∃ o, r13nO.1[5]? = some o ∧ o.after = #[⟨4, .data⟩, ⟨3, .guard⟩] := ⟨_, rfl, rfl⟩
theorem r13n_e6 : ∃ o, r13nO.1[6]? = some o ∧ o.after = #[⟨5, .data⟩, ⟨3, .chain⟩, ⟨3, .guard⟩] := ⟨_, rfl, rfl⟩
theorem r13n_e7 : ∃ o, r13nO.1[7]? = some o ∧ o.after = #[⟨6, .data⟩, ⟨3, .guard⟩] := ⟨_, rfl, rfl⟩
theorem r13n_e8 : ∃ o, r13nO.1[8]? = some o ∧ o.after = #[⟨3, .data⟩, ⟨7, .data⟩] := ⟨_, rfl, rfl⟩
theorem r13n_e9 : ∃ o, r13nO.1[9]? = some o ∧ o.after = #[⟨8, .data⟩, ⟨6, .chain⟩] := ⟨_, rfl, rfl⟩
theorem r13n_e10 : ∃ o, r13nO.1[10]? = some o ∧ o.after = #[⟨9, .guard⟩] := ⟨_, rfl, rfl⟩
theorem r13n_e11 : ∃ o, r13nO.1[11]? = some o ∧ o.after = #[⟨9, .guard⟩] := ⟨_, rfl, rfl⟩
theorem r13n_e12 : ∃ o, r13nO.1[12]? = some o ∧ o.after = #[⟨11, .data⟩, ⟨9, .guard⟩] := ⟨_, rfl, rfl⟩
theorem r13n_e13 : ∃ o, r13nO.1[13]? = some o ∧ o.after = #[⟨10, .data⟩, ⟨12, .data⟩, ⟨9, .guard⟩] := ⟨_, rfl, rfl⟩
theorem r13n_e14 : ∃ o, r13nO.1[14]? = some o ∧ o.after = #[⟨13, .data⟩, ⟨9, .guard⟩] := ⟨_, rfl, rfl⟩
theorem r13n_e15 : ∃ o, r13nO.1[15]? = some o ∧ o.after = #[⟨9, .guard⟩] := ⟨_, rfl, rfl⟩
theorem r13n_e16 : ∃ o, r13nO.1[16]? = some o ∧ o.after = #[⟨9, .guard⟩] := ⟨_, rfl, rfl⟩
theorem r13n_e17 : ∃ o, r13nO.1[17]? = some o ∧ o.after = #[⟨16, .data⟩, ⟨9, .guard⟩] := ⟨_, rfl, rfl⟩
theorem r13n_e18 : ∃ o, r13nO.1[18]? = some o ∧ o.after = #[⟨15, .data⟩, ⟨17, .data⟩, ⟨9, .guard⟩] := ⟨_, rfl, rfl⟩
theorem r13n_e19 : ∃ o, r13nO.1[19]? = some o ∧ o.after = #[⟨18, .data⟩, ⟨9, .guard⟩] := ⟨_, rfl, rfl⟩
theorem r13n_e20 : ∃ o, r13nO.1[20]? = some o ∧ o.after = #[⟨14, .data⟩, ⟨19, .data⟩, ⟨9, .guard⟩] := ⟨_, rfl, rfl⟩
theorem r13n_e21 : ∃ o, r13nO.1[21]? = some o ∧ o.after = #[⟨9, .data⟩, ⟨20, .data⟩] := ⟨_, rfl, rfl⟩
theorem r13n_e22 : ∃ o, r13nO.1[22]? = some o ∧ o.after = #[⟨21, .data⟩, ⟨9, .chain⟩] := ⟨_, rfl, rfl⟩
set_option maxRecDepth 100000 in
set_option maxHeartbeats 4000000 in
theorem r13n (l' m : Nat) (W : World) (S0 gT nn xi r1 r2 Bx tj me ce : Nat) (pe : Option Addr) (zk : Int) (Q : Exit → Act → World → Prop) (a : Act) (hsz : a.tmps.size = 89)
    (k3 : a.tmps[3]? = some (.pointer (some ⟨S0, 0, none⟩)))
    (k4 : a.tmps[4]? = some (.int .i64 (xi : Int)))
    (k5 : a.tmps[5]? = some (.pointer (some ⟨Bx, 0, none⟩)))
    (hcells : ∀ w1, Below W.heap.size W w1 → w1.cell? ⟨S0, 0, none⟩ = some (.slice (some ⟨gT, 0, none⟩) nn nn) ∧ w1.cell? ⟨Bx, 0, none⟩ = some (.int .u8 zk))
    (hk7 : (zk == 7) = false)
    (hexit : ∀ a' W', a'.tmps.size = 89 ∧ a'.tmps[3]? = some (.pointer (some ⟨S0, 0, none⟩)) ∧ a'.tmps[4]? = some (.int .i64 (xi : Int)) ∧ a'.tmps[5]? = some (.pointer (some ⟨Bx, 0, none⟩)) ∧ a'.tmps[57]? = some (.bool false) ∧ Below W.heap.size W W' → Q .normal a' W') :
    Code.wpIn (Fence.wide.inRound l') m Try.prog (((Try.f10.body.bind (findRegion 13))).getD .skip) Q a W := by
  rw [r13nO.2]
  show Code.wpIn _ _ _ (.region 13 r13nO.1 true) Q a W
  refine wpIn_region_inv (by kernel_rfl) (fun L a1 w1 => RI a.tmps r13nD (r13nV S0 gT nn xi r1 r2 Bx tj me ce pe zk) L a1 ∧ (Below W.heap.size W w1)) ?_ ?_ ?_ ?_
  · exact ⟨RI.init rfl, below_drewN (Below.refl _ _) 1⟩
  · rintro L a1 w1 i hL hi hnd hdep ⟨hI, hw⟩
    have hLs : L.size = 23 := hL
    have hsl : Slots a.tmps.size r13nD := by rw [hsz]; exact r13n_slots
    have e3 : a1.eval (.tmp 3) = .pointer (some ⟨S0, 0, none⟩) := hI.ev0 (r13n_old 3 (by decide)) k3
    have e4 : a1.eval (.tmp 4) = .int .i64 (xi : Int) := hI.ev0 (r13n_old 4 (by decide)) k4
    have e5 : a1.eval (.tmp 5) = .pointer (some ⟨Bx, 0, none⟩) := hI.ev0 (r13n_old 5 (by decide)) k5
    match i, hi with
    | 0, _ =>
      obtain ⟨o, ho, hd, hg, hop, hnod⟩ := r13n_o0
      obtain ⟨cT, cB0⟩ := hcells w1 hw
      refine wpOpIn_val ho (wanted_un hg) hnod (ex_field (by decide) hop e5) ⟨by rw [hd]; exact hI.put hsl rfl rfl, ?_⟩
      exact hw
    | 1, _ =>
      obtain ⟨o, ho, hd, hg, hop, hnod⟩ := r13n_o1
      obtain ⟨cT, cB0⟩ := hcells w1 hw
      have e58 : a1.eval (.tmp 58) = .pointer (some ⟨Bx, 0, none⟩) := hI.ev (i := 0) (hdep o ho ⟨0, .data⟩ (by obtain ⟨o2, ho2, hof⟩ := r13n_e1; rw [ho] at ho2; cases ho2; rw [hof]; simp) (by kernel_rfl)) rfl rfl
      refine wpOpIn_val ho (wanted_un hg) hnod (ex_load_u8 hop e58 cB0) ⟨by rw [hd]; exact hI.put hsl rfl rfl, ?_⟩
      exact hw
    | 2, _ =>
      obtain ⟨o, ho, hd, hg, hop, hnod⟩ := r13n_o2
      obtain ⟨cT, cB0⟩ := hcells w1 hw
      have e59 : a1.eval (.tmp 59) = .int .u8 zk := hI.ev (i := 1) (hdep o ho ⟨1, .data⟩ (by obtain ⟨o2, ho2, hof⟩ := r13n_e2; rw [ho] at ho2; cases ho2; rw [hof]; simp) (by kernel_rfl)) rfl rfl
      refine wpOpIn_val ho (wanted_un hg) hnod (by have h7 := ex_eq7 (w := w1) hop e59 rfl; rw [hk7] at h7; exact h7) ⟨by rw [hd]; exact hI.put hsl rfl rfl, ?_⟩
      exact hw
    | 3, _ =>
      obtain ⟨o, ho, hd, hg, hop, hnod⟩ := r13n_o3
      obtain ⟨cT, cB0⟩ := hcells w1 hw
      have e60 : a1.eval (.tmp 60) = .bool false := hI.ev (i := 2) (hdep o ho ⟨2, .data⟩ (by obtain ⟨o2, ho2, hof⟩ := r13n_e3; rw [ho] at ho2; cases ho2; rw [hof]; simp) (by kernel_rfl)) rfl rfl
      refine wpOpIn_val ho (wanted_un hg) hnod (ex_move hop e60) ⟨by rw [hd]; exact hI.put hsl rfl rfl, ?_⟩
      exact hw
    | 4, _ =>
      obtain ⟨o, ho, hd, hg, hop, hnod⟩ := r13n_o4
      obtain ⟨cT, cB0⟩ := hcells w1 hw
      have e61 : a1.eval (.tmp 61) = .bool false := hI.ev (i := 3) (hdep o ho ⟨3, .guard⟩ (by obtain ⟨o2, ho2, hof⟩ := r13n_e4; rw [ho] at ho2; cases ho2; rw [hof]; simp) (by kernel_rfl)) rfl rfl
      refine wpOpIn_not ho (by obtain ⟨oj, hoj, hdj, -⟩ := r13n_o3; rw [wanted_if hg hoj hdj e61 (by rw [hI.tsz, hsz]; decide)]; rfl) ⟨by rw [hd]; exact hI.put hsl rfl rfl, ?_⟩
      exact hw
    | 5, _ =>
      obtain ⟨o, ho, hd, hg, hop, hnod⟩ := r13n_o5
      obtain ⟨cT, cB0⟩ := hcells w1 hw
      have e61 : a1.eval (.tmp 61) = .bool false := hI.ev (i := 3) (hdep o ho ⟨3, .guard⟩ (by obtain ⟨o2, ho2, hof⟩ := r13n_e5; rw [ho] at ho2; cases ho2; rw [hof]; simp) (by kernel_rfl)) rfl rfl
      refine wpOpIn_not ho (by obtain ⟨oj, hoj, hdj, -⟩ := r13n_o3; rw [wanted_if hg hoj hdj e61 (by rw [hI.tsz, hsz]; decide)]; rfl) ⟨by rw [hd]; exact hI.put hsl rfl rfl, ?_⟩
      exact hw
    | 6, _ =>
      obtain ⟨o, ho, hd, hg, hop, hnod⟩ := r13n_o6
      obtain ⟨cT, cB0⟩ := hcells w1 hw
      have e61 : a1.eval (.tmp 61) = .bool false := hI.ev (i := 3) (hdep o ho ⟨3, .guard⟩ (by obtain ⟨o2, ho2, hof⟩ := r13n_e6; rw [ho] at ho2; cases ho2; rw [hof]; simp) (by kernel_rfl)) rfl rfl
      refine wpOpIn_not ho (by obtain ⟨oj, hoj, hdj, -⟩ := r13n_o3; rw [wanted_if hg hoj hdj e61 (by rw [hI.tsz, hsz]; decide)]; rfl) ⟨by rw [hd]; exact hI.put hsl rfl rfl, ?_⟩
      exact hw
    | 7, _ =>
      obtain ⟨o, ho, hd, hg, hop, hnod⟩ := r13n_o7
      obtain ⟨cT, cB0⟩ := hcells w1 hw
      have e61 : a1.eval (.tmp 61) = .bool false := hI.ev (i := 3) (hdep o ho ⟨3, .guard⟩ (by obtain ⟨o2, ho2, hof⟩ := r13n_e7; rw [ho] at ho2; cases ho2; rw [hof]; simp) (by kernel_rfl)) rfl rfl
      refine wpOpIn_not ho (by obtain ⟨oj, hoj, hdj, -⟩ := r13n_o3; rw [wanted_if hg hoj hdj e61 (by rw [hI.tsz, hsz]; decide)]; rfl) ⟨by rw [hd]; exact hI.put hsl rfl rfl, ?_⟩
      exact hw
    | 8, _ =>
      obtain ⟨o, ho, hd, hg, hop, hnod⟩ := r13n_o8
      obtain ⟨cT, cB0⟩ := hcells w1 hw
      have e61 : a1.eval (.tmp 61) = .bool false := hI.ev (i := 3) (hdep o ho ⟨3, .data⟩ (by obtain ⟨o2, ho2, hof⟩ := r13n_e8; rw [ho] at ho2; cases ho2; rw [hof]; simp) (by kernel_rfl)) rfl rfl
      refine wpOpIn_val ho (wanted_un hg) hnod (ex_pick hop e61 rfl) ⟨by rw [hd]; exact hI.put hsl rfl rfl, ?_⟩
      exact hw
    | 9, _ =>
      obtain ⟨o, ho, hd, hg, hop, hnod⟩ := r13n_o9
      obtain ⟨cT, cB0⟩ := hcells w1 hw
      have e66 : a1.eval (.tmp 66) = .bool false := hI.ev (i := 8) (hdep o ho ⟨8, .data⟩ (by obtain ⟨o2, ho2, hof⟩ := r13n_e9; rw [ho] at ho2; cases ho2; rw [hof]; simp) (by kernel_rfl)) rfl rfl
      refine wpOpIn_val ho (wanted_un hg) hnod (ex_move hop e66) ⟨by rw [hd]; exact hI.put hsl rfl rfl, ?_⟩
      exact hw
    | 10, _ =>
      obtain ⟨o, ho, hd, hg, hop, hnod⟩ := r13n_o10
      obtain ⟨cT, cB0⟩ := hcells w1 hw
      have e67 : a1.eval (.tmp 67) = .bool false := hI.ev (i := 9) (hdep o ho ⟨9, .guard⟩ (by obtain ⟨o2, ho2, hof⟩ := r13n_e10; rw [ho] at ho2; cases ho2; rw [hof]; simp) (by kernel_rfl)) rfl rfl
      refine wpOpIn_not ho (by obtain ⟨oj, hoj, hdj, -⟩ := r13n_o9; rw [wanted_if hg hoj hdj e67 (by rw [hI.tsz, hsz]; decide)]; rfl) ⟨by rw [hd]; exact hI.put hsl rfl rfl, ?_⟩
      exact hw
    | 11, _ =>
      obtain ⟨o, ho, hd, hg, hop, hnod⟩ := r13n_o11
      obtain ⟨cT, cB0⟩ := hcells w1 hw
      have e67 : a1.eval (.tmp 67) = .bool false := hI.ev (i := 9) (hdep o ho ⟨9, .guard⟩ (by obtain ⟨o2, ho2, hof⟩ := r13n_e11; rw [ho] at ho2; cases ho2; rw [hof]; simp) (by kernel_rfl)) rfl rfl
      refine wpOpIn_not ho (by obtain ⟨oj, hoj, hdj, -⟩ := r13n_o9; rw [wanted_if hg hoj hdj e67 (by rw [hI.tsz, hsz]; decide)]; rfl) ⟨by rw [hd]; exact hI.put hsl rfl rfl, ?_⟩
      exact hw
    | 12, _ =>
      obtain ⟨o, ho, hd, hg, hop, hnod⟩ := r13n_o12
      obtain ⟨cT, cB0⟩ := hcells w1 hw
      have e67 : a1.eval (.tmp 67) = .bool false := hI.ev (i := 9) (hdep o ho ⟨9, .guard⟩ (by obtain ⟨o2, ho2, hof⟩ := r13n_e12; rw [ho] at ho2; cases ho2; rw [hof]; simp) (by kernel_rfl)) rfl rfl
      refine wpOpIn_not ho (by obtain ⟨oj, hoj, hdj, -⟩ := r13n_o9; rw [wanted_if hg hoj hdj e67 (by rw [hI.tsz, hsz]; decide)]; rfl) ⟨by rw [hd]; exact hI.put hsl rfl rfl, ?_⟩
      exact hw
    | 13, _ =>
      obtain ⟨o, ho, hd, hg, hop, hnod⟩ := r13n_o13
      obtain ⟨cT, cB0⟩ := hcells w1 hw
      have e67 : a1.eval (.tmp 67) = .bool false := hI.ev (i := 9) (hdep o ho ⟨9, .guard⟩ (by obtain ⟨o2, ho2, hof⟩ := r13n_e13; rw [ho] at ho2; cases ho2; rw [hof]; simp) (by kernel_rfl)) rfl rfl
      refine wpOpIn_not ho (by obtain ⟨oj, hoj, hdj, -⟩ := r13n_o9; rw [wanted_if hg hoj hdj e67 (by rw [hI.tsz, hsz]; decide)]; rfl) ⟨by rw [hd]; exact hI.put hsl rfl rfl, ?_⟩
      exact hw
    | 14, _ =>
      obtain ⟨o, ho, hd, hg, hop, hnod⟩ := r13n_o14
      obtain ⟨cT, cB0⟩ := hcells w1 hw
      have e67 : a1.eval (.tmp 67) = .bool false := hI.ev (i := 9) (hdep o ho ⟨9, .guard⟩ (by obtain ⟨o2, ho2, hof⟩ := r13n_e14; rw [ho] at ho2; cases ho2; rw [hof]; simp) (by kernel_rfl)) rfl rfl
      refine wpOpIn_not ho (by obtain ⟨oj, hoj, hdj, -⟩ := r13n_o9; rw [wanted_if hg hoj hdj e67 (by rw [hI.tsz, hsz]; decide)]; rfl) ⟨by rw [hd]; exact hI.put hsl rfl rfl, ?_⟩
      exact hw
    | 15, _ =>
      obtain ⟨o, ho, hd, hg, hop, hnod⟩ := r13n_o15
      obtain ⟨cT, cB0⟩ := hcells w1 hw
      have e67 : a1.eval (.tmp 67) = .bool false := hI.ev (i := 9) (hdep o ho ⟨9, .guard⟩ (by obtain ⟨o2, ho2, hof⟩ := r13n_e15; rw [ho] at ho2; cases ho2; rw [hof]; simp) (by kernel_rfl)) rfl rfl
      refine wpOpIn_not ho (by obtain ⟨oj, hoj, hdj, -⟩ := r13n_o9; rw [wanted_if hg hoj hdj e67 (by rw [hI.tsz, hsz]; decide)]; rfl) ⟨by rw [hd]; exact hI.put hsl rfl rfl, ?_⟩
      exact hw
    | 16, _ =>
      obtain ⟨o, ho, hd, hg, hop, hnod⟩ := r13n_o16
      obtain ⟨cT, cB0⟩ := hcells w1 hw
      have e67 : a1.eval (.tmp 67) = .bool false := hI.ev (i := 9) (hdep o ho ⟨9, .guard⟩ (by obtain ⟨o2, ho2, hof⟩ := r13n_e16; rw [ho] at ho2; cases ho2; rw [hof]; simp) (by kernel_rfl)) rfl rfl
      refine wpOpIn_not ho (by obtain ⟨oj, hoj, hdj, -⟩ := r13n_o9; rw [wanted_if hg hoj hdj e67 (by rw [hI.tsz, hsz]; decide)]; rfl) ⟨by rw [hd]; exact hI.put hsl rfl rfl, ?_⟩
      exact hw
    | 17, _ =>
      obtain ⟨o, ho, hd, hg, hop, hnod⟩ := r13n_o17
      obtain ⟨cT, cB0⟩ := hcells w1 hw
      have e67 : a1.eval (.tmp 67) = .bool false := hI.ev (i := 9) (hdep o ho ⟨9, .guard⟩ (by obtain ⟨o2, ho2, hof⟩ := r13n_e17; rw [ho] at ho2; cases ho2; rw [hof]; simp) (by kernel_rfl)) rfl rfl
      refine wpOpIn_not ho (by obtain ⟨oj, hoj, hdj, -⟩ := r13n_o9; rw [wanted_if hg hoj hdj e67 (by rw [hI.tsz, hsz]; decide)]; rfl) ⟨by rw [hd]; exact hI.put hsl rfl rfl, ?_⟩
      exact hw
    | 18, _ =>
      obtain ⟨o, ho, hd, hg, hop, hnod⟩ := r13n_o18
      obtain ⟨cT, cB0⟩ := hcells w1 hw
      have e67 : a1.eval (.tmp 67) = .bool false := hI.ev (i := 9) (hdep o ho ⟨9, .guard⟩ (by obtain ⟨o2, ho2, hof⟩ := r13n_e18; rw [ho] at ho2; cases ho2; rw [hof]; simp) (by kernel_rfl)) rfl rfl
      refine wpOpIn_not ho (by obtain ⟨oj, hoj, hdj, -⟩ := r13n_o9; rw [wanted_if hg hoj hdj e67 (by rw [hI.tsz, hsz]; decide)]; rfl) ⟨by rw [hd]; exact hI.put hsl rfl rfl, ?_⟩
      exact hw
    | 19, _ =>
      obtain ⟨o, ho, hd, hg, hop, hnod⟩ := r13n_o19
      obtain ⟨cT, cB0⟩ := hcells w1 hw
      have e67 : a1.eval (.tmp 67) = .bool false := hI.ev (i := 9) (hdep o ho ⟨9, .guard⟩ (by obtain ⟨o2, ho2, hof⟩ := r13n_e19; rw [ho] at ho2; cases ho2; rw [hof]; simp) (by kernel_rfl)) rfl rfl
      refine wpOpIn_not ho (by obtain ⟨oj, hoj, hdj, -⟩ := r13n_o9; rw [wanted_if hg hoj hdj e67 (by rw [hI.tsz, hsz]; decide)]; rfl) ⟨by rw [hd]; exact hI.put hsl rfl rfl, ?_⟩
      exact hw
    | 20, _ =>
      obtain ⟨o, ho, hd, hg, hop, hnod⟩ := r13n_o20
      obtain ⟨cT, cB0⟩ := hcells w1 hw
      have e67 : a1.eval (.tmp 67) = .bool false := hI.ev (i := 9) (hdep o ho ⟨9, .guard⟩ (by obtain ⟨o2, ho2, hof⟩ := r13n_e20; rw [ho] at ho2; cases ho2; rw [hof]; simp) (by kernel_rfl)) rfl rfl
      refine wpOpIn_not ho (by obtain ⟨oj, hoj, hdj, -⟩ := r13n_o9; rw [wanted_if hg hoj hdj e67 (by rw [hI.tsz, hsz]; decide)]; rfl) ⟨by rw [hd]; exact hI.put hsl rfl rfl, ?_⟩
      exact hw
    | 21, _ =>
      obtain ⟨o, ho, hd, hg, hop, hnod⟩ := r13n_o21
      obtain ⟨cT, cB0⟩ := hcells w1 hw
      have e67 : a1.eval (.tmp 67) = .bool false := hI.ev (i := 9) (hdep o ho ⟨9, .data⟩ (by obtain ⟨o2, ho2, hof⟩ := r13n_e21; rw [ho] at ho2; cases ho2; rw [hof]; simp) (by kernel_rfl)) rfl rfl
      refine wpOpIn_val ho (wanted_un hg) hnod (ex_pick hop e67 rfl) ⟨by rw [hd]; exact hI.put hsl rfl rfl, ?_⟩
      exact hw
    | 22, _ =>
      obtain ⟨o, ho, hd, hg, hop, hnod⟩ := r13n_o22
      obtain ⟨cT, cB0⟩ := hcells w1 hw
      have e79 : a1.eval (.tmp 79) = .bool false := hI.ev (i := 21) (hdep o ho ⟨21, .data⟩ (by obtain ⟨o2, ho2, hof⟩ := r13n_e22; rw [ho] at ho2; cases ho2; rw [hof]; simp) (by kernel_rfl)) rfl rfl
      refine wpOpIn_val ho (wanted_un hg) hnod (ex_assign hop e79) ⟨by rw [hd]; exact hI.put hsl rfl rfl, ?_⟩
      exact hw
    | i + 23, hi => exact absurd hi (by show ¬ (i + 23 < 23); omega)
  · intro i o ho e he
    have h : ((List.range 23).all fun i => (r13nO.1[i]?.map fun o => o.after.all fun e => decide (e.on < i)).getD false) = true := by kernel_rfl
    have hi : i < 23 := by
      by_cases q : i < 23
      · exact q
      · rw [Array.getElem?_eq_none (by show 23 ≤ i; omega)] at ho; cases ho
    have h2 := List.all_eq_true.1 h i (List.mem_range.2 hi)
    rw [ho] at h2
    simp only [Option.map_some, Option.getD_some, Array.all_eq_true'] at h2
    simpa using h2 e he
  · rintro L a1 w1 hall ⟨hI, hw⟩
    have hsl : Slots a.tmps.size r13nD := by rw [hsz]; exact r13n_slots
    refine hexit a1 w1 ⟨by rw [hI.tsz, hsz], (hI.old 3 (r13n_old 3 (by decide))).trans k3, (hI.old 4 (r13n_old 4 (by decide))).trans k4, (hI.old 5 (r13n_old 5 (by decide))).trans k5, ?_, hw⟩
    exact hI.new 22 57 _ (hall 22 (by show 22 < 23; decide)) rfl rfl

def r13rD : List (Option Nat) := [some 58, some 59, some 60, some 61, some 62, some 63, some 64, some 65, some 66, some 67, some 68, some 69, some 70, some 71, some 72, some 73, some 74, some 75, some 76, some 77, some 78, some 79, some 57]
theorem r13r_slots : Slots 89 r13rD := by
  have h1 : ((List.range 23).all fun i => (List.range 23).all fun j => decide (i = j) || (r13rD[i]?.getD none).isNone || !((r13rD[i]?.getD none) == (r13rD[j]?.getD none))) = true := by decide
  have h2 : (r13rD.all fun x => match x with | some s => decide (s < 89) | none => true) = true := by decide
  refine ⟨fun i j s hi hj => ?_, fun i s hi => ?_⟩
  · have li : i < 23 := (List.getElem?_eq_some_iff.1 hi).1
    have lj : j < 23 := (List.getElem?_eq_some_iff.1 hj).1
    have := List.all_eq_true.1 (List.all_eq_true.1 h1 i (List.mem_range.2 li)) j (List.mem_range.2 lj)
    rw [hi, hj] at this
    simpa using this
  · have := List.all_eq_true.1 h2 _ (List.mem_of_getElem? hi)
    simpa using this
theorem r13r_old (s : Nat) (h : s < 57) : ∀ i : Nat, r13rD[i]? ≠ some (some s) := by
  have h2 : (r13rD.all fun x => match x with | some s => decide (57 ≤ s) | none => true) = true := by decide
  intro i hi
  have := List.all_eq_true.1 h2 _ (List.mem_of_getElem? hi)
  simp at this
  omega
def r13rV (S0 gT nn xi r1 r2 Bx tj me ce : Nat) (pe : Option Addr) (zk : Int) : List Value := [.pointer (some ⟨Bx, 0, none⟩), .int .u8 zk, .bool true, .bool true, .pointer (some ⟨Bx, 3, none⟩), .slice pe me ce, .bool true, .bool false, .bool false, .bool false, undef, undef, undef, undef, undef, undef, undef, undef, undef, undef, undef, .bool false, .bool false]
noncomputable def r13rO : { c : Array Oper // (Try.f10.body.bind (findRegion 13)) = some (.region 13 c true) } := ⟨_, rfl⟩
theorem r13r_o0 : ∃ o, r13rO.1[0]? = some o ∧ o.dst = some 58 ∧ o.guard = none ∧ o.op = Go.Op.fieldAddr 30 (Go.Operand.tmp 5) 0 ∧ (∀ c, o.op ≠ .defer c) := ⟨_, rfl, rfl, rfl, rfl, fun c h => by cases h⟩
theorem r13r_o1 : ∃ o, r13rO.1[1]? = some o ∧ o.dst = some 59 ∧ o.guard = none ∧ o.op = Go.Op.load 5 (Go.Operand.tmp 58) ∧ (∀ c, o.op ≠ .defer c) := ⟨_, rfl, rfl, rfl, rfl, fun c h => by cases h⟩
theorem r13r_o2 : ∃ o, r13rO.1[2]? = some o ∧ o.dst = some 60 ∧ o.guard = none ∧ o.op = Go.Op.binOp Go.BinOp.eql 5 (Go.Operand.tmp 59) (Go.Operand.const (Go.Value.int Go.IntKind.u8 7)) 5 ∧ (∀ c, o.op ≠ .defer c) := ⟨_, rfl, rfl, rfl, rfl, fun c h => by cases h⟩
theorem r13r_o3 : ∃ o, r13rO.1[3]? = some o ∧ o.dst = some 61 ∧ o.guard = none ∧ o.op = Go.Op.move (Go.Operand.tmp 60) ∧ (∀ c, o.op ≠ .defer c) := ⟨_, rfl, rfl, rfl, rfl, fun c h => by cases h⟩
theorem r13r_o4 : ∃ o, r13rO.1[4]? = some o ∧ o.dst = some 62 ∧ o.guard = some (3, true) ∧ o.op = Go.Op.fieldAddr 30 (Go.Operand.tmp 5) 3 ∧ (∀ c, o.op ≠ .defer c) := ⟨_, rfl, rfl, rfl, rfl, fun c h => by cases h⟩
theorem r13r_o5 : ∃ o, r13rO.1[5]? = some o ∧ o.dst = some 63 ∧ o.guard = some (3, true) ∧ o.op = Go.Op.load 28 (Go.Operand.tmp 62) ∧ (∀ c, o.op ≠ .defer c) := ⟨_, rfl, rfl, rfl, rfl, fun c h => by cases h⟩
theorem r13r_o6 : ∃ o, r13rO.1[6]? = some o ∧ o.dst = some 64 ∧ o.guard = some (3, true) ∧ o.op = Go.Op.call { callee := Go.Callee.value (Go.Operand.func 18), args := #[Go.Operand.tmp 63], argTypes := #[28] } ∧ (∀ c, o.op ≠ .defer c) := ⟨_, rfl, rfl, rfl, rfl, fun c h => by cases h⟩
theorem r13r_o7 : ∃ o, r13rO.1[7]? = some o ∧ o.dst = some 65 ∧ o.guard = some (3, true) ∧ o.op = Go.Op.unOp Go.UnOp.not 4 (Go.Operand.tmp 64) ∧ (∀ c, o.op ≠ .defer c) := ⟨_, rfl, rfl, rfl, rfl, fun c h => by cases h⟩
theorem r13r_o8 : ∃ o, r13rO.1[8]? = some o ∧ o.dst = some 66 ∧ o.guard = none ∧ o.op = Go.Op.pick (Go.Operand.tmp 61) (Go.Operand.tmp 65) (Go.Operand.const (Go.Value.bool false)) ∧ (∀ c, o.op ≠ .defer c) := ⟨_, rfl, rfl, rfl, rfl, fun c h => by cases h⟩
theorem r13r_o9 : ∃ o, r13rO.1[9]? = some o ∧ o.dst = some 67 ∧ o.guard = none ∧ o.op = Go.Op.move (Go.Operand.tmp 66) ∧ (∀ c, o.op ≠ .defer c) := ⟨_, rfl, rfl, rfl, rfl, fun c h => by cases h⟩
theorem r13r_o10 : ∃ o, r13rO.1[10]? = some o ∧ o.dst = some 68 ∧ o.guard = some (9, true) ∧ o.op = Go.Op.load 38 (Go.Operand.tmp 3) ∧ (∀ c, o.op ≠ .defer c) := ⟨_, rfl, rfl, rfl, rfl, fun c h => by cases h⟩
theorem r13r_o11 : ∃ o, r13rO.1[11]? = some o ∧ o.dst = some 69 ∧ o.guard = some (9, true) ∧ o.op = Go.Op.move (Go.Operand.tmp 4) ∧ (∀ c, o.op ≠ .defer c) := ⟨_, rfl, rfl, rfl, rfl, fun c h => by cases h⟩
theorem r13r_o12 : ∃ o, r13rO.1[12]? = some o ∧ o.dst = some 70 ∧ o.guard = some (9, true) ∧ o.op = Go.Op.binOp Go.BinOp.add 3 (Go.Operand.tmp 69) (Go.Operand.const (Go.Value.int Go.IntKind.i64 1)) 3 ∧ (∀ c, o.op ≠ .defer c) := ⟨_, rfl, rfl, rfl, rfl, fun c h => by cases h⟩
theorem r13r_o13 : ∃ o, r13rO.1[13]? = some o ∧ o.dst = some 71 ∧ o.guard = some (9, true) ∧ o.op = Go.Op.indexAddr 38 (Go.Operand.tmp 68) (Go.Operand.tmp 70) ∧ (∀ c, o.op ≠ .defer c) := ⟨_, rfl, rfl, rfl, rfl, fun c h => by cases h⟩
theorem r13r_o14 : ∃ o, r13rO.1[14]? = some o ∧ o.dst = some 72 ∧ o.guard = some (9, true) ∧ o.op = Go.Op.load 3 (Go.Operand.tmp 71) ∧ (∀ c, o.op ≠ .defer c) := ⟨_, rfl, rfl, rfl, rfl, fun c h => by cases h⟩
theorem r13r_o15 : ∃ o, r13rO.1[15]? = some o ∧ o.dst = some 73 ∧ o.guard = some (9, true) ∧ o.op = Go.Op.load 38 (Go.Operand.tmp 3) ∧ (∀ c, o.op ≠ .defer c) := ⟨_, rfl, rfl, rfl, rfl, fun c h => by cases h⟩
theorem r13r_o16 : ∃ o, r13rO.1[16]? = some o ∧ o.dst = some 74 ∧ o.guard = some (9, true) ∧ o.op = Go.Op.fieldAddr 30 (Go.Operand.tmp 5) 4 ∧ (∀ c, o.op ≠ .defer c) := ⟨_, rfl, rfl, rfl, rfl, fun c h => by cases h⟩
theorem r13r_o17 : ∃ o, r13rO.1[17]? = some o ∧ o.dst = some 75 ∧ o.guard = some (9, true) ∧ o.op = Go.Op.load 3 (Go.Operand.tmp 74) ∧ (∀ c, o.op ≠ .defer c) := ⟨_, rfl, rfl, rfl, rfl, fun c h => by cases h⟩
theorem r13r_o18 : ∃ o, r13rO.1[18]? = some o ∧ o.dst = some 76 ∧ o.guard = some (9, true) ∧ o.op = Go.Op.indexAddr 38 (Go.Operand.tmp 73) (Go.Operand.tmp 75) ∧ (∀ c, o.op ≠ .defer c) := ⟨_, rfl, rfl, rfl, rfl, fun c h => by cases h⟩
theorem r13r_o19 : ∃ o, r13rO.1[19]? = some o ∧ o.dst = some 77 ∧ o.guard = some (9, true) ∧ o.op = Go.Op.load 3 (Go.Operand.tmp 76) ∧ (∀ c, o.op ≠ .defer c) := ⟨_, rfl, rfl, rfl, rfl, fun c h => by cases h⟩
theorem r13r_o20 : ∃ o, r13rO.1[20]? = some o ∧ o.dst = some 78 ∧ o.guard = some (9, true) ∧ o.op = Go.Op.binOp Go.BinOp.eql 3 (Go.Operand.tmp 72) (Go.Operand.tmp 77) 3 ∧ (∀ c, o.op ≠ .defer c) := ⟨_, rfl, rfl, rfl, rfl, fun c h => by cases h⟩
theorem r13r_o21 : ∃ o, r13rO.1[21]? = some o ∧ o.dst = some 79 ∧ o.guard = none ∧ o.op = Go.Op.pick (Go.Operand.tmp 67) (Go.Operand.tmp 78) (Go.Operand.const (Go.Value.bool false)) ∧ (∀ c, o.op ≠ .defer c) := ⟨_, rfl, rfl, rfl, rfl, fun c h => by cases h⟩
theorem r13r_o22 : ∃ o, r13rO.1[22]? = some o ∧ o.dst = some 57 ∧ o.guard = none ∧ o.op = Go.Op.assign (Go.Operand.tmp 79) ∧ (∀ c, o.op ≠ .defer c) := ⟨_, rfl, rfl, rfl, rfl, fun c h => by cases h⟩
theorem r13r_e0 : ∃ o, r13rO.1[0]? = some o ∧ o.after = #[] := ⟨_, rfl, rfl⟩
theorem r13r_e1 : ∃ o, r13rO.1[1]? = some o ∧ o.after = #[⟨0, .data⟩] := ⟨_, rfl, rfl⟩
theorem r13r_e2 : ∃ o, r13rO.1[2]? = some o ∧ o.after = #[⟨1, .data⟩] := ⟨_, rfl, rfl⟩
theorem r13r_e3 : ∃ o, r13rO.1[3]? = some o ∧ o.after = #[⟨2, .data⟩] := ⟨_, rfl, rfl⟩
theorem r13r_e4 : ∃ o, r13rO.1[4]? = some o ∧ o.after = #[⟨3, .guard⟩] := ⟨_, rfl, rfl⟩
theorem r13r_e5 : ∃ o, r13rO.1[5]? = some o ∧ o.after = #[⟨4, .data⟩, ⟨3, .guard⟩] := ⟨_, rfl, rfl⟩
theorem r13r_e6 : ∃ o, r13rO.1[6]? = some o ∧ o.after = #[⟨5, .data⟩, ⟨3, .chain⟩, ⟨3, .guard⟩] := ⟨_, rfl, rfl⟩
theorem r13r_e7 : ∃ o, r13rO.1[7]? = some o ∧ o.after = #[⟨6, .data⟩, ⟨3, .guard⟩] := ⟨_, rfl, rfl⟩
theorem r13r_e8 : ∃ o, r13rO.1[8]? = some o ∧ o.after = #[⟨3, .data⟩, ⟨7, .data⟩] := ⟨_, rfl, rfl⟩
theorem r13r_e9 : ∃ o, r13rO.1[9]? = some o ∧ o.after = #[⟨8, .data⟩, ⟨6, .chain⟩] := ⟨_, rfl, rfl⟩
theorem r13r_e10 : ∃ o, r13rO.1[10]? = some o ∧ o.after = #[⟨9, .guard⟩] := ⟨_, rfl, rfl⟩
theorem r13r_e11 : ∃ o, r13rO.1[11]? = some o ∧ o.after = #[⟨9, .guard⟩] := ⟨_, rfl, rfl⟩
theorem r13r_e12 : ∃ o, r13rO.1[12]? = some o ∧ o.after = #[⟨11, .data⟩, ⟨9, .guard⟩] := ⟨_, rfl, rfl⟩
theorem r13r_e13 : ∃ o, r13rO.1[13]? = some o ∧ o.after = #[⟨10, .data⟩, ⟨12, .data⟩, ⟨9, .guard⟩] := ⟨_, rfl, rfl⟩
theorem r13r_e14 : ∃ o, r13rO.1[14]? = some o ∧ o.after = #[⟨13, .data⟩, ⟨9, .guard⟩] := ⟨_, rfl, rfl⟩
theorem r13r_e15 : ∃ o, r13rO.1[15]? = some o ∧ o.after = #[⟨9, .guard⟩] := ⟨_, rfl, rfl⟩
theorem r13r_e16 : ∃ o, r13rO.1[16]? = some o ∧ o.after = #[⟨9, .guard⟩] := ⟨_, rfl, rfl⟩
theorem r13r_e17 : ∃ o, r13rO.1[17]? = some o ∧ o.after = #[⟨16, .data⟩, ⟨9, .guard⟩] := ⟨_, rfl, rfl⟩
theorem r13r_e18 : ∃ o, r13rO.1[18]? = some o ∧ o.after = #[⟨15, .data⟩, ⟨17, .data⟩, ⟨9, .guard⟩] := ⟨_, rfl, rfl⟩
theorem r13r_e19 : ∃ o, r13rO.1[19]? = some o ∧ o.after = #[⟨18, .data⟩, ⟨9, .guard⟩] := ⟨_, rfl, rfl⟩
theorem r13r_e20 : ∃ o, r13rO.1[20]? = some o ∧ o.after = #[⟨14, .data⟩, ⟨19, .data⟩, ⟨9, .guard⟩] := ⟨_, rfl, rfl⟩
theorem r13r_e21 : ∃ o, r13rO.1[21]? = some o ∧ o.after = #[⟨9, .data⟩, ⟨20, .data⟩] := ⟨_, rfl, rfl⟩
theorem r13r_e22 : ∃ o, r13rO.1[22]? = some o ∧ o.after = #[⟨21, .data⟩, ⟨9, .chain⟩] := ⟨_, rfl, rfl⟩
set_option maxRecDepth 100000 in
set_option maxHeartbeats 4000000 in
theorem r13r (l' m : Nat) (W : World) (S0 gT nn xi r1 r2 Bx tj me ce : Nat) (pe : Option Addr) (zk : Int) (Q : Exit → Act → World → Prop) (a : Act) (hsz : a.tmps.size = 89)
    (k3 : a.tmps[3]? = some (.pointer (some ⟨S0, 0, none⟩)))
    (k4 : a.tmps[4]? = some (.int .i64 (xi : Int)))
    (k5 : a.tmps[5]? = some (.pointer (some ⟨Bx, 0, none⟩)))
    (hcells : ∀ w1, Below W.heap.size W w1 → w1.cell? ⟨S0, 0, none⟩ = some (.slice (some ⟨gT, 0, none⟩) nn nn) ∧ w1.cell? ⟨Bx, 0, none⟩ = some (.int .u8 zk) ∧ w1.cell? ⟨Bx, 3, none⟩ = some (.slice pe me ce) ∧ w1.cell? ⟨Bx, 4, none⟩ = some (.int .i64 (tj : Int)) ∧ w1.cell? ⟨gT, xi + 1, none⟩ = some (.int .i64 (r1 : Int)) ∧ w1.cell? ⟨gT, tj, none⟩ = some (.int .i64 (r2 : Int)))
    (hxn : xi + 1 < nn)
    (hnn : nn ≤ 1000000000000001)
    (htn : tj < nn)
    (hk7 : (zk == 7) = true)
    (hrd : ∀ w1, Below W.heap.size W w1 → Calls Try.prog 18 #[.slice pe me ce] w1 fun e w2 => e = .returned (.bool true) ∧ Below w1.heap.size w1 w2)
    (hexit : ∀ a' W', a'.tmps.size = 89 ∧ a'.tmps[3]? = some (.pointer (some ⟨S0, 0, none⟩)) ∧ a'.tmps[4]? = some (.int .i64 (xi : Int)) ∧ a'.tmps[5]? = some (.pointer (some ⟨Bx, 0, none⟩)) ∧ a'.tmps[57]? = some (.bool false) ∧ Below W.heap.size W W' → Q .normal a' W') :
    Code.wpIn (Fence.wide.inRound l') m Try.prog (((Try.f10.body.bind (findRegion 13))).getD .skip) Q a W := by
  rw [r13rO.2]
  show Code.wpIn _ _ _ (.region 13 r13rO.1 true) Q a W
  refine wpIn_region_inv (by kernel_rfl) (fun L a1 w1 => RI a.tmps r13rD (r13rV S0 gT nn xi r1 r2 Bx tj me ce pe zk) L a1 ∧ (Below W.heap.size W w1)) ?_ ?_ ?_ ?_
  · exact ⟨RI.init rfl, below_drewN (Below.refl _ _) 1⟩
  · rintro L a1 w1 i hL hi hnd hdep ⟨hI, hw⟩
    have hLs : L.size = 23 := hL
    have hsl : Slots a.tmps.size r13rD := by rw [hsz]; exact r13r_slots
    have e3 : a1.eval (.tmp 3) = .pointer (some ⟨S0, 0, none⟩) := hI.ev0 (r13r_old 3 (by decide)) k3
    have e4 : a1.eval (.tmp 4) = .int .i64 (xi : Int) := hI.ev0 (r13r_old 4 (by decide)) k4
    have e5 : a1.eval (.tmp 5) = .pointer (some ⟨Bx, 0, none⟩) := hI.ev0 (r13r_old 5 (by decide)) k5
    match i, hi with
    | 0, _ =>
      obtain ⟨o, ho, hd, hg, hop, hnod⟩ := r13r_o0
      obtain ⟨cT, cB0, cB3, cB4, y1, y2⟩ := hcells w1 hw
      refine wpOpIn_val ho (wanted_un hg) hnod (ex_field (by decide) hop e5) ⟨by rw [hd]; exact hI.put hsl rfl rfl, ?_⟩
      exact hw
    | 1, _ =>
      obtain ⟨o, ho, hd, hg, hop, hnod⟩ := r13r_o1
      obtain ⟨cT, cB0, cB3, cB4, y1, y2⟩ := hcells w1 hw
      have e58 : a1.eval (.tmp 58) = .pointer (some ⟨Bx, 0, none⟩) := hI.ev (i := 0) (hdep o ho ⟨0, .data⟩ (by obtain ⟨o2, ho2, hof⟩ := r13r_e1; rw [ho] at ho2; cases ho2; rw [hof]; simp) (by kernel_rfl)) rfl rfl
      refine wpOpIn_val ho (wanted_un hg) hnod (ex_load_u8 hop e58 cB0) ⟨by rw [hd]; exact hI.put hsl rfl rfl, ?_⟩
      exact hw
    | 2, _ =>
      obtain ⟨o, ho, hd, hg, hop, hnod⟩ := r13r_o2
      obtain ⟨cT, cB0, cB3, cB4, y1, y2⟩ := hcells w1 hw
      have e59 : a1.eval (.tmp 59) = .int .u8 zk := hI.ev (i := 1) (hdep o ho ⟨1, .data⟩ (by obtain ⟨o2, ho2, hof⟩ := r13r_e2; rw [ho] at ho2; cases ho2; rw [hof]; simp) (by kernel_rfl)) rfl rfl
      refine wpOpIn_val ho (wanted_un hg) hnod (by have h7 := ex_eq7 (w := w1) hop e59 rfl; rw [hk7] at h7; exact h7) ⟨by rw [hd]; exact hI.put hsl rfl rfl, ?_⟩
      exact hw
    | 3, _ =>
      obtain ⟨o, ho, hd, hg, hop, hnod⟩ := r13r_o3
      obtain ⟨cT, cB0, cB3, cB4, y1, y2⟩ := hcells w1 hw
      have e60 : a1.eval (.tmp 60) = .bool true := hI.ev (i := 2) (hdep o ho ⟨2, .data⟩ (by obtain ⟨o2, ho2, hof⟩ := r13r_e3; rw [ho] at ho2; cases ho2; rw [hof]; simp) (by kernel_rfl)) rfl rfl
      refine wpOpIn_val ho (wanted_un hg) hnod (ex_move hop e60) ⟨by rw [hd]; exact hI.put hsl rfl rfl, ?_⟩
      exact hw
    | 4, _ =>
      obtain ⟨o, ho, hd, hg, hop, hnod⟩ := r13r_o4
      obtain ⟨cT, cB0, cB3, cB4, y1, y2⟩ := hcells w1 hw
      have e61 : a1.eval (.tmp 61) = .bool true := hI.ev (i := 3) (hdep o ho ⟨3, .guard⟩ (by obtain ⟨o2, ho2, hof⟩ := r13r_e4; rw [ho] at ho2; cases ho2; rw [hof]; simp) (by kernel_rfl)) rfl rfl
      refine wpOpIn_val ho (by obtain ⟨oj, hoj, hdj, -⟩ := r13r_o3; rw [wanted_if hg hoj hdj e61 (by rw [hI.tsz, hsz]; decide)]; rfl) hnod (ex_field (by decide) hop e5) ⟨by rw [hd]; exact hI.put hsl rfl rfl, ?_⟩
      exact hw
    | 5, _ =>
      obtain ⟨o, ho, hd, hg, hop, hnod⟩ := r13r_o5
      obtain ⟨cT, cB0, cB3, cB4, y1, y2⟩ := hcells w1 hw
      have e61 : a1.eval (.tmp 61) = .bool true := hI.ev (i := 3) (hdep o ho ⟨3, .guard⟩ (by obtain ⟨o2, ho2, hof⟩ := r13r_e5; rw [ho] at ho2; cases ho2; rw [hof]; simp) (by kernel_rfl)) rfl rfl
      have e62 : a1.eval (.tmp 62) = .pointer (some ⟨Bx, 3, none⟩) := hI.ev (i := 4) (hdep o ho ⟨4, .data⟩ (by obtain ⟨o2, ho2, hof⟩ := r13r_e5; rw [ho] at ho2; cases ho2; rw [hof]; simp) (by kernel_rfl)) rfl rfl
      refine wpOpIn_val ho (by obtain ⟨oj, hoj, hdj, -⟩ := r13r_o3; rw [wanted_if hg hoj hdj e61 (by rw [hI.tsz, hsz]; decide)]; rfl) hnod (ex_load_code hop e62 cB3) ⟨by rw [hd]; exact hI.put hsl rfl rfl, ?_⟩
      exact hw
    | 6, _ =>
      obtain ⟨o, ho, hd, hg, hop, hnod⟩ := r13r_o6
      obtain ⟨cT, cB0, cB3, cB4, y1, y2⟩ := hcells w1 hw
      have e61 : a1.eval (.tmp 61) = .bool true := hI.ev (i := 3) (hdep o ho ⟨3, .guard⟩ (by obtain ⟨o2, ho2, hof⟩ := r13r_e6; rw [ho] at ho2; cases ho2; rw [hof]; simp) (by kernel_rfl)) rfl rfl
      have e63 : a1.eval (.tmp 63) = .slice pe me ce := hI.ev (i := 5) (hdep o ho ⟨5, .data⟩ (by obtain ⟨o2, ho2, hof⟩ := r13r_e6; rw [ho] at ho2; cases ho2; rw [hof]; simp) (by kernel_rfl)) rfl rfl
      refine wpOpIn_call ho (by obtain ⟨oj, hoj, hdj, -⟩ := r13r_o3; rw [wanted_if hg hoj hdj e61 (by rw [hI.tsz, hsz]; decide)]; rfl) hnod (ex_callf hop rfl (by simp [e63]) (enters_of Try.func18 (by kernel_rfl) rfl)) (hrd w1 hw) (fun w2 hb => ⟨by rw [hd]; exact hI.put hsl rfl rfl, ?_⟩)
      exact hw.trans (hb.mono hw.size)
    | 7, _ =>
      obtain ⟨o, ho, hd, hg, hop, hnod⟩ := r13r_o7
      obtain ⟨cT, cB0, cB3, cB4, y1, y2⟩ := hcells w1 hw
      have e61 : a1.eval (.tmp 61) = .bool true := hI.ev (i := 3) (hdep o ho ⟨3, .guard⟩ (by obtain ⟨o2, ho2, hof⟩ := r13r_e7; rw [ho] at ho2; cases ho2; rw [hof]; simp) (by kernel_rfl)) rfl rfl
      have e64 : a1.eval (.tmp 64) = .bool true := hI.ev (i := 6) (hdep o ho ⟨6, .data⟩ (by obtain ⟨o2, ho2, hof⟩ := r13r_e7; rw [ho] at ho2; cases ho2; rw [hof]; simp) (by kernel_rfl)) rfl rfl
      refine wpOpIn_val ho (by obtain ⟨oj, hoj, hdj, -⟩ := r13r_o3; rw [wanted_if hg hoj hdj e61 (by rw [hI.tsz, hsz]; decide)]; rfl) hnod (ex_not hop e64) ⟨by rw [hd]; exact hI.put hsl rfl rfl, ?_⟩
      exact hw
    | 8, _ =>
      obtain ⟨o, ho, hd, hg, hop, hnod⟩ := r13r_o8
      obtain ⟨cT, cB0, cB3, cB4, y1, y2⟩ := hcells w1 hw
      have e61 : a1.eval (.tmp 61) = .bool true := hI.ev (i := 3) (hdep o ho ⟨3, .data⟩ (by obtain ⟨o2, ho2, hof⟩ := r13r_e8; rw [ho] at ho2; cases ho2; rw [hof]; simp) (by kernel_rfl)) rfl rfl
      have e65 : a1.eval (.tmp 65) = .bool false := hI.ev (i := 7) (hdep o ho ⟨7, .data⟩ (by obtain ⟨o2, ho2, hof⟩ := r13r_e8; rw [ho] at ho2; cases ho2; rw [hof]; simp) (by kernel_rfl)) rfl rfl
      refine wpOpIn_val ho (wanted_un hg) hnod (ex_pick hop e61 ((if_pos rfl).trans e65)) ⟨by rw [hd]; exact hI.put hsl rfl rfl, ?_⟩
      exact hw
    | 9, _ =>
      obtain ⟨o, ho, hd, hg, hop, hnod⟩ := r13r_o9
      obtain ⟨cT, cB0, cB3, cB4, y1, y2⟩ := hcells w1 hw
      have e66 : a1.eval (.tmp 66) = .bool false := hI.ev (i := 8) (hdep o ho ⟨8, .data⟩ (by obtain ⟨o2, ho2, hof⟩ := r13r_e9; rw [ho] at ho2; cases ho2; rw [hof]; simp) (by kernel_rfl)) rfl rfl
      refine wpOpIn_val ho (wanted_un hg) hnod (ex_move hop e66) ⟨by rw [hd]; exact hI.put hsl rfl rfl, ?_⟩
      exact hw
    | 10, _ =>
      obtain ⟨o, ho, hd, hg, hop, hnod⟩ := r13r_o10
      obtain ⟨cT, cB0, cB3, cB4, y1, y2⟩ := hcells w1 hw
      have e67 : a1.eval (.tmp 67) = .bool false := hI.ev (i := 9) (hdep o ho ⟨9, .guard⟩ (by obtain ⟨o2, ho2, hof⟩ := r13r_e10; rw [ho] at ho2; cases ho2; rw [hof]; simp) (by kernel_rfl)) rfl rfl
      refine wpOpIn_not ho (by obtain ⟨oj, hoj, hdj, -⟩ := r13r_o9; rw [wanted_if hg hoj hdj e67 (by rw [hI.tsz, hsz]; decide)]; rfl) ⟨by rw [hd]; exact hI.put hsl rfl rfl, ?_⟩
      exact hw
    | 11, _ =>
      obtain ⟨o, ho, hd, hg, hop, hnod⟩ := r13r_o11
      obtain ⟨cT, cB0, cB3, cB4, y1, y2⟩ := hcells w1 hw
      have e67 : a1.eval (.tmp 67) = .bool false := hI.ev (i := 9) (hdep o ho ⟨9, .guard⟩ (by obtain ⟨o2, ho2, hof⟩ := r13r_e11; rw [ho] at ho2; cases ho2; rw [hof]; simp) (by kernel_rfl)) rfl rfl
      refine wpOpIn_not ho (by obtain ⟨oj, hoj, hdj, -⟩ := r13r_o9; rw [wanted_if hg hoj hdj e67 (by rw [hI.tsz, hsz]; decide)]; rfl) ⟨by rw [hd]; exact hI.put hsl rfl rfl, ?_⟩
      exact hw
    | 12, _ =>
      obtain ⟨o, ho, hd, hg, hop, hnod⟩ := r13r_o12
      obtain ⟨cT, cB0, cB3, cB4, y1, y2⟩ := hcells w1 hw
      have e67 : a1.eval (.tmp 67) = .bool false := hI.ev (i := 9) (hdep o ho ⟨9, .guard⟩ (by obtain ⟨o2, ho2, hof⟩ := r13r_e12; rw [ho] at ho2; cases ho2; rw [hof]; simp) (by kernel_rfl)) rfl rfl
      refine wpOpIn_not ho (by obtain ⟨oj, hoj, hdj, -⟩ := r13r_o9; rw [wanted_if hg hoj hdj e67 (by rw [hI.tsz, hsz]; decide)]; rfl) ⟨by rw [hd]; exact hI.put hsl rfl rfl, ?_⟩
      exact hw
    | 13, _ =>
      obtain ⟨o, ho, hd, hg, hop, hnod⟩ := r13r_o13
      obtain ⟨cT, cB0, cB3, cB4, y1, y2⟩ := hcells w1 hw
      have e67 : a1.eval (.tmp 67) = .bool false := hI.ev (i := 9) (hdep o ho ⟨9, .guard⟩ (by obtain ⟨o2, ho2, hof⟩ := r13r_e13; rw [ho] at ho2; cases ho2; rw [hof]; simp) (by kernel_rfl)) rfl rfl
      refine wpOpIn_not ho (by obtain ⟨oj, hoj, hdj, -⟩ := r13r_o9; rw [wanted_if hg hoj hdj e67 (by rw [hI.tsz, hsz]; decide)]; rfl) ⟨by rw [hd]; exact hI.put hsl rfl rfl, ?_⟩
      exact hw
    | 14, _ =>
      obtain ⟨o, ho, hd, hg, hop, hnod⟩ := r13r_o14
      obtain ⟨cT, cB0, cB3, cB4, y1, y2⟩ := hcells w1 hw
      have e67 : a1.eval (.tmp 67) = .bool false := hI.ev (i := 9) (hdep o ho ⟨9, .guard⟩ (by obtain ⟨o2, ho2, hof⟩ := r13r_e14; rw [ho] at ho2; cases ho2; rw [hof]; simp) (by kernel_rfl)) rfl rfl
      refine wpOpIn_not ho (by obtain ⟨oj, hoj, hdj, -⟩ := r13r_o9; rw [wanted_if hg hoj hdj e67 (by rw [hI.tsz, hsz]; decide)]; rfl) ⟨by rw [hd]; exact hI.put hsl rfl rfl, ?_⟩
      exact hw
    | 15, _ =>
      obtain ⟨o, ho, hd, hg, hop, hnod⟩ := r13r_o15
      obtain ⟨cT, cB0, cB3, cB4, y1, y2⟩ := hcells w1 hw
      have e67 : a1.eval (.tmp 67) = .bool false := hI.ev (i := 9) (hdep o ho ⟨9, .guard⟩ (by obtain ⟨o2, ho2, hof⟩ := r13r_e15; rw [ho] at ho2; cases ho2; rw [hof]; simp) (by kernel_rfl)) rfl rfl
      refine wpOpIn_not ho (by obtain ⟨oj, hoj, hdj, -⟩ := r13r_o9; rw [wanted_if hg hoj hdj e67 (by rw [hI.tsz, hsz]; decide)]; rfl) ⟨by rw [hd]; exact hI.put hsl rfl rfl, ?_⟩
      exact hw
    | 16, _ =>
      obtain ⟨o, ho, hd, hg, hop, hnod⟩ := r13r_o16
      obtain ⟨cT, cB0, cB3, cB4, y1, y2⟩ := hcells w1 hw
      have e67 : a1.eval (.tmp 67) = .bool false := hI.ev (i := 9) (hdep o ho ⟨9, .guard⟩ (by obtain ⟨o2, ho2, hof⟩ := r13r_e16; rw [ho] at ho2; cases ho2; rw [hof]; simp) (by kernel_rfl)) rfl rfl
      refine wpOpIn_not ho (by obtain ⟨oj, hoj, hdj, -⟩ := r13r_o9; rw [wanted_if hg hoj hdj e67 (by rw [hI.tsz, hsz]; decide)]; rfl) ⟨by rw [hd]; exact hI.put hsl rfl rfl, ?_⟩
      exact hw
    | 17, _ =>
      obtain ⟨o, ho, hd, hg, hop, hnod⟩ := r13r_o17
      obtain ⟨cT, cB0, cB3, cB4, y1, y2⟩ := hcells w1 hw
      have e67 : a1.eval (.tmp 67) = .bool false := hI.ev (i := 9) (hdep o ho ⟨9, .guard⟩ (by obtain ⟨o2, ho2, hof⟩ := r13r_e17; rw [ho] at ho2; cases ho2; rw [hof]; simp) (by kernel_rfl)) rfl rfl
      refine wpOpIn_not ho (by obtain ⟨oj, hoj, hdj, -⟩ := r13r_o9; rw [wanted_if hg hoj hdj e67 (by rw [hI.tsz, hsz]; decide)]; rfl) ⟨by rw [hd]; exact hI.put hsl rfl rfl, ?_⟩
      exact hw
    | 18, _ =>
      obtain ⟨o, ho, hd, hg, hop, hnod⟩ := r13r_o18
      obtain ⟨cT, cB0, cB3, cB4, y1, y2⟩ := hcells w1 hw
      have e67 : a1.eval (.tmp 67) = .bool false := hI.ev (i := 9) (hdep o ho ⟨9, .guard⟩ (by obtain ⟨o2, ho2, hof⟩ := r13r_e18; rw [ho] at ho2; cases ho2; rw [hof]; simp) (by kernel_rfl)) rfl rfl
      refine wpOpIn_not ho (by obtain ⟨oj, hoj, hdj, -⟩ := r13r_o9; rw [wanted_if hg hoj hdj e67 (by rw [hI.tsz, hsz]; decide)]; rfl) ⟨by rw [hd]; exact hI.put hsl rfl rfl, ?_⟩
      exact hw
    | 19, _ =>
      obtain ⟨o, ho, hd, hg, hop, hnod⟩ := r13r_o19
      obtain ⟨cT, cB0, cB3, cB4, y1, y2⟩ := hcells w1 hw
      have e67 : a1.eval (.tmp 67) = .bool false := hI.ev (i := 9) (hdep o ho ⟨9, .guard⟩ (by obtain ⟨o2, ho2, hof⟩ := r13r_e19; rw [ho] at ho2; cases ho2; rw [hof]; simp) (by kernel_rfl)) rfl rfl
      refine wpOpIn_not ho (by obtain ⟨oj, hoj, hdj, -⟩ := r13r_o9; rw [wanted_if hg hoj hdj e67 (by rw [hI.tsz, hsz]; decide)]; rfl) ⟨by rw [hd]; exact hI.put hsl rfl rfl, ?_⟩
      exact hw
    | 20, _ =>
      obtain ⟨o, ho, hd, hg, hop, hnod⟩ := r13r_o20
      obtain ⟨cT, cB0, cB3, cB4, y1, y2⟩ := hcells w1 hw
      have e67 : a1.eval (.tmp 67) = .bool false := hI.ev (i := 9) (hdep o ho ⟨9, .guard⟩ (by obtain ⟨o2, ho2, hof⟩ := r13r_e20; rw [ho] at ho2; cases ho2; rw [hof]; simp) (by kernel_rfl)) rfl rfl
      refine wpOpIn_not ho (by obtain ⟨oj, hoj, hdj, -⟩ := r13r_o9; rw [wanted_if hg hoj hdj e67 (by rw [hI.tsz, hsz]; decide)]; rfl) ⟨by rw [hd]; exact hI.put hsl rfl rfl, ?_⟩
      exact hw
    | 21, _ =>
      obtain ⟨o, ho, hd, hg, hop, hnod⟩ := r13r_o21
      obtain ⟨cT, cB0, cB3, cB4, y1, y2⟩ := hcells w1 hw
      have e67 : a1.eval (.tmp 67) = .bool false := hI.ev (i := 9) (hdep o ho ⟨9, .data⟩ (by obtain ⟨o2, ho2, hof⟩ := r13r_e21; rw [ho] at ho2; cases ho2; rw [hof]; simp) (by kernel_rfl)) rfl rfl
      refine wpOpIn_val ho (wanted_un hg) hnod (ex_pick hop e67 rfl) ⟨by rw [hd]; exact hI.put hsl rfl rfl, ?_⟩
      exact hw
    | 22, _ =>
      obtain ⟨o, ho, hd, hg, hop, hnod⟩ := r13r_o22
      obtain ⟨cT, cB0, cB3, cB4, y1, y2⟩ := hcells w1 hw
      have e79 : a1.eval (.tmp 79) = .bool false := hI.ev (i := 21) (hdep o ho ⟨21, .data⟩ (by obtain ⟨o2, ho2, hof⟩ := r13r_e22; rw [ho] at ho2; cases ho2; rw [hof]; simp) (by kernel_rfl)) rfl rfl
      refine wpOpIn_val ho (wanted_un hg) hnod (ex_assign hop e79) ⟨by rw [hd]; exact hI.put hsl rfl rfl, ?_⟩
      exact hw
    | i + 23, hi => exact absurd hi (by show ¬ (i + 23 < 23); omega)
  · intro i o ho e he
    have h : ((List.range 23).all fun i => (r13rO.1[i]?.map fun o => o.after.all fun e => decide (e.on < i)).getD false) = true := by kernel_rfl
    have hi : i < 23 := by
      by_cases q : i < 23
      · exact q
      · rw [Array.getElem?_eq_none (by show 23 ≤ i; omega)] at ho; cases ho
    have h2 := List.all_eq_true.1 h i (List.mem_range.2 hi)
    rw [ho] at h2
    simp only [Option.map_some, Option.getD_some, Array.all_eq_true'] at h2
    simpa using h2 e he
  · rintro L a1 w1 hall ⟨hI, hw⟩
    have hsl : Slots a.tmps.size r13rD := by rw [hsz]; exact r13r_slots
    refine hexit a1 w1 ⟨by rw [hI.tsz, hsz], (hI.old 3 (r13r_old 3 (by decide))).trans k3, (hI.old 4 (r13r_old 4 (by decide))).trans k4, (hI.old 5 (r13r_old 5 (by decide))).trans k5, ?_, hw⟩
    exact hI.new 22 57 _ (hall 22 (by show 22 < 23; decide)) rfl rfl

def r13eD : List (Option Nat) := [some 58, some 59, some 60, some 61, some 62, some 63, some 64, some 65, some 66, some 67, some 68, some 69, some 70, some 71, some 72, some 73, some 74, some 75, some 76, some 77, some 78, some 79, some 57]
theorem r13e_slots : Slots 89 r13eD := by
  have h1 : ((List.range 23).all fun i => (List.range 23).all fun j => decide (i = j) || (r13eD[i]?.getD none).isNone || !((r13eD[i]?.getD none) == (r13eD[j]?.getD none))) = true := by decide
  have h2 : (r13eD.all fun x => match x with | some s => decide (s < 89) | none => true) = true := by decide
  refine ⟨fun i j s hi hj => ?_, fun i s hi => ?_⟩
  · have li : i < 23 := (List.getElem?_eq_some_iff.1 hi).1
    have lj : j < 23 := (List.getElem?_eq_some_iff.1 hj).1
    have := List.all_eq_true.1 (List.all_eq_true.1 h1 i (List.mem_range.2 li)) j (List.mem_range.2 lj)
    rw [hi, hj] at this
    simpa using this
  · have := List.all_eq_true.1 h2 _ (List.mem_of_getElem? hi)
    simpa using this
theorem r13e_old (s : Nat) (h : s < 57) : ∀ i : Nat, r13eD[i]? ≠ some (some s) := by
  have h2 : (r13eD.all fun x => match x with | some s => decide (57 ≤ s) | none => true) = true := by decide
  intro i hi
  have := List.all_eq_true.1 h2 _ (List.mem_of_getElem? hi)
  simp at this
  omega
def r13eV (S0 gT nn xi r1 r2 Bx tj me ce : Nat) (pe : Option Addr) (zk : Int) : List Value := [.pointer (some ⟨Bx, 0, none⟩), .int .u8 zk, .bool true, .bool true, .pointer (some ⟨Bx, 3, none⟩), .slice pe me ce, .bool false, .bool true, .bool true, .bool true, .slice (some ⟨gT, 0, none⟩) nn nn, .int .i64 (xi : Int), .int .i64 ((xi : Int) + 1), .pointer (some ⟨gT, xi + 1, none⟩), .int .i64 (r1 : Int), .slice (some ⟨gT, 0, none⟩) nn nn, .pointer (some ⟨Bx, 4, none⟩), .int .i64 (tj : Int), .pointer (some ⟨gT, tj, none⟩), .int .i64 (r2 : Int), .bool ((r1 : Int) == (r2 : Int)), .bool ((r1 : Int) == (r2 : Int)), .bool ((r1 : Int) == (r2 : Int))]
noncomputable def r13eO : { c : Array Oper // (Try.f10.body.bind (findRegion 13)) = some (.region 13 c true) } := ⟨_, rfl⟩
theorem r13e_o0 : ∃ o, r13eO.1[0]? = some o ∧ o.dst = some 58 ∧ o.guard = none ∧ o.op = Go.Op.fieldAddr 30 (Go.Operand.tmp 5) 0 ∧ (∀ c, o.op ≠ .defer c) := ⟨_, rfl, rfl, rfl, rfl, fun c h => by cases h⟩
theorem r13e_o1 : ∃ o, r13eO.1[1]? = some o ∧ o.dst = some 59 ∧ o.guard = none ∧ o.op = Go.Op.load 5 (Go.Operand.tmp 58) ∧ (∀ c, o.op ≠ .defer c) := ⟨_, rfl, rfl, rfl, rfl, fun c h => by cases h⟩
theorem r13e_o2 : ∃ o, r13eO.1[2]? = some o ∧ o.dst = some 60 ∧ o.guard = none ∧ o.op = Go.Op.binOp Go.BinOp.eql 5 (Go.Operand.tmp 59) (Go.Operand.const (Go.Value.int Go.IntKind.u8 7)) 5 ∧ (∀ c, o.op ≠ .defer c) := ⟨_, rfl, rfl, rfl, rfl, fun c h => by cases h⟩
theorem r13e_o3 : ∃ o, r13eO.1[3]? = some o ∧ o.dst = some 61 ∧ o.guard = none ∧ o.op = Go.Op.move (Go.Operand.tmp 60) ∧ (∀ c, o.op ≠ .defer c) := ⟨_, rfl, rfl, rfl, rfl, fun c h => by cases h⟩
theorem r13e_o4 : ∃ o, r13eO.1[4]? = some o ∧ o.dst = some 62 ∧ o.guard = some (3, true) ∧ o.op = Go.Op.fieldAddr 30 (Go.Operand.tmp 5) 3 ∧ (∀ c, o.op ≠ .defer c) := ⟨_, rfl, rfl, rfl, rfl, fun c h => by cases h⟩
theorem r13e_o5 : ∃ o, r13eO.1[5]? = some o ∧ o.dst = some 63 ∧ o.guard = some (3, true) ∧ o.op = Go.Op.load 28 (Go.Operand.tmp 62) ∧ (∀ c, o.op ≠ .defer c) := ⟨_, rfl, rfl, rfl, rfl, fun c h => by cases h⟩
theorem r13e_o6 : ∃ o, r13eO.1[6]? = some o ∧ o.dst = some 64 ∧ o.guard = some (3, true) ∧ o.op = Go.Op.call { callee := Go.Callee.value (Go.Operand.func 18), args := #[Go.Operand.tmp 63], argTypes := #[28] } ∧ (∀ c, o.op ≠ .defer c) := ⟨_, rfl, rfl, rfl, rfl, fun c h => by cases h⟩
theorem r13e_o7 : ∃ o, r13eO.1[7]? = some o ∧ o.dst = some 65 ∧ o.guard = some (3, true) ∧ o.op = Go.Op.unOp Go.UnOp.not 4 (Go.Operand.tmp 64) ∧ (∀ c, o.op ≠ .defer c) := ⟨_, rfl, rfl, rfl, rfl, fun c h => by cases h⟩
theorem r13e_o8 : ∃ o, r13eO.1[8]? = some o ∧ o.dst = some 66 ∧ o.guard = none ∧ o.op = Go.Op.pick (Go.Operand.tmp 61) (Go.Operand.tmp 65) (Go.Operand.const (Go.Value.bool false)) ∧ (∀ c, o.op ≠ .defer c) := ⟨_, rfl, rfl, rfl, rfl, fun c h => by cases h⟩
theorem r13e_o9 : ∃ o, r13eO.1[9]? = some o ∧ o.dst = some 67 ∧ o.guard = none ∧ o.op = Go.Op.move (Go.Operand.tmp 66) ∧ (∀ c, o.op ≠ .defer c) := ⟨_, rfl, rfl, rfl, rfl, fun c h => by cases h⟩
theorem r13e_o10 : ∃ o, r13eO.1[10]? = some o ∧ o.dst = some 68 ∧ o.guard = some (9, true) ∧ o.op = Go.Op.load 38 (Go.Operand.tmp 3) ∧ (∀ c, o.op ≠ .defer c) := ⟨_, rfl, rfl, rfl, rfl, fun c h => by cases h⟩
theorem r13e_o11 : ∃ o, r13eO.1[11]? = some o ∧ o.dst = some 69 ∧ o.guard = some (9, true) ∧ o.op = Go.Op.move (Go.Operand.tmp 4) ∧ (∀ c, o.op ≠ .defer c) := ⟨_, rfl, rfl, rfl, rfl, fun c h => by cases h⟩
theorem r13e_o12 : ∃ o, r13eO.1[12]? = some o ∧ o.dst = some 70 ∧ o.guard = some (9, true) ∧ o.op = Go.Op.binOp Go.BinOp.add 3 (Go.Operand.tmp 69) (Go.Operand.const (Go.Value.int Go.IntKind.i64 1)) 3 ∧ (∀ c, o.op ≠ .defer c) := ⟨_, rfl, rfl, rfl, rfl, fun c h => by cases h⟩
theorem r13e_o13 : ∃ o, r13eO.1[13]? = some o ∧ o.dst = some 71 ∧ o.guard = some (9, true) ∧ o.op = Go.Op.indexAddr 38 (Go.Operand.tmp 68) (Go.Operand.tmp 70) ∧ (∀ c, o.op ≠ .defer c) := ⟨_, rfl, rfl, rfl, rfl, fun c h => by cases h⟩
theorem r13e_o14 : ∃ o, r13eO.1[14]? = some o ∧ o.dst = some 72 ∧ o.guard = some (9, true) ∧ o.op = Go.Op.load 3 (Go.Operand.tmp 71) ∧ (∀ c, o.op ≠ .defer c) := ⟨_, rfl, rfl, rfl, rfl, fun c h => by cases h⟩
theorem r13e_o15 : ∃ o, r13eO.1[15]? = some o ∧ o.dst = some 73 ∧ o.guard = some (9, true) ∧ o.op = Go.Op.load 38 (Go.Operand.tmp 3) ∧ (∀ c, o.op ≠ .defer c) := ⟨_, rfl, rfl, rfl, rfl, fun c h => by cases h⟩
theorem r13e_o16 : ∃ o, r13eO.1[16]? = some o ∧ o.dst = some 74 ∧ o.guard = some (9, true) ∧ o.op = Go.Op.fieldAddr 30 (Go.Operand.tmp 5) 4 ∧ (∀ c, o.op ≠ .defer c) := ⟨_, rfl, rfl, rfl, rfl, fun c h => by cases h⟩
theorem r13e_o17 : ∃ o, r13eO.1[17]? = some o ∧ o.dst = some 75 ∧ o.guard = some (9, true) ∧ o.op = Go.Op.load 3 (Go.Operand.tmp 74) ∧ (∀ c, o.op ≠ .defer c) := ⟨_, rfl, rfl, rfl, rfl, fun c h => by cases h⟩
theorem r13e_o18 : ∃ o, r13eO.1[18]? = some o ∧ o.dst = some 76 ∧ o.guard = some (9, true) ∧ o.op = Go.Op.indexAddr 38 (Go.Operand.tmp 73) (Go.Operand.tmp 75) ∧ (∀ c, o.op ≠ .defer c) := ⟨_, rfl, rfl, rfl, rfl, fun c h => by cases h⟩
theorem r13e_o19 : ∃ o, r13eO.1[19]? = some o ∧ o.dst = some 77 ∧ o.guard = some (9, true) ∧ o.op = Go.Op.load 3 (Go.Operand.tmp 76) ∧ (∀ c, o.op ≠ .defer c) := ⟨_, rfl, rfl, rfl, rfl, fun c h => by cases h⟩
theorem r13e_o20 : ∃ o, r13eO.1[20]? = some o ∧ o.dst = some 78 ∧ o.guard = some (9, true) ∧ o.op = Go.Op.binOp Go.BinOp.eql 3 (Go.Operand.tmp 72) (Go.Operand.tmp 77) 3 ∧ (∀ c, o.op ≠ .defer c) := ⟨_, rfl, rfl, rfl, rfl, fun c h => by cases h⟩
theorem r13e_o21 : ∃ o, r13eO.1[21]? = some o ∧ o.dst = some 79 ∧ o.guard = none ∧ o.op = Go.Op.pick (Go.Operand.tmp 67) (Go.Operand.tmp 78) (Go.Operand.const (Go.Value.bool false)) ∧ (∀ c, o.op ≠ .defer c) := ⟨_, rfl, rfl, rfl, rfl, fun c h => by cases h⟩
theorem r13e_o22 : ∃ o, r13eO.1[22]? = some o ∧ o.dst = some 57 ∧ o.guard = none ∧ o.op = Go.Op.assign (Go.Operand.tmp 79) ∧ (∀ c, o.op ≠ .defer c) := ⟨_, rfl, rfl, rfl, rfl, fun c h => by cases h⟩
theorem r13e_e0 : ∃ o, r13eO.1[0]? = some o ∧ o.after = #[] := ⟨_, rfl, rfl⟩
theorem r13e_e1 : ∃ o, r13eO.1[1]? = some o ∧ o.after = #[⟨0, .data⟩] := ⟨_, rfl, rfl⟩
theorem r13e_e2 : ∃ o, r13eO.1[2]? = some o ∧ o.after = #[⟨1, .data⟩] := ⟨_, rfl, rfl⟩
theorem r13e_e3 : ∃ o, r13eO.1[3]? = some o ∧ o.after = #[⟨2, .data⟩] := ⟨_, rfl, rfl⟩
theorem r13e_e4 : ∃ o, r13eO.1[4]? = some o ∧ o.after = #[⟨3, .guard⟩] := ⟨_, rfl, rfl⟩
theorem r13e_e5 : ∃ o, r13eO.1[5]? = some o ∧ o.after = #[⟨4, .data⟩, ⟨3, .guard⟩] := ⟨_, rfl, rfl⟩
theorem r13e_e6 : ∃ o, r13eO.1[6]? = some o ∧ o.after = #[⟨5, .data⟩, ⟨3, .chain⟩, ⟨3, .guard⟩] := ⟨_, rfl, rfl⟩
theorem r13e_e7 : ∃ o, r13eO.1[7]? = some o ∧ o.after = #[⟨6, .data⟩, ⟨3, .guard⟩] := ⟨_, rfl, rfl⟩
theorem r13e_e8 : ∃ o, r13eO.1[8]? = some o ∧ o.after = #[⟨3, .data⟩, ⟨7, .data⟩] := ⟨_, rfl, rfl⟩
theorem r13e_e9 : ∃ o, r13eO.1[9]? = some o ∧ o.after = #[⟨8, .data⟩, ⟨6, .chain⟩] := ⟨_, rfl, rfl⟩
theorem r13e_e10 : ∃ o, r13eO.1[10]? = some o ∧ o.after = #[⟨9, .guard⟩] := ⟨_, rfl, rfl⟩
theorem r13e_e11 : ∃ o, r13eO.1[11]? = some o ∧ o.after = #[⟨9, .guard⟩] := ⟨_, rfl, rfl⟩
theorem r13e_e12 : ∃ o, r13eO.1[12]? = some o ∧ o.after = #[⟨11, .data⟩, ⟨9, .guard⟩] := ⟨_, rfl, rfl⟩
theorem r13e_e13 : ∃ o, r13eO.1[13]? = some o ∧ o.after = #[⟨10, .data⟩, ⟨12, .data⟩, ⟨9, .guard⟩] := ⟨_, rfl, rfl⟩
theorem r13e_e14 : ∃ o, r13eO.1[14]? = some o ∧ o.after = #[⟨13, .data⟩, ⟨9, .guard⟩] := ⟨_, rfl, rfl⟩
theorem r13e_e15 : ∃ o, r13eO.1[15]? = some o ∧ o.after = #[⟨9, .guard⟩] := ⟨_, rfl, rfl⟩
theorem r13e_e16 : ∃ o, r13eO.1[16]? = some o ∧ o.after = #[⟨9, .guard⟩] := ⟨_, rfl, rfl⟩
theorem r13e_e17 : ∃ o, r13eO.1[17]? = some o ∧ o.after = #[⟨16, .data⟩, ⟨9, .guard⟩] := ⟨_, rfl, rfl⟩
theorem r13e_e18 : ∃ o, r13eO.1[18]? = some o ∧ o.after = #[⟨15, .data⟩, ⟨17, .data⟩, ⟨9, .guard⟩] := ⟨_, rfl, rfl⟩
theorem r13e_e19 : ∃ o, r13eO.1[19]? = some o ∧ o.after = #[⟨18, .data⟩, ⟨9, .guard⟩] := ⟨_, rfl, rfl⟩
theorem r13e_e20 : ∃ o, r13eO.1[20]? = some o ∧ o.after = #[⟨14, .data⟩, ⟨19, .data⟩, ⟨9, .guard⟩] := ⟨_, rfl, rfl⟩
theorem r13e_e21 : ∃ o, r13eO.1[21]? = some o ∧ o.after = #[⟨9, .data⟩, ⟨20, .data⟩] := ⟨_, rfl, rfl⟩
theorem r13e_e22 : ∃ o, r13eO.1[22]? = some o ∧ o.after = #[⟨21, .data⟩, ⟨9, .chain⟩] := ⟨_, rfl, rfl⟩
set_option maxRecDepth 100000 in
set_option maxHeartbeats 4000000 in
theorem r13e (l' m : Nat) (W : World) (S0 gT nn xi r1 r2 Bx tj me ce : Nat) (pe : Option Addr) (zk : Int) (Q : Exit → Act → World → Prop) (a : Act) (hsz : a.tmps.size = 89)
    (k3 : a.tmps[3]? = some (.pointer (some ⟨S0, 0, none⟩)))
    (k4 : a.tmps[4]? = some (.int .i64 (xi : Int)))
    (k5 : a.tmps[5]? = some (.pointer (some ⟨Bx, 0, none⟩)))
    (hcells : ∀ w1, Below W.heap.size W w1 → w1.cell? ⟨S0, 0, none⟩ = some (.slice (some ⟨gT, 0, none⟩) nn nn) ∧ w1.cell? ⟨Bx, 0, none⟩ = some (.int .u8 zk) ∧ w1.cell? ⟨Bx, 3, none⟩ = some (.slice pe me ce) ∧ w1.cell? ⟨Bx, 4, none⟩ = some (.int .i64 (tj : Int)) ∧ w1.cell? ⟨gT, xi + 1, none⟩ = some (.int .i64 (r1 : Int)) ∧ w1.cell? ⟨gT, tj, none⟩ = some (.int .i64 (r2 : Int)))
    (hxn : xi + 1 < nn)
    (hnn : nn ≤ 1000000000000001)
    (htn : tj < nn)
    (hk7 : (zk == 7) = true)
    (hrd : ∀ w1, Below W.heap.size W w1 → Calls Try.prog 18 #[.slice pe me ce] w1 fun e w2 => e = .returned (.bool false) ∧ Below w1.heap.size w1 w2)
    (hexit : ∀ a' W', a'.tmps.size = 89 ∧ a'.tmps[3]? = some (.pointer (some ⟨S0, 0, none⟩)) ∧ a'.tmps[4]? = some (.int .i64 (xi : Int)) ∧ a'.tmps[5]? = some (.pointer (some ⟨Bx, 0, none⟩)) ∧ a'.tmps[57]? = some (.bool ((r1 : Int) == (r2 : Int))) ∧ Below W.heap.size W W' → Q .normal a' W') :
    Code.wpIn (Fence.wide.inRound l') m Try.prog (((Try.f10.body.bind (findRegion 13))).getD .skip) Q a W := by
  rw [r13eO.2]
  show Code.wpIn _ _ _ (.region 13 r13eO.1 true) Q a W
  refine wpIn_region_inv (by kernel_rfl) (fun L a1 w1 => RI a.tmps r13eD (r13eV S0 gT nn xi r1 r2 Bx tj me ce pe zk) L a1 ∧ (Below W.heap.size W w1)) ?_ ?_ ?_ ?_
  · exact ⟨RI.init rfl, below_drewN (Below.refl _ _) 1⟩
  · rintro L a1 w1 i hL hi hnd hdep ⟨hI, hw⟩
    have hLs : L.size = 23 := hL
    have hsl : Slots a.tmps.size r13eD := by rw [hsz]; exact r13e_slots
    have e3 : a1.eval (.tmp 3) = .pointer (some ⟨S0, 0, none⟩) := hI.ev0 (r13e_old 3 (by decide)) k3
    have e4 : a1.eval (.tmp 4) = .int .i64 (xi : Int) := hI.ev0 (r13e_old 4 (by decide)) k4
    have e5 : a1.eval (.tmp 5) = .pointer (some ⟨Bx, 0, none⟩) := hI.ev0 (r13e_old 5 (by decide)) k5
    match i, hi with
    | 0, _ =>
      obtain ⟨o, ho, hd, hg, hop, hnod⟩ := r13e_o0
      obtain ⟨cT, cB0, cB3, cB4, y1, y2⟩ := hcells w1 hw
      refine wpOpIn_val ho (wanted_un hg) hnod (ex_field (by decide) hop e5) ⟨by rw [hd]; exact hI.put hsl rfl rfl, ?_⟩
      exact hw
    | 1, _ =>
      obtain ⟨o, ho, hd, hg, hop, hnod⟩ := r13e_o1
      obtain ⟨cT, cB0, cB3, cB4, y1, y2⟩ := hcells w1 hw
      have e58 : a1.eval (.tmp 58) = .pointer (some ⟨Bx, 0, none⟩) := hI.ev (i := 0) (hdep o ho ⟨0, .data⟩ (by obtain ⟨o2, ho2, hof⟩ := r13e_e1; rw [ho] at ho2; cases ho2; rw [hof]; simp) (by kernel_rfl)) rfl rfl
      refine wpOpIn_val ho (wanted_un hg) hnod (ex_load_u8 hop e58 cB0) ⟨by rw [hd]; exact hI.put hsl rfl rfl, ?_⟩
      exact hw
    | 2, _ =>
      obtain ⟨o, ho, hd, hg, hop, hnod⟩ := r13e_o2
      obtain ⟨cT, cB0, cB3, cB4, y1, y2⟩ := hcells w1 hw
      have e59 : a1.eval (.tmp 59) = .int .u8 zk := hI.ev (i := 1) (hdep o ho ⟨1, .data⟩ (by obtain ⟨o2, ho2, hof⟩ := r13e_e2; rw [ho] at ho2; cases ho2; rw [hof]; simp) (by kernel_rfl)) rfl rfl
      refine wpOpIn_val ho (wanted_un hg) hnod (by have h7 := ex_eq7 (w := w1) hop e59 rfl; rw [hk7] at h7; exact h7) ⟨by rw [hd]; exact hI.put hsl rfl rfl, ?_⟩
      exact hw
    | 3, _ =>
      obtain ⟨o, ho, hd, hg, hop, hnod⟩ := r13e_o3
      obtain ⟨cT, cB0, cB3, cB4, y1, y2⟩ := hcells w1 hw
      have e60 : a1.eval (.tmp 60) = .bool true := hI.ev (i := 2) (hdep o ho ⟨2, .data⟩ (by obtain ⟨o2, ho2, hof⟩ := r13e_e3; rw [ho] at ho2; cases ho2; rw [hof]; simp) (by kernel_rfl)) rfl rfl
      refine wpOpIn_val ho (wanted_un hg) hnod (ex_move hop e60) ⟨by rw [hd]; exact hI.put hsl rfl rfl, ?_⟩
      exact hw
    | 4, _ =>
      obtain ⟨o, ho, hd, hg, hop, hnod⟩ := r13e_o4
      obtain ⟨cT, cB0, cB3, cB4, y1, y2⟩ := hcells w1 hw
      have e61 : a1.eval (.tmp 61) = .bool true := hI.ev (i := 3) (hdep o ho ⟨3, .guard⟩ (by obtain ⟨o2, ho2, hof⟩ := r13e_e4; rw [ho] at ho2; cases ho2; rw [hof]; simp) (by kernel_rfl)) rfl rfl
      refine wpOpIn_val ho (by obtain ⟨oj, hoj, hdj, -⟩ := r13e_o3; rw [wanted_if hg hoj hdj e61 (by rw [hI.tsz, hsz]; decide)]; rfl) hnod (ex_field (by decide) hop e5) ⟨by rw [hd]; exact hI.put hsl rfl rfl, ?_⟩
      exact hw
    | 5, _ =>
      obtain ⟨o, ho, hd, hg, hop, hnod⟩ := r13e_o5
      obtain ⟨cT, cB0, cB3, cB4, y1, y2⟩ := hcells w1 hw
      have e61 : a1.eval (.tmp 61) = .bool true := hI.ev (i := 3) (hdep o ho ⟨3, .guard⟩ (by obtain ⟨o2, ho2, hof⟩ := r13e_e5; rw [ho] at ho2; cases ho2; rw [hof]; simp) (by kernel_rfl)) rfl rfl
      have e62 : a1.eval (.tmp 62) = .pointer (some ⟨Bx, 3, none⟩) := hI.ev (i := 4) (hdep o ho ⟨4, .data⟩ (by obtain ⟨o2, ho2, hof⟩ := r13e_e5; rw [ho] at ho2; cases ho2; rw [hof]; simp) (by kernel_rfl)) rfl rfl
      refine wpOpIn_val ho (by obtain ⟨oj, hoj, hdj, -⟩ := r13e_o3; rw [wanted_if hg hoj hdj e61 (by rw [hI.tsz, hsz]; decide)]; rfl) hnod (ex_load_code hop e62 cB3) ⟨by rw [hd]; exact hI.put hsl rfl rfl, ?_⟩
      exact hw
    | 6, _ =>
      obtain ⟨o, ho, hd, hg, hop, hnod⟩ := r13e_o6
      obtain ⟨cT, cB0, cB3, cB4, y1, y2⟩ := hcells w1 hw
      have e61 : a1.eval (.tmp 61) = .bool true := hI.ev (i := 3) (hdep o ho ⟨3, .guard⟩ (by obtain ⟨o2, ho2, hof⟩ := r13e_e6; rw [ho] at ho2; cases ho2; rw [hof]; simp) (by kernel_rfl)) rfl rfl
      have e63 : a1.eval (.tmp 63) = .slice pe me ce := hI.ev (i := 5) (hdep o ho ⟨5, .data⟩ (by obtain ⟨o2, ho2, hof⟩ := r13e_e6; rw [ho] at ho2; cases ho2; rw [hof]; simp) (by kernel_rfl)) rfl rfl
      refine wpOpIn_call ho (by obtain ⟨oj, hoj, hdj, -⟩ := r13e_o3; rw [wanted_if hg hoj hdj e61 (by rw [hI.tsz, hsz]; decide)]; rfl) hnod (ex_callf hop rfl (by simp [e63]) (enters_of Try.func18 (by kernel_rfl) rfl)) (hrd w1 hw) (fun w2 hb => ⟨by rw [hd]; exact hI.put hsl rfl rfl, ?_⟩)
      exact hw.trans (hb.mono hw.size)
    | 7, _ =>
      obtain ⟨o, ho, hd, hg, hop, hnod⟩ := r13e_o7
      obtain ⟨cT, cB0, cB3, cB4, y1, y2⟩ := hcells w1 hw
      have e61 : a1.eval (.tmp 61) = .bool true := hI.ev (i := 3) (hdep o ho ⟨3, .guard⟩ (by obtain ⟨o2, ho2, hof⟩ := r13e_e7; rw [ho] at ho2; cases ho2; rw [hof]; simp) (by kernel_rfl)) rfl rfl
      have e64 : a1.eval (.tmp 64) = .bool false := hI.ev (i := 6) (hdep o ho ⟨6, .data⟩ (by obtain ⟨o2, ho2, hof⟩ := r13e_e7; rw [ho] at ho2; cases ho2; rw [hof]; simp) (by kernel_rfl)) rfl rfl
      refine wpOpIn_val ho (by obtain ⟨oj, hoj, hdj, -⟩ := r13e_o3; rw [wanted_if hg hoj hdj e61 (by rw [hI.tsz, hsz]; decide)]; rfl) hnod (ex_not hop e64) ⟨by rw [hd]; exact hI.put hsl rfl rfl, ?_⟩
      exact hw
    | 8, _ =>
      obtain ⟨o, ho, hd, hg, hop, hnod⟩ := r13e_o8
      obtain ⟨cT, cB0, cB3, cB4, y1, y2⟩ := hcells w1 hw
      have e61 : a1.eval (.tmp 61) = .bool true := hI.ev (i := 3) (hdep o ho ⟨3, .data⟩ (by obtain ⟨o2, ho2, hof⟩ := r13e_e8; rw [ho] at ho2; cases ho2; rw [hof]; simp) (by kernel_rfl)) rfl rfl
      have e65 : a1.eval (.tmp 65) = .bool true := hI.ev (i := 7) (hdep o ho ⟨7, .data⟩ (by obtain ⟨o2, ho2, hof⟩ := r13e_e8; rw [ho] at ho2; cases ho2; rw [hof]; simp) (by kernel_rfl)) rfl rfl
      refine wpOpIn_val ho (wanted_un hg) hnod (ex_pick hop e61 ((if_pos rfl).trans e65)) ⟨by rw [hd]; exact hI.put hsl rfl rfl, ?_⟩
      exact hw
    | 9, _ =>
      obtain ⟨o, ho, hd, hg, hop, hnod⟩ := r13e_o9
      obtain ⟨cT, cB0, cB3, cB4, y1, y2⟩ := hcells w1 hw
      have e66 : a1.eval (.tmp 66) = .bool true := hI.ev (i := 8) (hdep o ho ⟨8, .data⟩ (by obtain ⟨o2, ho2, hof⟩ := r13e_e9; rw [ho] at ho2; cases ho2; rw [hof]; simp) (by kernel_rfl)) rfl rfl
      refine wpOpIn_val ho (wanted_un hg) hnod (ex_move hop e66) ⟨by rw [hd]; exact hI.put hsl rfl rfl, ?_⟩
      exact hw
    | 10, _ =>
      obtain ⟨o, ho, hd, hg, hop, hnod⟩ := r13e_o10
      obtain ⟨cT, cB0, cB3, cB4, y1, y2⟩ := hcells w1 hw
      have e67 : a1.eval (.tmp 67) = .bool true := hI.ev (i := 9) (hdep o ho ⟨9, .guard⟩ (by obtain ⟨o2, ho2, hof⟩ := r13e_e10; rw [ho] at ho2; cases ho2; rw [hof]; simp) (by kernel_rfl)) rfl rfl
      refine wpOpIn_val ho (by obtain ⟨oj, hoj, hdj, -⟩ := r13e_o9; rw [wanted_if hg hoj hdj e67 (by rw [hI.tsz, hsz]; decide)]; rfl) hnod (ex_load_ints hop e3 cT) ⟨by rw [hd]; exact hI.put hsl rfl rfl, ?_⟩
      exact hw
    | 11, _ =>
      obtain ⟨o, ho, hd, hg, hop, hnod⟩ := r13e_o11
      obtain ⟨cT, cB0, cB3, cB4, y1, y2⟩ := hcells w1 hw
      have e67 : a1.eval (.tmp 67) = .bool true := hI.ev (i := 9) (hdep o ho ⟨9, .guard⟩ (by obtain ⟨o2, ho2, hof⟩ := r13e_e11; rw [ho] at ho2; cases ho2; rw [hof]; simp) (by kernel_rfl)) rfl rfl
      refine wpOpIn_val ho (by obtain ⟨oj, hoj, hdj, -⟩ := r13e_o9; rw [wanted_if hg hoj hdj e67 (by rw [hI.tsz, hsz]; decide)]; rfl) hnod (ex_move hop e4) ⟨by rw [hd]; exact hI.put hsl rfl rfl, ?_⟩
      exact hw
    | 12, _ =>
      obtain ⟨o, ho, hd, hg, hop, hnod⟩ := r13e_o12
      obtain ⟨cT, cB0, cB3, cB4, y1, y2⟩ := hcells w1 hw
      have e67 : a1.eval (.tmp 67) = .bool true := hI.ev (i := 9) (hdep o ho ⟨9, .guard⟩ (by obtain ⟨o2, ho2, hof⟩ := r13e_e12; rw [ho] at ho2; cases ho2; rw [hof]; simp) (by kernel_rfl)) rfl rfl
      have e69 : a1.eval (.tmp 69) = .int .i64 (xi : Int) := hI.ev (i := 11) (hdep o ho ⟨11, .data⟩ (by obtain ⟨o2, ho2, hof⟩ := r13e_e12; rw [ho] at ho2; cases ho2; rw [hof]; simp) (by kernel_rfl)) rfl rfl
      refine wpOpIn_val ho (by obtain ⟨oj, hoj, hdj, -⟩ := r13e_o9; rw [wanted_if hg hoj hdj e67 (by rw [hI.tsz, hsz]; decide)]; rfl) hnod (ex_add1 hop e69 (by omega) (by omega) rfl) ⟨by rw [hd]; exact hI.put hsl rfl rfl, ?_⟩
      exact hw
    | 13, _ =>
      obtain ⟨o, ho, hd, hg, hop, hnod⟩ := r13e_o13
      obtain ⟨cT, cB0, cB3, cB4, y1, y2⟩ := hcells w1 hw
      have e67 : a1.eval (.tmp 67) = .bool true := hI.ev (i := 9) (hdep o ho ⟨9, .guard⟩ (by obtain ⟨o2, ho2, hof⟩ := r13e_e13; rw [ho] at ho2; cases ho2; rw [hof]; simp) (by kernel_rfl)) rfl rfl
      have e68 : a1.eval (.tmp 68) = .slice (some ⟨gT, 0, none⟩) nn nn := hI.ev (i := 10) (hdep o ho ⟨10, .data⟩ (by obtain ⟨o2, ho2, hof⟩ := r13e_e13; rw [ho] at ho2; cases ho2; rw [hof]; simp) (by kernel_rfl)) rfl rfl
      have e70 : a1.eval (.tmp 70) = .int .i64 ((xi : Int) + 1) := hI.ev (i := 12) (hdep o ho ⟨12, .data⟩ (by obtain ⟨o2, ho2, hof⟩ := r13e_e13; rw [ho] at ho2; cases ho2; rw [hof]; simp) (by kernel_rfl)) rfl rfl
      refine wpOpIn_val ho (by obtain ⟨oj, hoj, hdj, -⟩ := r13e_o9; rw [wanted_if hg hoj hdj e67 (by rw [hI.tsz, hsz]; decide)]; rfl) hnod (ex_index (j := xi + 1) hop e68 e70 (by omega)) ⟨by rw [hd]; exact hI.put hsl rfl rfl, ?_⟩
      exact hw
    | 14, _ =>
      obtain ⟨o, ho, hd, hg, hop, hnod⟩ := r13e_o14
      obtain ⟨cT, cB0, cB3, cB4, y1, y2⟩ := hcells w1 hw
      have e67 : a1.eval (.tmp 67) = .bool true := hI.ev (i := 9) (hdep o ho ⟨9, .guard⟩ (by obtain ⟨o2, ho2, hof⟩ := r13e_e14; rw [ho] at ho2; cases ho2; rw [hof]; simp) (by kernel_rfl)) rfl rfl
      have e71 : a1.eval (.tmp 71) = .pointer (some ⟨gT, xi + 1, none⟩) := hI.ev (i := 13) (hdep o ho ⟨13, .data⟩ (by obtain ⟨o2, ho2, hof⟩ := r13e_e14; rw [ho] at ho2; cases ho2; rw [hof]; simp) (by kernel_rfl)) rfl rfl
      refine wpOpIn_val ho (by obtain ⟨oj, hoj, hdj, -⟩ := r13e_o9; rw [wanted_if hg hoj hdj e67 (by rw [hI.tsz, hsz]; decide)]; rfl) hnod (ex_load_int hop e71 y1) ⟨by rw [hd]; exact hI.put hsl rfl rfl, ?_⟩
      exact hw
    | 15, _ =>
      obtain ⟨o, ho, hd, hg, hop, hnod⟩ := r13e_o15
      obtain ⟨cT, cB0, cB3, cB4, y1, y2⟩ := hcells w1 hw
      have e67 : a1.eval (.tmp 67) = .bool true := hI.ev (i := 9) (hdep o ho ⟨9, .guard⟩ (by obtain ⟨o2, ho2, hof⟩ := r13e_e15; rw [ho] at ho2; cases ho2; rw [hof]; simp) (by kernel_rfl)) rfl rfl
      refine wpOpIn_val ho (by obtain ⟨oj, hoj, hdj, -⟩ := r13e_o9; rw [wanted_if hg hoj hdj e67 (by rw [hI.tsz, hsz]; decide)]; rfl) hnod (ex_load_ints hop e3 cT) ⟨by rw [hd]; exact hI.put hsl rfl rfl, ?_⟩
      exact hw
    | 16, _ =>
      obtain ⟨o, ho, hd, hg, hop, hnod⟩ := r13e_o16
      obtain ⟨cT, cB0, cB3, cB4, y1, y2⟩ := hcells w1 hw
      have e67 : a1.eval (.tmp 67) = .bool true := hI.ev (i := 9) (hdep o ho ⟨9, .guard⟩ (by obtain ⟨o2, ho2, hof⟩ := r13e_e16; rw [ho] at ho2; cases ho2; rw [hof]; simp) (by kernel_rfl)) rfl rfl
      refine wpOpIn_val ho (by obtain ⟨oj, hoj, hdj, -⟩ := r13e_o9; rw [wanted_if hg hoj hdj e67 (by rw [hI.tsz, hsz]; decide)]; rfl) hnod (ex_field (by decide) hop e5) ⟨by rw [hd]; exact hI.put hsl rfl rfl, ?_⟩
      exact hw
    | 17, _ =>
      obtain ⟨o, ho, hd, hg, hop, hnod⟩ := r13e_o17
      obtain ⟨cT, cB0, cB3, cB4, y1, y2⟩ := hcells w1 hw
      have e67 : a1.eval (.tmp 67) = .bool true := hI.ev (i := 9) (hdep o ho ⟨9, .guard⟩ (by obtain ⟨o2, ho2, hof⟩ := r13e_e17; rw [ho] at ho2; cases ho2; rw [hof]; simp) (by kernel_rfl)) rfl rfl
      have e74 : a1.eval (.tmp 74) = .pointer (some ⟨Bx, 4, none⟩) := hI.ev (i := 16) (hdep o ho ⟨16, .data⟩ (by obtain ⟨o2, ho2, hof⟩ := r13e_e17; rw [ho] at ho2; cases ho2; rw [hof]; simp) (by kernel_rfl)) rfl rfl
      refine wpOpIn_val ho (by obtain ⟨oj, hoj, hdj, -⟩ := r13e_o9; rw [wanted_if hg hoj hdj e67 (by rw [hI.tsz, hsz]; decide)]; rfl) hnod (ex_load_int hop e74 cB4) ⟨by rw [hd]; exact hI.put hsl rfl rfl, ?_⟩
      exact hw
    | 18, _ =>
      obtain ⟨o, ho, hd, hg, hop, hnod⟩ := r13e_o18
      obtain ⟨cT, cB0, cB3, cB4, y1, y2⟩ := hcells w1 hw
      have e67 : a1.eval (.tmp 67) = .bool true := hI.ev (i := 9) (hdep o ho ⟨9, .guard⟩ (by obtain ⟨o2, ho2, hof⟩ := r13e_e18; rw [ho] at ho2; cases ho2; rw [hof]; simp) (by kernel_rfl)) rfl rfl
      have e73 : a1.eval (.tmp 73) = .slice (some ⟨gT, 0, none⟩) nn nn := hI.ev (i := 15) (hdep o ho ⟨15, .data⟩ (by obtain ⟨o2, ho2, hof⟩ := r13e_e18; rw [ho] at ho2; cases ho2; rw [hof]; simp) (by kernel_rfl)) rfl rfl
      have e75 : a1.eval (.tmp 75) = .int .i64 (tj : Int) := hI.ev (i := 17) (hdep o ho ⟨17, .data⟩ (by obtain ⟨o2, ho2, hof⟩ := r13e_e18; rw [ho] at ho2; cases ho2; rw [hof]; simp) (by kernel_rfl)) rfl rfl
      refine wpOpIn_val ho (by obtain ⟨oj, hoj, hdj, -⟩ := r13e_o9; rw [wanted_if hg hoj hdj e67 (by rw [hI.tsz, hsz]; decide)]; rfl) hnod (ex_index hop e73 e75 (by omega)) ⟨by rw [hd]; exact hI.put hsl rfl rfl, ?_⟩
      exact hw
    | 19, _ =>
      obtain ⟨o, ho, hd, hg, hop, hnod⟩ := r13e_o19
      obtain ⟨cT, cB0, cB3, cB4, y1, y2⟩ := hcells w1 hw
      have e67 : a1.eval (.tmp 67) = .bool true := hI.ev (i := 9) (hdep o ho ⟨9, .guard⟩ (by obtain ⟨o2, ho2, hof⟩ := r13e_e19; rw [ho] at ho2; cases ho2; rw [hof]; simp) (by kernel_rfl)) rfl rfl
      have e76 : a1.eval (.tmp 76) = .pointer (some ⟨gT, tj, none⟩) := hI.ev (i := 18) (hdep o ho ⟨18, .data⟩ (by obtain ⟨o2, ho2, hof⟩ := r13e_e19; rw [ho] at ho2; cases ho2; rw [hof]; simp) (by kernel_rfl)) rfl rfl
      refine wpOpIn_val ho (by obtain ⟨oj, hoj, hdj, -⟩ := r13e_o9; rw [wanted_if hg hoj hdj e67 (by rw [hI.tsz, hsz]; decide)]; rfl) hnod (ex_load_int hop e76 y2) ⟨by rw [hd]; exact hI.put hsl rfl rfl, ?_⟩
      exact hw
    | 20, _ =>
      obtain ⟨o, ho, hd, hg, hop, hnod⟩ := r13e_o20
      obtain ⟨cT, cB0, cB3, cB4, y1, y2⟩ := hcells w1 hw
      have e67 : a1.eval (.tmp 67) = .bool true := hI.ev (i := 9) (hdep o ho ⟨9, .guard⟩ (by obtain ⟨o2, ho2, hof⟩ := r13e_e20; rw [ho] at ho2; cases ho2; rw [hof]; simp) (by kernel_rfl)) rfl rfl
      have e72 : a1.eval (.tmp 72) = .int .i64 (r1 : Int) := hI.ev (i := 14) (hdep o ho ⟨14, .data⟩ (by obtain ⟨o2, ho2, hof⟩ := r13e_e20; rw [ho] at ho2; cases ho2; rw [hof]; simp) (by kernel_rfl)) rfl rfl
      have e77 : a1.eval (.tmp 77) = .int .i64 (r2 : Int) := hI.ev (i := 19) (hdep o ho ⟨19, .data⟩ (by obtain ⟨o2, ho2, hof⟩ := r13e_e20; rw [ho] at ho2; cases ho2; rw [hof]; simp) (by kernel_rfl)) rfl rfl
      refine wpOpIn_val ho (by obtain ⟨oj, hoj, hdj, -⟩ := r13e_o9; rw [wanted_if hg hoj hdj e67 (by rw [hI.tsz, hsz]; decide)]; rfl) hnod (ex_eqI hop e72 e77) ⟨by rw [hd]; exact hI.put hsl rfl rfl, ?_⟩
      exact hw
    | 21, _ =>
      obtain ⟨o, ho, hd, hg, hop, hnod⟩ := r13e_o21
      obtain ⟨cT, cB0, cB3, cB4, y1, y2⟩ := hcells w1 hw
      have e67 : a1.eval (.tmp 67) = .bool true := hI.ev (i := 9) (hdep o ho ⟨9, .data⟩ (by obtain ⟨o2, ho2, hof⟩ := r13e_e21; rw [ho] at ho2; cases ho2; rw [hof]; simp) (by kernel_rfl)) rfl rfl
      have e78 : a1.eval (.tmp 78) = .bool ((r1 : Int) == (r2 : Int)) := hI.ev (i := 20) (hdep o ho ⟨20, .data⟩ (by obtain ⟨o2, ho2, hof⟩ := r13e_e21; rw [ho] at ho2; cases ho2; rw [hof]; simp) (by kernel_rfl)) rfl rfl
      refine wpOpIn_val ho (wanted_un hg) hnod (ex_pick hop e67 ((if_pos rfl).trans e78)) ⟨by rw [hd]; exact hI.put hsl rfl rfl, ?_⟩
      exact hw
    | 22, _ =>
      obtain ⟨o, ho, hd, hg, hop, hnod⟩ := r13e_o22
      obtain ⟨cT, cB0, cB3, cB4, y1, y2⟩ := hcells w1 hw
      have e79 : a1.eval (.tmp 79) = .bool ((r1 : Int) == (r2 : Int)) := hI.ev (i := 21) (hdep o ho ⟨21, .data⟩ (by obtain ⟨o2, ho2, hof⟩ := r13e_e22; rw [ho] at ho2; cases ho2; rw [hof]; simp) (by kernel_rfl)) rfl rfl
      refine wpOpIn_val ho (wanted_un hg) hnod (ex_assign hop e79) ⟨by rw [hd]; exact hI.put hsl rfl rfl, ?_⟩
      exact hw
    | i + 23, hi => exact absurd hi (by show ¬ (i + 23 < 23); omega)
  · intro i o ho e he
    have h : ((List.range 23).all fun i => (r13eO.1[i]?.map fun o => o.after.all fun e => decide (e.on < i)).getD false) = true := by kernel_rfl
    have hi : i < 23 := by
      by_cases q : i < 23
      · exact q
      · rw [Array.getElem?_eq_none (by show 23 ≤ i; omega)] at ho; cases ho
    have h2 := List.all_eq_true.1 h i (List.mem_range.2 hi)
    rw [ho] at h2
    simp only [Option.map_some, Option.getD_some, Array.all_eq_true'] at h2
    simpa using h2 e he
  · rintro L a1 w1 hall ⟨hI, hw⟩
    have hsl : Slots a.tmps.size r13eD := by rw [hsz]; exact r13e_slots
    refine hexit a1 w1 ⟨by rw [hI.tsz, hsz], (hI.old 3 (r13e_old 3 (by decide))).trans k3, (hI.old 4 (r13e_old 4 (by decide))).trans k4, (hI.old 5 (r13e_old 5 (by decide))).trans k5, ?_, hw⟩
    exact hI.new 22 57 _ (hall 22 (by show 22 < 23; decide)) rfl rfl

end Go.Proofs.Ytfhleldmkhllaaa
