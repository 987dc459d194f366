/-
  The region of num.Parse in which a digit is added.
-/
import Derived.Test.YtfalhemeiengcaaDoorBox
import Derived.Test.YtfalhemeiengcaaDoorTimes
import Derived.Test.YtfalhemeiengcaaDoorFind
namespace Go.Proofs.YtfalhemeiengcaaDoor
open Go.RowKit Go.Maps

section
variable {P : Program} {o : Oper} {w : World} {ev : Operand → Value}
theorem slot_ne {ds : List (Option Nat)} {i : Nat} (h : ds[i]? = some none) : ∀ s, slotOf ds s ≠ some i := fun s e => by
  rw [slotOf_spec e] at h; cases h
theorem ex_assign {x : Operand} {v : Value} (h : o.op = .assign x) (hv : ev x = v) : (execOp ev o).run P w = .ok (.value v) w := by
  unfold execOp; rw [h, ← hv]; rfl
theorem ex_load_n {x : Operand} {g : Nat} {a b : Int} (h : o.op = .load 24 x) (hx : ev x = .pointer (some ⟨g, 0, none⟩)) (h0 : w.cell? ⟨g, 0, none⟩ = some (.int .u64 a)) (h1 : w.cell? ⟨g, 1, none⟩ = some (.int .u64 b)) :
    (execOp ev o).run Tryd.prog w = .ok (.value (.agg #[.int .u64 a, .int .u64 b])) w := by
  unfold execOp; rw [h]; dsimp only; rw [hx]; go_simp
theorem ex_extract {x : Operand} {k : Nat} {vs : Array Value} {v : Value} (h : o.op = .extract x k) (hx : ev x = .tuple vs) (hv : vs[k]? = some v) : (execOp ev o).run Tryd.prog w = .ok (.value v) w := by
  unfold execOp; rw [h]; dsimp only; rw [hx]; simp [go_sem, Instr.extract, hv]
theorem ex_conv {x : Operand} {d : Nat} (h : o.op = .convert 3 22 x) (hd : d < 100) (hx : ev x = .int .i64 (d : Int)) : (execOp ev o).run Tryd.prog w = .ok (.value (.int .u64 (d : Int))) w := by
  have hw : IntKind.u64.wrap (d : Int) = (d : Int) := by
    show (d : Int) % 18446744073709551616 = _
    omega
  unfold execOp; rw [h]; dsimp only; rw [hx]; go_simp
theorem ex_alloc_num (h : o.op = .alloc 24) : (execOp ev o).run Tryd.prog w = .ok (.value (.pointer (some ⟨w.heap.size, 0, none⟩))) (w.alloc (.cells #[.int .u64 0, .int .u64 0] 24)) := by
  unfold execOp; rw [h]; dsimp only; go_simp
theorem ex_store_num {x y : Operand} {g a b : Nat} {z u : Value} (h : o.op = .store 24 x y) (hx : ev x = .pointer (some ⟨g, 0, none⟩)) (hy : ev y = .agg #[.int .u64 (a : Int), .int .u64 (b : Int)]) (h3 : w.heap[g]? = some (.cells #[z, u] 24 (0, 0))) :
    ∃ w', (execOp ev o).run Tryd.prog w = .ok .skip w' ∧ (∀ k, k ≠ g → w'.heap[k]? = w.heap[k]?) ∧ w'.heap[g]? = some (.cells #[.int .u64 (a : Int), .int .u64 (b : Int)] 24 (0, 0)) ∧ Below g w w' := by
  have c0 : w.cell? ⟨g, 0, none⟩ = some z := by simp [World.cell?, h3]
  have c1 : w.cell? ⟨g, 1, none⟩ = some u := by simp [World.cell?, h3]
  have f0 : ∀ j, w.frozen? ⟨g, j, none⟩ = false := fun j => by simp [World.frozen?, h3]
  refine ⟨(w.setCell ⟨g, 0, none⟩ (.int .u64 (a : Int))).setCell ⟨g, 1, none⟩ (.int .u64 (b : Int)), ?_, fun k hk => ?_, ?_, ?_⟩
  · unfold execOp; rw [h]; dsimp only; rw [hx, hy]; go_simp
  · rw [setCell_heap hk, setCell_heap hk]
  · rw [heap_setCell_same _ _ _ _ _ _ (heap_setCell_same _ _ _ _ _ _ h3)]; simp
  · exact ((Below.refl _ _).setCell (by show g ≤ g; omega) _).setCell (by show g ≤ g; omega) _
end

abbrev parseBD : List (Option Nat) := [some 37, some 38, some 39, some 40, some 41, some 42, some 43, some 36, some 44, some 45, some 12, none, some 13]
noncomputable def parseBO : { c : Array Oper // (Tryd.f7.body.bind (findRegion 12)) = some (.region 12 c true) } := ⟨_, rfl⟩
theorem parseBO_size : parseBO.1.size = 13 := rfl
theorem parseBO0 : ∃ o, parseBO.1[0]? = some o ∧ o.dst = some 37 ∧ o.guard = none ∧ o.op = Go.Op.load 24 (Go.Operand.tmp 8) := ⟨_, rfl, rfl, rfl, rfl⟩
theorem parseBO1 : ∃ o, parseBO.1[1]? = some o ∧ o.dst = some 38 ∧ o.guard = none ∧ o.op = Go.Op.move (Go.Operand.tmp 5) := ⟨_, rfl, rfl, rfl, rfl⟩
theorem parseBO2 : ∃ o, parseBO.1[2]? = some o ∧ o.dst = some 39 ∧ o.guard = none ∧ o.op = Go.Op.move (Go.Operand.tmp 4) := ⟨_, rfl, rfl, rfl, rfl⟩
theorem parseBO3 : ∃ o, parseBO.1[3]? = some o ∧ o.dst = some 40 ∧ o.guard = none ∧ o.op = Go.Op.move (Go.Operand.tmp 11) := ⟨_, rfl, rfl, rfl, rfl⟩
theorem parseBO4 : ∃ o, parseBO.1[4]? = some o ∧ o.dst = some 41 ∧ o.guard = none ∧ o.op = Go.Op.call { callee := Go.Callee.value (Go.Operand.func 47), args := #[Go.Operand.tmp 39, Go.Operand.tmp 40], argTypes := #[9, 21] } := ⟨_, rfl, rfl, rfl, rfl⟩
theorem parseBO5 : ∃ o, parseBO.1[5]? = some o ∧ o.dst = some 42 ∧ o.guard = none ∧ o.op = Go.Op.convert 3 22 (Go.Operand.tmp 41) := ⟨_, rfl, rfl, rfl, rfl⟩
theorem parseBO6 : ∃ o, parseBO.1[6]? = some o ∧ o.dst = some 43 ∧ o.guard = none ∧ o.op = Go.Op.call { callee := Go.Callee.value (Go.Operand.func 46), args := #[Go.Operand.tmp 37, Go.Operand.tmp 38, Go.Operand.tmp 42], argTypes := #[24, 22, 22] } := ⟨_, rfl, rfl, rfl, rfl⟩
theorem parseBO7 : ∃ o, parseBO.1[7]? = some o ∧ o.dst = some 36 ∧ o.guard = none ∧ o.op = Go.Op.move (Go.Operand.tmp 43) := ⟨_, rfl, rfl, rfl, rfl⟩
theorem parseBO8 : ∃ o, parseBO.1[8]? = some o ∧ o.dst = some 44 ∧ o.guard = none ∧ o.op = Go.Op.extract (Go.Operand.tmp 36) 0 := ⟨_, rfl, rfl, rfl, rfl⟩
theorem parseBO9 : ∃ o, parseBO.1[9]? = some o ∧ o.dst = some 45 ∧ o.guard = none ∧ o.op = Go.Op.extract (Go.Operand.tmp 36) 1 := ⟨_, rfl, rfl, rfl, rfl⟩
theorem parseBO10 : ∃ o, parseBO.1[10]? = some o ∧ o.dst = some 12 ∧ o.guard = none ∧ o.op = Go.Op.alloc 24 := ⟨_, rfl, rfl, rfl, rfl⟩
theorem parseBO11 : ∃ o, parseBO.1[11]? = some o ∧ o.dst = none ∧ o.guard = none ∧ o.op = Go.Op.store 24 (Go.Operand.tmp 12) (Go.Operand.tmp 44) := ⟨_, rfl, rfl, rfl, rfl⟩
theorem parseBO12 : ∃ o, parseBO.1[12]? = some o ∧ o.dst = some 13 ∧ o.guard = none ∧ o.op = Go.Op.assign (Go.Operand.tmp 45) := ⟨_, rfl, rfl, rfl, rfl⟩
theorem parseBO_back : ∀ (i : Nat) (o : Oper), parseBO.1[i]? = some o → ∀ e ∈ o.after, Region.binds .any e = true → e.on < i := by
  have h : ((List.range 13).all fun i => (parseBO.1[i]?.map fun o => o.after.all fun e => !Region.binds .any e || decide (e.on < i)).getD false) = true := by kernel_rfl
  intro i o ho e he hb
  have hi : i < 13 := by
    by_cases q : i < 13
    · exact q
    · rw [Array.getElem?_eq_none (by rw [parseBO_size]; omega)] at ho; cases ho
  have h2 := List.all_eq_true.1 h i (List.mem_range.2 hi)
  rw [ho] at h2
  simp only [Option.map_some, Option.getD_some, Array.all_eq_true'] at h2
  have h3 := h2 e he
  rw [hb] at h3
  simpa using h3
def parseBK (gn a b y d a2 b2 : Nat) (D : ByteArray) (r : Int) (ok : Bool) : List (List Nat × Tw) := [isJ [] (.agg #[.int .u64 (a : Int), .int .u64 (b : Int)]), isJ [] (.int .u64 (y : Int)), isJ [] (.string D), isJ [] (.int .i32 r), isJ [] (.int .i64 (d : Int)), isJ [] (.int .u64 (d : Int)), isJ [] (.tuple #[.agg #[.int .u64 (a2 : Int), .int .u64 (b2 : Int)], .bool ok]), isJ [] (.tuple #[.agg #[.int .u64 (a2 : Int), .int .u64 (b2 : Int)], .bool ok]), isJ [] (.agg #[.int .u64 (a2 : Int), .int .u64 (b2 : Int)]), isJ [] (.bool ok), anyJ [], anyJ [], isJ [] (.bool ok)]
theorem parseBK_free {gn a b y d a2 b2 : Nat} {D : ByteArray} {r : Int} {ok : Bool} : KdFree (parseBK gn a b y d a2 b2 D r ok) := fun i js P hk B w w' ls v hp => by
  match i, hk with
  | 0, hk => cases hk; exact hp
  | 1, hk => cases hk; exact hp
  | 2, hk => cases hk; exact hp
  | 3, hk => cases hk; exact hp
  | 4, hk => cases hk; exact hp
  | 5, hk => cases hk; exact hp
  | 6, hk => cases hk; exact hp
  | 7, hk => cases hk; exact hp
  | 8, hk => cases hk; exact hp
  | 9, hk => cases hk; exact hp
  | 10, hk => cases hk; exact hp
  | 11, hk => cases hk; exact hp
  | 12, hk => cases hk; exact hp
  | i + 13, hk => simp [parseBK] at hk
structure parseBC (gn a b y d a2 b2 : Nat) (D : ByteArray) (r : Int) (ok : Bool) (WB : World) (T : List Value) : Prop where
  tl : T.length = 55
  t4 : nth T 4 = .string D
  t5 : nth T 5 = .int .u64 (y : Int)
  t8 : nth T 8 = .pointer (some ⟨gn, 0, none⟩)
  t11 : nth T 11 = .int .i32 r
  c0 : WB.cell? ⟨gn, 0, none⟩ = some (.int .u64 (a : Int))
  c1 : WB.cell? ⟨gn, 1, none⟩ = some (.int .u64 (b : Int))
  dlt : d < 100
  hix : ∀ W, Calls Tryd.prog 47 #[.string D, .int .i32 r] W fun e w' => e = .returned (.int .i64 (d : Int)) ∧ Below W.heap.size W w'
  htm : ∀ W, Calls Tryd.prog 46 #[.agg #[.int .u64 (a : Int), .int .u64 (b : Int)], .int .u64 (y : Int), .int .u64 (d : Int)] W fun e w' => e = .returned (.tuple #[.agg #[.int .u64 (a2 : Int), .int .u64 (b2 : Int)], .bool ok]) ∧ Below W.heap.size W w'
set_option maxRecDepth 100000 in
set_option maxHeartbeats 1000000 in
theorem parseB_s0 {gn a b y d a2 b2 : Nat} {D : ByteArray} {r : Int} {ok : Bool} {WB w : World} {T l : List Value} {L : Array Bool} (Q : Exit → Act → World → Prop) (c : parseBC gn a b y d a2 b2 D r ok WB T) (h : BT Tryd.prog parseBO.1 13 55 parseBD WB (parseBK gn a b y d a2 b2 D r ok) 10 11 (#[.int .u64 0, .int .u64 0]) (#[.int .u64 (a2 : Int), .int .u64 (b2 : Int)]) 24 T L l w 0) : wpOp Tryd.prog parseBO.1 Q 0 (SJ (bxR WB (parseBK gn a b y d a2 b2 D r ok) 10 11 (#[.int .u64 0, .int .u64 0]) (#[.int .u64 (a2 : Int), .int .u64 (b2 : Int)]) 24) 13 parseBD T (L.setIfInBounds 0 true)) (frm2 parseBD T l) w := by
  obtain ⟨o, ho, hd, hg, hop⟩ := parseBO0
  have hw := wanted_un (ops := parseBO.1) (t := (frm2 parseBD T l).tmps) hg
  exact h.same (v := .agg #[.int .u64 (a : Int), .int .u64 (b : Int)]) ho hd rfl hw rfl (by decide) (by decide) (ex_load_n hop ((h.old (s := 8) rfl (by decide)).trans c.t8) (h.cell c.c0) (h.cell c.c1))

set_option maxRecDepth 100000 in
set_option maxHeartbeats 1000000 in
theorem parseB_s1 {gn a b y d a2 b2 : Nat} {D : ByteArray} {r : Int} {ok : Bool} {WB w : World} {T l : List Value} {L : Array Bool} (Q : Exit → Act → World → Prop) (c : parseBC gn a b y d a2 b2 D r ok WB T) (h : BT Tryd.prog parseBO.1 13 55 parseBD WB (parseBK gn a b y d a2 b2 D r ok) 10 11 (#[.int .u64 0, .int .u64 0]) (#[.int .u64 (a2 : Int), .int .u64 (b2 : Int)]) 24 T L l w 1) : wpOp Tryd.prog parseBO.1 Q 1 (SJ (bxR WB (parseBK gn a b y d a2 b2 D r ok) 10 11 (#[.int .u64 0, .int .u64 0]) (#[.int .u64 (a2 : Int), .int .u64 (b2 : Int)]) 24) 13 parseBD T (L.setIfInBounds 1 true)) (frm2 parseBD T l) w := by
  obtain ⟨o, ho, hd, hg, hop⟩ := parseBO1
  have hw := wanted_un (ops := parseBO.1) (t := (frm2 parseBD T l).tmps) hg
  exact h.same (v := .int .u64 (y : Int)) ho hd rfl hw rfl (by decide) (by decide) (ex_move hop ((h.old (s := 5) rfl (by decide)).trans c.t5))

set_option maxRecDepth 100000 in
set_option maxHeartbeats 1000000 in
theorem parseB_s2 {gn a b y d a2 b2 : Nat} {D : ByteArray} {r : Int} {ok : Bool} {WB w : World} {T l : List Value} {L : Array Bool} (Q : Exit → Act → World → Prop) (c : parseBC gn a b y d a2 b2 D r ok WB T) (h : BT Tryd.prog parseBO.1 13 55 parseBD WB (parseBK gn a b y d a2 b2 D r ok) 10 11 (#[.int .u64 0, .int .u64 0]) (#[.int .u64 (a2 : Int), .int .u64 (b2 : Int)]) 24 T L l w 2) : wpOp Tryd.prog parseBO.1 Q 2 (SJ (bxR WB (parseBK gn a b y d a2 b2 D r ok) 10 11 (#[.int .u64 0, .int .u64 0]) (#[.int .u64 (a2 : Int), .int .u64 (b2 : Int)]) 24) 13 parseBD T (L.setIfInBounds 2 true)) (frm2 parseBD T l) w := by
  obtain ⟨o, ho, hd, hg, hop⟩ := parseBO2
  have hw := wanted_un (ops := parseBO.1) (t := (frm2 parseBD T l).tmps) hg
  exact h.same (v := .string D) ho hd rfl hw rfl (by decide) (by decide) (ex_move hop ((h.old (s := 4) rfl (by decide)).trans c.t4))

set_option maxRecDepth 100000 in
set_option maxHeartbeats 1000000 in
theorem parseB_s3 {gn a b y d a2 b2 : Nat} {D : ByteArray} {r : Int} {ok : Bool} {WB w : World} {T l : List Value} {L : Array Bool} (Q : Exit → Act → World → Prop) (c : parseBC gn a b y d a2 b2 D r ok WB T) (h : BT Tryd.prog parseBO.1 13 55 parseBD WB (parseBK gn a b y d a2 b2 D r ok) 10 11 (#[.int .u64 0, .int .u64 0]) (#[.int .u64 (a2 : Int), .int .u64 (b2 : Int)]) 24 T L l w 3) : wpOp Tryd.prog parseBO.1 Q 3 (SJ (bxR WB (parseBK gn a b y d a2 b2 D r ok) 10 11 (#[.int .u64 0, .int .u64 0]) (#[.int .u64 (a2 : Int), .int .u64 (b2 : Int)]) 24) 13 parseBD T (L.setIfInBounds 3 true)) (frm2 parseBD T l) w := by
  obtain ⟨o, ho, hd, hg, hop⟩ := parseBO3
  have hw := wanted_un (ops := parseBO.1) (t := (frm2 parseBD T l).tmps) hg
  exact h.same (v := .int .i32 r) ho hd rfl hw rfl (by decide) (by decide) (ex_move hop ((h.old (s := 11) rfl (by decide)).trans c.t11))

set_option maxRecDepth 100000 in
set_option maxHeartbeats 1000000 in
theorem parseB_s4 {gn a b y d a2 b2 : Nat} {D : ByteArray} {r : Int} {ok : Bool} {WB w : World} {T l : List Value} {L : Array Bool} (Q : Exit → Act → World → Prop) (c : parseBC gn a b y d a2 b2 D r ok WB T) (h : BT Tryd.prog parseBO.1 13 55 parseBD WB (parseBK gn a b y d a2 b2 D r ok) 10 11 (#[.int .u64 0, .int .u64 0]) (#[.int .u64 (a2 : Int), .int .u64 (b2 : Int)]) 24 T L l w 4) : wpOp Tryd.prog parseBO.1 Q 4 (SJ (bxR WB (parseBK gn a b y d a2 b2 D r ok) 10 11 (#[.int .u64 0, .int .u64 0]) (#[.int .u64 (a2 : Int), .int .u64 (b2 : Int)]) 24) 13 parseBD T (L.setIfInBounds 4 true)) (frm2 parseBD T l) w := by
  obtain ⟨o, ho, hd, hg, hop⟩ := parseBO4
  have hw := wanted_un (ops := parseBO.1) (t := (frm2 parseBD T l).tmps) hg
  have x39 := ((h.new (s := 39) (j := 2) rfl (by decide)).trans (h.rw.gotK 2 (dep_of (a := 2) (by kernel_rfl) h.dep) rfl))
  have x40 := ((h.new (s := 40) (j := 3) rfl (by decide)).trans (h.rw.gotK 3 (dep_of (a := 3) (by kernel_rfl) h.dep) rfl))
  exact h.call (v := .int .i64 (d : Int)) ho hd rfl hw rfl (by decide) (by decide) (ex_call hop rfl rfl (args := #[.string D, .int .i32 r]) (all := #[.string D, .int .i32 r]) (by simp only [List.map_toArray, List.map_cons, List.map_nil]; rw [x39, x40]) (by simp) (fun av W => by kernel_rfl)) (c.hix w)

set_option maxRecDepth 100000 in
set_option maxHeartbeats 1000000 in
theorem parseB_s5 {gn a b y d a2 b2 : Nat} {D : ByteArray} {r : Int} {ok : Bool} {WB w : World} {T l : List Value} {L : Array Bool} (Q : Exit → Act → World → Prop) (c : parseBC gn a b y d a2 b2 D r ok WB T) (h : BT Tryd.prog parseBO.1 13 55 parseBD WB (parseBK gn a b y d a2 b2 D r ok) 10 11 (#[.int .u64 0, .int .u64 0]) (#[.int .u64 (a2 : Int), .int .u64 (b2 : Int)]) 24 T L l w 5) : wpOp Tryd.prog parseBO.1 Q 5 (SJ (bxR WB (parseBK gn a b y d a2 b2 D r ok) 10 11 (#[.int .u64 0, .int .u64 0]) (#[.int .u64 (a2 : Int), .int .u64 (b2 : Int)]) 24) 13 parseBD T (L.setIfInBounds 5 true)) (frm2 parseBD T l) w := by
  obtain ⟨o, ho, hd, hg, hop⟩ := parseBO5
  have hw := wanted_un (ops := parseBO.1) (t := (frm2 parseBD T l).tmps) hg
  exact h.same (v := .int .u64 (d : Int)) ho hd rfl hw rfl (by decide) (by decide) (ex_conv hop c.dlt ((h.new (s := 41) (j := 4) rfl (by decide)).trans (h.rw.gotK 4 (dep_of (a := 4) (by kernel_rfl) h.dep) rfl)))

set_option maxRecDepth 100000 in
set_option maxHeartbeats 1000000 in
theorem parseB_s6 {gn a b y d a2 b2 : Nat} {D : ByteArray} {r : Int} {ok : Bool} {WB w : World} {T l : List Value} {L : Array Bool} (Q : Exit → Act → World → Prop) (c : parseBC gn a b y d a2 b2 D r ok WB T) (h : BT Tryd.prog parseBO.1 13 55 parseBD WB (parseBK gn a b y d a2 b2 D r ok) 10 11 (#[.int .u64 0, .int .u64 0]) (#[.int .u64 (a2 : Int), .int .u64 (b2 : Int)]) 24 T L l w 6) : wpOp Tryd.prog parseBO.1 Q 6 (SJ (bxR WB (parseBK gn a b y d a2 b2 D r ok) 10 11 (#[.int .u64 0, .int .u64 0]) (#[.int .u64 (a2 : Int), .int .u64 (b2 : Int)]) 24) 13 parseBD T (L.setIfInBounds 6 true)) (frm2 parseBD T l) w := by
  obtain ⟨o, ho, hd, hg, hop⟩ := parseBO6
  have hw := wanted_un (ops := parseBO.1) (t := (frm2 parseBD T l).tmps) hg
  have x37 := ((h.new (s := 37) (j := 0) rfl (by decide)).trans (h.rw.gotK 0 (dep_of (a := 0) (by kernel_rfl) h.dep) rfl))
  have x38 := ((h.new (s := 38) (j := 1) rfl (by decide)).trans (h.rw.gotK 1 (dep_of (a := 1) (by kernel_rfl) h.dep) rfl))
  have x42 := ((h.new (s := 42) (j := 5) rfl (by decide)).trans (h.rw.gotK 5 (dep_of (a := 5) (by kernel_rfl) h.dep) rfl))
  exact h.call (v := .tuple #[.agg #[.int .u64 (a2 : Int), .int .u64 (b2 : Int)], .bool ok]) ho hd rfl hw rfl (by decide) (by decide) (ex_call hop rfl rfl (args := #[.agg #[.int .u64 (a : Int), .int .u64 (b : Int)], .int .u64 (y : Int), .int .u64 (d : Int)]) (all := #[.agg #[.int .u64 (a : Int), .int .u64 (b : Int)], .int .u64 (y : Int), .int .u64 (d : Int)]) (by simp only [List.map_toArray, List.map_cons, List.map_nil]; rw [x37, x38, x42]) (by simp) (fun av W => by kernel_rfl)) (c.htm w)

set_option maxRecDepth 100000 in
set_option maxHeartbeats 1000000 in
theorem parseB_s7 {gn a b y d a2 b2 : Nat} {D : ByteArray} {r : Int} {ok : Bool} {WB w : World} {T l : List Value} {L : Array Bool} (Q : Exit → Act → World → Prop) (c : parseBC gn a b y d a2 b2 D r ok WB T) (h : BT Tryd.prog parseBO.1 13 55 parseBD WB (parseBK gn a b y d a2 b2 D r ok) 10 11 (#[.int .u64 0, .int .u64 0]) (#[.int .u64 (a2 : Int), .int .u64 (b2 : Int)]) 24 T L l w 7) : wpOp Tryd.prog parseBO.1 Q 7 (SJ (bxR WB (parseBK gn a b y d a2 b2 D r ok) 10 11 (#[.int .u64 0, .int .u64 0]) (#[.int .u64 (a2 : Int), .int .u64 (b2 : Int)]) 24) 13 parseBD T (L.setIfInBounds 7 true)) (frm2 parseBD T l) w := by
  obtain ⟨o, ho, hd, hg, hop⟩ := parseBO7
  have hw := wanted_un (ops := parseBO.1) (t := (frm2 parseBD T l).tmps) hg
  exact h.same (v := .tuple #[.agg #[.int .u64 (a2 : Int), .int .u64 (b2 : Int)], .bool ok]) ho hd rfl hw rfl (by decide) (by decide) (ex_move hop ((h.new (s := 43) (j := 6) rfl (by decide)).trans (h.rw.gotK 6 (dep_of (a := 6) (by kernel_rfl) h.dep) rfl)))

set_option maxRecDepth 100000 in
set_option maxHeartbeats 1000000 in
theorem parseB_s8 {gn a b y d a2 b2 : Nat} {D : ByteArray} {r : Int} {ok : Bool} {WB w : World} {T l : List Value} {L : Array Bool} (Q : Exit → Act → World → Prop) (c : parseBC gn a b y d a2 b2 D r ok WB T) (h : BT Tryd.prog parseBO.1 13 55 parseBD WB (parseBK gn a b y d a2 b2 D r ok) 10 11 (#[.int .u64 0, .int .u64 0]) (#[.int .u64 (a2 : Int), .int .u64 (b2 : Int)]) 24 T L l w 8) : wpOp Tryd.prog parseBO.1 Q 8 (SJ (bxR WB (parseBK gn a b y d a2 b2 D r ok) 10 11 (#[.int .u64 0, .int .u64 0]) (#[.int .u64 (a2 : Int), .int .u64 (b2 : Int)]) 24) 13 parseBD T (L.setIfInBounds 8 true)) (frm2 parseBD T l) w := by
  obtain ⟨o, ho, hd, hg, hop⟩ := parseBO8
  have hw := wanted_un (ops := parseBO.1) (t := (frm2 parseBD T l).tmps) hg
  exact h.same (v := .agg #[.int .u64 (a2 : Int), .int .u64 (b2 : Int)]) ho hd rfl hw rfl (by decide) (by decide) (ex_extract hop ((h.new (s := 36) (j := 7) rfl (by decide)).trans (h.rw.gotK 7 (dep_of (a := 7) (by kernel_rfl) h.dep) rfl)) rfl)

set_option maxRecDepth 100000 in
set_option maxHeartbeats 1000000 in
theorem parseB_s9 {gn a b y d a2 b2 : Nat} {D : ByteArray} {r : Int} {ok : Bool} {WB w : World} {T l : List Value} {L : Array Bool} (Q : Exit → Act → World → Prop) (c : parseBC gn a b y d a2 b2 D r ok WB T) (h : BT Tryd.prog parseBO.1 13 55 parseBD WB (parseBK gn a b y d a2 b2 D r ok) 10 11 (#[.int .u64 0, .int .u64 0]) (#[.int .u64 (a2 : Int), .int .u64 (b2 : Int)]) 24 T L l w 9) : wpOp Tryd.prog parseBO.1 Q 9 (SJ (bxR WB (parseBK gn a b y d a2 b2 D r ok) 10 11 (#[.int .u64 0, .int .u64 0]) (#[.int .u64 (a2 : Int), .int .u64 (b2 : Int)]) 24) 13 parseBD T (L.setIfInBounds 9 true)) (frm2 parseBD T l) w := by
  obtain ⟨o, ho, hd, hg, hop⟩ := parseBO9
  have hw := wanted_un (ops := parseBO.1) (t := (frm2 parseBD T l).tmps) hg
  exact h.same (v := .bool ok) ho hd rfl hw rfl (by decide) (by decide) (ex_extract hop ((h.new (s := 36) (j := 7) rfl (by decide)).trans (h.rw.gotK 7 (dep_of (a := 7) (by kernel_rfl) h.dep) rfl)) rfl)

set_option maxRecDepth 100000 in
set_option maxHeartbeats 1000000 in
theorem parseB_s10 {gn a b y d a2 b2 : Nat} {D : ByteArray} {r : Int} {ok : Bool} {WB w : World} {T l : List Value} {L : Array Bool} (Q : Exit → Act → World → Prop) (c : parseBC gn a b y d a2 b2 D r ok WB T) (h : BT Tryd.prog parseBO.1 13 55 parseBD WB (parseBK gn a b y d a2 b2 D r ok) 10 11 (#[.int .u64 0, .int .u64 0]) (#[.int .u64 (a2 : Int), .int .u64 (b2 : Int)]) 24 T L l w 10) : wpOp Tryd.prog parseBO.1 Q 10 (SJ (bxR WB (parseBK gn a b y d a2 b2 D r ok) 10 11 (#[.int .u64 0, .int .u64 0]) (#[.int .u64 (a2 : Int), .int .u64 (b2 : Int)]) 24) 13 parseBD T (L.setIfInBounds 10 true)) (frm2 parseBD T l) w := by
  obtain ⟨o, ho, hd, hg, hop⟩ := parseBO10
  have hw := wanted_un (ops := parseBO.1) (t := (frm2 parseBD T l).tmps) hg
  exact h.make ho hd rfl hw rfl (ex_alloc_num hop)

set_option maxRecDepth 100000 in
set_option maxHeartbeats 1000000 in
theorem parseB_s11 {gn a b y d a2 b2 : Nat} {D : ByteArray} {r : Int} {ok : Bool} {WB w : World} {T l : List Value} {L : Array Bool} (Q : Exit → Act → World → Prop) (c : parseBC gn a b y d a2 b2 D r ok WB T) (h : BT Tryd.prog parseBO.1 13 55 parseBD WB (parseBK gn a b y d a2 b2 D r ok) 10 11 (#[.int .u64 0, .int .u64 0]) (#[.int .u64 (a2 : Int), .int .u64 (b2 : Int)]) 24 T L l w 11) : wpOp Tryd.prog parseBO.1 Q 11 (SJ (bxR WB (parseBK gn a b y d a2 b2 D r ok) 10 11 (#[.int .u64 0, .int .u64 0]) (#[.int .u64 (a2 : Int), .int .u64 (b2 : Int)]) 24) 13 parseBD T (L.setIfInBounds 11 true)) (frm2 parseBD T l) w := by
  obtain ⟨o, ho, hd, hg, hop⟩ := parseBO11
  have hw := wanted_un (ops := parseBO.1) (t := (frm2 parseBD T l).tmps) hg
  have hA : did L 10 = true := (dep_of (a := 10) (by kernel_rfl) h.dep)
  have x44 := ((h.new (s := 44) (j := 8) rfl (by decide)).trans (h.rw.gotK 8 (dep_of (a := 8) (by kernel_rfl) h.dep) rfl))
  refine h.store ho hd (slot_ne rfl) hw rfl hA fun g e1 e3 => ?_
  have x12 := (h.new (s := 12) (j := 10) rfl (by decide)).trans e1
  exact ex_store_num hop x12 x44 e3

set_option maxRecDepth 100000 in
set_option maxHeartbeats 1000000 in
theorem parseB_s12 {gn a b y d a2 b2 : Nat} {D : ByteArray} {r : Int} {ok : Bool} {WB w : World} {T l : List Value} {L : Array Bool} (Q : Exit → Act → World → Prop) (c : parseBC gn a b y d a2 b2 D r ok WB T) (h : BT Tryd.prog parseBO.1 13 55 parseBD WB (parseBK gn a b y d a2 b2 D r ok) 10 11 (#[.int .u64 0, .int .u64 0]) (#[.int .u64 (a2 : Int), .int .u64 (b2 : Int)]) 24 T L l w 12) : wpOp Tryd.prog parseBO.1 Q 12 (SJ (bxR WB (parseBK gn a b y d a2 b2 D r ok) 10 11 (#[.int .u64 0, .int .u64 0]) (#[.int .u64 (a2 : Int), .int .u64 (b2 : Int)]) 24) 13 parseBD T (L.setIfInBounds 12 true)) (frm2 parseBD T l) w := by
  obtain ⟨o, ho, hd, hg, hop⟩ := parseBO12
  have hw := wanted_un (ops := parseBO.1) (t := (frm2 parseBD T l).tmps) hg
  exact h.same (v := .bool ok) ho hd rfl hw rfl (by decide) (by decide) (ex_assign hop ((h.new (s := 45) (j := 9) rfl (by decide)).trans (h.rw.gotK 9 (dep_of (a := 9) (by kernel_rfl) h.dep) rfl)))

set_option maxRecDepth 100000 in
set_option maxHeartbeats 4000000 in
theorem parseB (gn a b y d a2 b2 : Nat) (D : ByteArray) (r : Int) (ok : Bool) (WB : World)
    (c0 : Hid (WB.cell? ⟨gn, 0, none⟩ = some (.int .u64 (a : Int))))
    (c1 : Hid (WB.cell? ⟨gn, 1, none⟩ = some (.int .u64 (b : Int))))
    (dlt : Hid (d < 100))
    (hix : Hid (∀ W, Calls Tryd.prog 47 #[.string D, .int .i32 r] W fun e w' => e = .returned (.int .i64 (d : Int)) ∧ Below W.heap.size W w'))
    (htm : Hid (∀ W, Calls Tryd.prog 46 #[.agg #[.int .u64 (a : Int), .int .u64 (b : Int)], .int .u64 (y : Int), .int .u64 (d : Int)] W fun e w' => e = .returned (.tuple #[.agg #[.int .u64 (a2 : Int), .int .u64 (b2 : Int)], .bool ok]) ∧ Below W.heap.size W w'))
    (s0 s1 s2 s3 s6 s7 s9 s10 s12 s13 s14 s15 s16 s17 s18 s19 s20 s21 s22 s23 s24 s25 s26 s27 s28 s29 s30 s31 s32 s33 s34 s35 s36 s37 s38 s39 s40 s41 s42 s43 s44 s45 s46 s47 s48 s49 s50 s51 s52 s53 s54 : Value) (Q : Exit → Act → World → Prop)
    (hexit : ∀ (g : Nat) (w' : World), Below WB.heap.size WB w' → WB.heap.size ≤ g → w'.heap[g]? = some (.cells (#[.int .u64 (a2 : Int), .int .u64 (b2 : Int)]) 24 (0, 0)) → Q .normal ⟨#[s0, s1, s2, s3, .string D, .int .u64 (y : Int), s6, s7, .pointer (some ⟨gn, 0, none⟩), s9, s10, .int .i32 r, .pointer (some ⟨g, 0, none⟩), .bool ok, s14, s15, s16, s17, s18, s19, s20, s21, s22, s23, s24, s25, s26, s27, s28, s29, s30, s31, s32, s33, s34, s35, .tuple #[.agg #[.int .u64 (a2 : Int), .int .u64 (b2 : Int)], .bool ok], .agg #[.int .u64 (a : Int), .int .u64 (b : Int)], .int .u64 (y : Int), .string D, .int .i32 r, .int .i64 (d : Int), .int .u64 (d : Int), .tuple #[.agg #[.int .u64 (a2 : Int), .int .u64 (b2 : Int)], .bool ok], .agg #[.int .u64 (a2 : Int), .int .u64 (b2 : Int)], .bool ok, s46, s47, s48, s49, s50, s51, s52, s53, s54], []⟩ w') :
    Code.wp Tryd.prog ((Tryd.f7.body.bind (findRegion 12)).getD .skip) Q ⟨#[s0, s1, s2, s3, .string D, .int .u64 (y : Int), s6, s7, .pointer (some ⟨gn, 0, none⟩), s9, s10, .int .i32 r, s12, s13, s14, s15, s16, s17, s18, s19, s20, s21, s22, s23, s24, s25, s26, s27, s28, s29, s30, s31, s32, s33, s34, s35, s36, s37, s38, s39, s40, s41, s42, s43, s44, s45, s46, s47, s48, s49, s50, s51, s52, s53, s54], []⟩ WB := by
  have c : parseBC gn a b y d a2 b2 D r ok WB [s0, s1, s2, s3, .string D, .int .u64 (y : Int), s6, s7, .pointer (some ⟨gn, 0, none⟩), s9, s10, .int .i32 r, s12, s13, s14, s15, s16, s17, s18, s19, s20, s21, s22, s23, s24, s25, s26, s27, s28, s29, s30, s31, s32, s33, s34, s35, s36, s37, s38, s39, s40, s41, s42, s43, s44, s45, s46, s47, s48, s49, s50, s51, s52, s53, s54] := { tl := rfl, t4 := rfl, t5 := rfl, t8 := rfl, t11 := rfl, c0 := c0.out, c1 := c1.out, dlt := dlt.out, hix := hix.out, htm := htm.out }
  have h0 : (⟨#[s0, s1, s2, s3, .string D, .int .u64 (y : Int), s6, s7, .pointer (some ⟨gn, 0, none⟩), s9, s10, .int .i32 r, s12, s13, s14, s15, s16, s17, s18, s19, s20, s21, s22, s23, s24, s25, s26, s27, s28, s29, s30, s31, s32, s33, s34, s35, s36, s37, s38, s39, s40, s41, s42, s43, s44, s45, s46, s47, s48, s49, s50, s51, s52, s53, s54], []⟩ : Act) = frm2 parseBD [s0, s1, s2, s3, .string D, .int .u64 (y : Int), s6, s7, .pointer (some ⟨gn, 0, none⟩), s9, s10, .int .i32 r, s12, s13, s14, s15, s16, s17, s18, s19, s20, s21, s22, s23, s24, s25, s26, s27, s28, s29, s30, s31, s32, s33, s34, s35, s36, s37, s38, s39, s40, s41, s42, s43, s44, s45, s46, s47, s48, s49, s50, s51, s52, s53, s54] [s37, s38, s39, s40, s41, s42, s43, s36, s44, s45, s12, undef, s13] := rfl
  have hend : ∀ f : Nat → Value, frm2 parseBD [s0, s1, s2, s3, .string D, .int .u64 (y : Int), s6, s7, .pointer (some ⟨gn, 0, none⟩), s9, s10, .int .i32 r, s12, s13, s14, s15, s16, s17, s18, s19, s20, s21, s22, s23, s24, s25, s26, s27, s28, s29, s30, s31, s32, s33, s34, s35, s36, s37, s38, s39, s40, s41, s42, s43, s44, s45, s46, s47, s48, s49, s50, s51, s52, s53, s54] ((List.range 13).map f) = ⟨#[s0, s1, s2, s3, .string D, .int .u64 (y : Int), s6, s7, .pointer (some ⟨gn, 0, none⟩), s9, s10, .int .i32 r, f 10, f 12, s14, s15, s16, s17, s18, s19, s20, s21, s22, s23, s24, s25, s26, s27, s28, s29, s30, s31, s32, s33, s34, s35, f 7, f 0, f 1, f 2, f 3, f 4, f 5, f 6, f 8, f 9, s46, s47, s48, s49, s50, s51, s52, s53, s54], []⟩ := fun f => rfl
  rw [h0]
  clear h0
  have hex : ∀ (f : Nat → Value) (g : Nat) (w' : World), f 0 = .agg #[.int .u64 (a : Int), .int .u64 (b : Int)] → f 1 = .int .u64 (y : Int) → f 2 = .string D → f 3 = .int .i32 r → f 4 = .int .i64 (d : Int) → f 5 = .int .u64 (d : Int) → f 6 = .tuple #[.agg #[.int .u64 (a2 : Int), .int .u64 (b2 : Int)], .bool ok] → f 7 = .tuple #[.agg #[.int .u64 (a2 : Int), .int .u64 (b2 : Int)], .bool ok] → f 8 = .agg #[.int .u64 (a2 : Int), .int .u64 (b2 : Int)] → f 9 = .bool ok → f 10 = .pointer (some ⟨g, 0, none⟩) → f 12 = .bool ok → Below WB.heap.size WB w' → WB.heap.size ≤ g → w'.heap[g]? = some (.cells (#[.int .u64 (a2 : Int), .int .u64 (b2 : Int)]) 24 (0, 0)) → Q .normal ⟨#[s0, s1, s2, s3, .string D, .int .u64 (y : Int), s6, s7, .pointer (some ⟨gn, 0, none⟩), s9, s10, .int .i32 r, f 10, f 12, s14, s15, s16, s17, s18, s19, s20, s21, s22, s23, s24, s25, s26, s27, s28, s29, s30, s31, s32, s33, s34, s35, f 7, f 0, f 1, f 2, f 3, f 4, f 5, f 6, f 8, f 9, s46, s47, s48, s49, s50, s51, s52, s53, s54], []⟩ w' := by
    intro f g w' e0 e1 e2 e3 e4 e5 e6 e7 e8 e9 e10 e12 a b c
    rw [e0, e1, e2, e3, e4, e5, e6, e7, e8, e9, e10, e12]
    exact hexit g w' a b c
  clear hexit
  generalize [s0, s1, s2, s3, .string D, .int .u64 (y : Int), s6, s7, .pointer (some ⟨gn, 0, none⟩), s9, s10, .int .i32 r, s12, s13, s14, s15, s16, s17, s18, s19, s20, s21, s22, s23, s24, s25, s26, s27, s28, s29, s30, s31, s32, s33, s34, s35, s36, s37, s38, s39, s40, s41, s42, s43, s44, s45, s46, s47, s48, s49, s50, s51, s52, s53, s54] = T at *
  rw [parseBO.2]
  show Code.wp Tryd.prog (.region 12 parseBO.1 true) Q _ WB
  refine wp_region_inv2 (by kernel_rfl) (SJ (bxR WB (parseBK gn a b y d a2 b2 D r ok) 10 11 (#[.int .u64 0, .int .u64 0]) (#[.int .u64 (a2 : Int), .int .u64 (b2 : Int)]) 24) 13 parseBD T) ?_ ?_ ?_ ?_
  · exact ⟨_, rfl, by rw [parseBO_size]; simp, rfl, RW.init (fun i => did_none _ _) (Nat.le_refl _) ⟨below_drewN (Below.refl _ _) 1, fun hd => (by rw [did_none] at hd; cases hd), fun hd => (by rw [did_none] at hd; cases hd)⟩⟩
  · rintro L a w i hL hi hnd hdep ⟨l, hl, hLn, rfl, hI⟩
    have ht : BT Tryd.prog parseBO.1 13 55 parseBD WB (parseBK gn a b y d a2 b2 D r ok) 10 11 (#[.int .u64 0, .int .u64 0]) (#[.int .u64 (a2 : Int), .int .u64 (b2 : Int)]) 24 T L l w i := ⟨c.tl, parseBK_free, by decide, hl, hLn, hi, hnd, hI, hdep⟩
    match i, hi with
    | 0, _ => exact parseB_s0 Q c ht
    | 1, _ => exact parseB_s1 Q c ht
    | 2, _ => exact parseB_s2 Q c ht
    | 3, _ => exact parseB_s3 Q c ht
    | 4, _ => exact parseB_s4 Q c ht
    | 5, _ => exact parseB_s5 Q c ht
    | 6, _ => exact parseB_s6 Q c ht
    | 7, _ => exact parseB_s7 Q c ht
    | 8, _ => exact parseB_s8 Q c ht
    | 9, _ => exact parseB_s9 Q c ht
    | 10, _ => exact parseB_s10 Q c ht
    | 11, _ => exact parseB_s11 Q c ht
    | 12, _ => exact parseB_s12 Q c ht
    | i + 13, hi => exact absurd hi (by rw [parseBO_size]; omega)
  · exact parseBO_back
  · rintro L a w hall ⟨l, hl, hLn, rfl, hI⟩
    have h1 := hend (nth l)
    rw [list_nth hl] at h1
    rw [h1]
    obtain ⟨b1, -, b2⟩ := hI.glob
    obtain ⟨g, e1, e2, e3⟩ := b2 (hall 10 (by rw [parseBO_size]; decide))
    rw [hall 11 (by rw [parseBO_size]; decide)] at e3
    exact hex (nth l) g w (hI.gotK 0 (hall 0 (by rw [parseBO_size]; decide)) rfl) (hI.gotK 1 (hall 1 (by rw [parseBO_size]; decide)) rfl) (hI.gotK 2 (hall 2 (by rw [parseBO_size]; decide)) rfl) (hI.gotK 3 (hall 3 (by rw [parseBO_size]; decide)) rfl) (hI.gotK 4 (hall 4 (by rw [parseBO_size]; decide)) rfl) (hI.gotK 5 (hall 5 (by rw [parseBO_size]; decide)) rfl) (hI.gotK 6 (hall 6 (by rw [parseBO_size]; decide)) rfl) (hI.gotK 7 (hall 7 (by rw [parseBO_size]; decide)) rfl) (hI.gotK 8 (hall 8 (by rw [parseBO_size]; decide)) rfl) (hI.gotK 9 (hall 9 (by rw [parseBO_size]; decide)) rfl) e1 (hI.gotK 12 (hall 12 (by rw [parseBO_size]; decide)) rfl) b1 e2 e3

end Go.Proofs.YtfalhemeiengcaaDoor
