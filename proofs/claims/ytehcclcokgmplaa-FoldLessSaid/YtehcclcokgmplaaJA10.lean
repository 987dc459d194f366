/-
  The region that lays a number on the stack: step by step, over a frame that is not written out.
-/
import Derived.Test.YtehcclcokgmplaaJA08
import Derived.Deep.AppendLies
import Derived.Test.YtehcclcokgmplaaJA09

namespace Go.Proofs.Ytehcclcokgmplaa
open Go.RowKit Go.Maps

theorem Stk.push {w w1 : World} {n0 m : Nat} {x : Value × Value} {st : List (Nat × Int)} {a : Nat} {k : Int} {v : Value} {g cap : Nat}
    (h1 : w.heap[m]? = some (.cells #[x.1, x.2, v] 108 (0, 0))) (hk : w1.heap[m]? = w.heap[m]?) (h4 : n0 ≤ m) (h5 : st.length < 100000)
    (hown : w1.ownsRow n0 111 3 (.slice (some ⟨g, 0, none⟩) (st.length + 1) cap) (st.length + 1) (stkCells st ++ sized3 (a, k))) (hgm : g ≠ m) :
    Stk (w1.setCell ⟨m, 2, none⟩ (.slice (some ⟨g, 0, none⟩) (st.length + 1) cap)) n0 m x (st ++ [(a, k)]) := by
  refine ⟨.slice (some ⟨g, 0, none⟩) (st.length + 1) cap, heap_setCell3 (hk.trans h1), ?_, fun e => hgm (by simpa [Value.ownBlock] using e), h4, by simp; omega⟩
  rw [stkCells_snoc, List.length_append, List.length_singleton]
  obtain ⟨q0, q | ⟨g', cap', cur, q1, q2, q3, q4⟩⟩ := hown
  · exact absurd q.1 (by simp)
  · simp only [Value.slice.injEq, Option.some.injEq, Addr.mk.injEq, and_true, true_and] at q1
    obtain ⟨rfl, rfl⟩ := q1
    exact ⟨q0, .inr ⟨g, cap, cur, rfl, q2, by rw [setCell_heap hgm]; exact q3, q4⟩⟩

theorem own_type {w : World} {base e size n : Nat} {v : Value} {xs : List Value} (h : w.ownsRow base e size v n xs) {k : Nat} (hk : v.ownBlock = some k) : ∃ cur, w.heap[k]? = some (.cells cur e (0, 0)) ∧ base ≤ k := by
  obtain ⟨-, q | ⟨g, cap, cur, rfl, q2, q3, -⟩⟩ := h
  · rw [q.1] at hk; cases hk
  · simp only [Value.ownBlock, Option.some.injEq] at hk
    subst hk
    exact ⟨cur, q3, q2⟩

theorem infoSized : (Try.prog.info? 111).map (fun i => (i.zero, i.size, i.bytes)) = some (some (.agg #[.int .u64 0, .int .u64 0, .int .i64 0]), 3, 24) := by kernel_rfl

theorem three_one (a b c : Int) : ∀ u ∈ [Value.int .u64 a, .int .u64 b, .int .i64 c], u.oneCell' = true := by
  intro u hu
  simp only [List.mem_cons, List.not_mem_nil, or_false] at hu
  rcases hu with rfl | rfl | rfl <;> rfl
theorem push_kept {w w1 w2 : World} {m : Nat} {o o' : Obj} {row : Option Nat} (_h : w.heap[m]? = some o) (hm : m < w.heap.size) (hb : Below w.heap.size w w1) (hg : (w1.alloc o').grownBy w2 row) (hne : row ≠ some m) : w2.heap[m]? = w.heap[m]? := by
  have h1 : w1.heap[m]? = w.heap[m]? := hb.block m hm
  have hl : m < w1.heap.size := Nat.lt_of_lt_of_le hm hb.size
  rw [hg.block m (by simp; omega) (fun e => hne e.symm), Below.heap_alloc _ _ _ hl, h1]

section
variable {W w1 w2 : World} {gN g4 m : Nat} {u a b : Value}
end

section
variable {P : Program} {o : Oper} {w : World} {ev : Operand → Value}
theorem ex_nilCheck {x : Operand} {p : Addr} (h : o.op = .nilCheck x) (hx : ev x = .pointer (some p)) : (execOp ev o).run P w = .ok (.value (.pointer (some p))) w := by
  unfold execOp; rw [h]; dsimp only; rw [hx]; rfl
theorem ex_field_m {x : Operand} {g : Nat} (h : o.op = .fieldAddr 108 x 2) (hx : ev x = .pointer (some ⟨g, 0, none⟩)) : (execOp ev o).run Try.prog w = .ok (.value (.pointer (some ⟨g, 2, none⟩))) w := by
  unfold execOp; rw [h]; dsimp only; rw [hx]; go_simp
theorem ex_field_n {x : Operand} {g : Nat} (h : o.op = .fieldAddr 61 x 1) (hx : ev x = .pointer (some ⟨g, 0, none⟩)) : (execOp ev o).run Try.prog w = .ok (.value (.pointer (some ⟨g, 1, none⟩))) w := by
  unfold execOp; rw [h]; dsimp only; rw [hx]; go_simp
theorem ex_load_sized {x : Operand} {g j n c : Nat} {p : Option Addr} (h : o.op = .load 106 x) (hx : ev x = .pointer (some ⟨g, j, none⟩)) (h0 : w.cell? ⟨g, j, none⟩ = some (.slice p n c)) :
    (execOp ev o).run Try.prog w = .ok (.value (.slice p n c)) w := by
  unfold execOp; rw [h]; dsimp only; rw [hx]; go_simp
theorem ex_load_i {x : Operand} {g j : Nat} {v : Int} (h : o.op = .load 3 x) (hx : ev x = .pointer (some ⟨g, j, none⟩)) (h0 : w.cell? ⟨g, j, none⟩ = some (.int .i64 v)) :
    (execOp ev o).run Try.prog w = .ok (.value (.int .i64 v)) w := by
  unfold execOp; rw [h]; dsimp only; rw [hx]; go_simp
theorem ex_load_n {x : Operand} {g : Nat} {a b : Int} (h : o.op = .load 59 x) (hx : ev x = .pointer (some ⟨g, 0, none⟩)) (h0 : w.cell? ⟨g, 0, none⟩ = some (.int .u64 a)) (h1 : w.cell? ⟨g, 1, none⟩ = some (.int .u64 b)) :
    (execOp ev o).run Try.prog w = .ok (.value (.agg #[.int .u64 a, .int .u64 b])) w := by
  unfold execOp; rw [h]; dsimp only; rw [hx]; go_simp
theorem ex_build_sized {x y : Operand} {a b k : Int} (h : o.op = .build 111 #[(0, x), (1, y)]) (hx : ev x = .agg #[.int .u64 a, .int .u64 b]) (hy : ev y = .int .i64 k) :
    (execOp ev o).run Try.prog w = .ok (.value (.agg #[.int .u64 a, .int .u64 b, .int .i64 k])) w := by
  unfold execOp; rw [h]; dsimp only
  simp only [List.map_toArray, List.map_cons, List.map_nil]
  rw [hx, hy]; go_simp
theorem ex_slice_sized {x : Operand} {a b k : Value} (h : o.op = .buildSlice 106 1 #[(0, x)]) (hx : ev x = .agg #[a, b, k]) :
    (execOp ev o).run Try.prog w = .ok (.value (.slice (some ⟨w.heap.size, 0, none⟩) 1 1)) (w.alloc (.cells #[a, b, k] 111)) := by
  unfold execOp; rw [h]; dsimp only
  simp only [List.map_toArray, List.map_cons, List.map_nil]
  rw [hx]; go_simp
theorem ex_store_sized {x y : Operand} {g j : Nat} {p : Option Addr} {n c : Nat} {u : Value} (h : o.op = .store 106 x y) (hx : ev x = .pointer (some ⟨g, j, none⟩)) (hy : ev y = .slice p n c) (h0 : w.cell? ⟨g, j, none⟩ = some u) (h1 : w.frozen? ⟨g, j, none⟩ = false) :
    (execOp ev o).run Try.prog w = .ok .skip (w.setCell ⟨g, j, none⟩ (.slice p n c)) := by
  unfold execOp; rw [h]; dsimp only; rw [hx, hy]; go_simp
end

/-- What the region stands on. -/
structure PC (n0 m gN g4 : Nat) (x : Value × Value) (st : List (Nat × Int)) (r : Nat) (k : Int) (y z y3 z3 : Nat) (pv : Option Addr) (cv : Nat) (WB : World) (T : List Value) : Prop where
  tl : T.length = 70
  t0 : nth T 0 = .pointer (some ⟨m, 0, none⟩)
  t3 : nth T 3 = .pointer (some ⟨gN, 0, none⟩)
  t4 : nth T 4 = .pointer (some ⟨g4, 0, none⟩)
  hm : WB.heap[m]? = some (.cells #[x.1, x.2, .slice pv st.length cv] 108 (0, 0))
  own : WB.ownsRow n0 111 3 (.slice pv st.length cv) st.length (stkCells st)
  nm : (Value.slice pv st.length cv).ownBlock ≠ some m
  n0m : n0 ≤ m
  len : st.length < 100000
  cn : WB.cell? ⟨gN, 1, none⟩ = some (.int .i64 k)
  ca : WB.cell? ⟨g4, 0, none⟩ = some (.int .u64 (y : Int))
  cb : WB.cell? ⟨g4, 1, none⟩ = some (.int .u64 (z : Int))
  cut : ∀ W, Calls Try.prog 39 #[.agg #[.int .u64 (y : Int), .int .u64 (z : Int)], .int .i64 k] W fun e w' => e = .returned (.agg #[.int .u64 (y3 : Int), .int .u64 (z3 : Int)]) ∧ Below W.heap.size W w'
  e3 : sized3 (r, k) = [.int .u64 (y3 : Int), .int .u64 (z3 : Int), .int .i64 k]

def pAp (n0 m : Nat) (st : List (Nat × Int)) (r : Nat) (k : Int) (WB : World) (v : Value) (w : World) : Prop :=
  ∃ g cap, v = .slice (some ⟨g, 0, none⟩) (st.length + 1) cap ∧ w.ownsRow n0 111 3 v (st.length + 1) (stkCells st ++ sized3 (r, k)) ∧ g ≠ m ∧ w.heap[m]? = WB.heap[m]? ∧ Below n0 WB w
def pB (n0 m : Nat) (x : Value × Value) (st : List (Nat × Int)) (r : Nat) (k : Int) (WB w : World) : Prop := Stk w n0 m x (st ++ [(r, k)]) ∧ Below n0 WB w
def pS (y3 z3 : Nat) (k : Int) (WB : World) (v : Value) (w : World) : Prop := ∃ g, v = .slice (some ⟨g, 0, none⟩) 1 1 ∧ WB.heap.size ≤ g ∧ w.heap[g]? = some (.cells #[.int .u64 (y3 : Int), .int .u64 (z3 : Int), .int .i64 k] 111 (0, 0))
def isJ (js : List Nat) (v : Value) : List Nat × Tw := (js, fun _ _ _ x => x = v)
def anyJ (js : List Nat) : List Nat × Tw := (js, fun _ _ _ _ => True)
def pR (n0 m gN _g4 : Nat) (x : Value × Value) (st : List (Nat × Int)) (r : Nat) (k : Int) (y z y3 z3 : Nat) (pv : Option Addr) (cv : Nat) (WB : World) : Rw where
  n0 := WB.heap.size
  dep := fun _ => False
  kd := [isJ [] (.pointer (some ⟨m, 0, none⟩)), isJ [] (.pointer (some ⟨m, 0, none⟩)), isJ [] (.pointer (some ⟨m, 0, none⟩)), isJ [] (.pointer (some ⟨m, 2, none⟩)), isJ [] (.slice pv st.length cv), isJ [] (.agg #[.int .u64 (y : Int), .int .u64 (z : Int)]),
    isJ [] (.pointer (some ⟨gN, 1, none⟩)), isJ [] (.int .i64 k), isJ [5, 7] (.agg #[.int .u64 (y3 : Int), .int .u64 (z3 : Int)]), isJ [] (.pointer (some ⟨gN, 1, none⟩)), isJ [] (.int .i64 k), isJ [8, 10] (.agg #[.int .u64 (y3 : Int), .int .u64 (z3 : Int), .int .i64 k]), anyJ [11], anyJ [4, 12],
    isJ [] (.pointer (some ⟨m, 0, none⟩)), isJ [] (.pointer (some ⟨m, 2, none⟩)), anyJ [13]]
  G := fun L l w => (did L 13 = false → Below WB.heap.size WB w ∧ (did L 12 = true → pS y3 z3 k WB (nth l 12) w)) ∧ (did L 13 = true → did L 16 = false → pAp n0 m st r k WB (nth l 13) w) ∧ (did L 16 = true → pB n0 m x st r k WB w)

section
variable {S : Rw} {w w' : World} {L : Array Bool} {l : List Value}
/-- What is told hangs on no world. -/
def Rw.Free (S : Rw) : Prop := ∀ (i : Nat) (js : List Nat) (P : Tw), S.kd[i]? = some (js, P) → ∀ (B : Nat → Prop) (w w' : World) (ls : List Value) (v : Value), P B w ls v → P B w' ls v
theorem RW.free (i : Nat) (v : Value) {js : List Nat} {P : Tw} (h : RW S L l w) (hS : S.Free) (hn : did L i = false) (hL : i < L.size) (hl : i < l.length) (hk : S.kd[i]? = some (js, P)) (hjs : ∀ j ∈ js, did L j = true) (hsz : w.heap.size ≤ w'.heap.size)
    (hG : S.G L l w → S.G (L.setIfInBounds i true) (l.set i v) w') (hnew : P (NewB w w') w' (js.map (nth l)) v) : RW S (L.setIfInBounds i true) (l.set i v) w' := by
  obtain ⟨B, h⟩ := h
  exact h.turn i v hn hL hl hk hjs hsz (fun j js' P' _ hk' hp => hS j js' P' hk' _ _ _ _ _ hp) (hG h.glob) hnew
theorem RW.gotJ (h : RW S L l w) (i : Nat) {js : List Nat} {v : Value} (hd : did L i = true) (hk : S.kd[i]? = some (isJ js v)) : nth l i = v := by
  obtain ⟨B, h⟩ := h
  exact (h.ok i _ _ hd hk).2
theorem RW.hangs (h : RW S L l w) (i : Nat) {js : List Nat} {P : Tw} (hd : did L i = true) (hk : S.kd[i]? = some (js, P)) : ∀ j ∈ js, did L j = true := by
  obtain ⟨B, h⟩ := h
  exact (h.ok i _ _ hd hk).1
end

section
variable {n0 m gN g4 : Nat} {x : Value × Value} {st : List (Nat × Int)} {r : Nat} {k : Int} {y z y3 z3 : Nat} {pv : Option Addr} {cv : Nat} {WB w w' : World} {T l : List Value} {L : Array Bool}
theorem pR_free : (pR n0 m gN g4 x st r k y z y3 z3 pv cv WB).Free := fun i js P hk B w w' ls v hp => by
  match i, hk with
  | 0, hk => cases hk; exact hp
  | 1, hk => cases hk; exact hp
  | 2, hk => cases hk; exact hp
  | 3, hk => cases hk; exact hp
  | 4, hk => cases hk; exact hp
  | 5, hk => cases hk; exact hp
  | 6, hk => cases hk; exact hp
  | 7, hk => cases hk; exact hp
  | 8, hk => cases hk; exact hp
  | 9, hk => cases hk; exact hp
  | 10, hk => cases hk; exact hp
  | 11, hk => cases hk; exact hp
  | 12, hk => cases hk; exact hp
  | 13, hk => cases hk; exact hp
  | 14, hk => cases hk; exact hp
  | 15, hk => cases hk; exact hp
  | 16, hk => cases hk; exact hp
  | i + 17, hk => simp [pR] at hk
/-- All that the append hangs on. -/
theorem pR_13 (h : RW (pR n0 m gN g4 x st r k y z y3 z3 pv cv WB) L l w) (hd : did L 13 = true) : did L 4 = true ∧ did L 5 = true ∧ did L 7 = true ∧ did L 8 = true ∧ did L 10 = true ∧ did L 11 = true ∧ did L 12 = true := by
  have h13 := h.hangs 13 hd rfl
  have d4 := h13 4 (by simp)
  have d12 := h13 12 (by simp)
  have d11 := h.hangs 12 d12 rfl 11 (by simp)
  have h11 := h.hangs 11 d11 rfl
  have d8 := h11 8 (by simp)
  have h8 := h.hangs 8 d8 rfl
  exact ⟨d4, h8 5 (by simp), h8 7 (by simp), d8, h11 10 (by simp), d11, d12⟩
theorem pR_16 (h : RW (pR n0 m gN g4 x st r k y z y3 z3 pv cv WB) L l w) (hd : did L 16 = true) : did L 13 = true := h.hangs 16 hd rfl 13 (by simp)
theorem two_did {L : Array Bool} {a b : Nat} (h1 : did L a = true) (h2 : did L b = true) : ∀ j ∈ [a, b], did L j = true := fun j hj => by
  simp only [List.mem_cons, List.not_mem_nil, or_false] at hj
  rcases hj with rfl | rfl
  · exact h1
  · exact h2
theorem f_of {b : Bool} (h : b = true → False) : b = false := by cases b; rfl; exact (h rfl).elim
/-- A world as the region found it, but for what is new. -/
theorem pR_quiet (h : RW (pR n0 m gN g4 x st r k y z y3 z3 pv cv WB) L l w) (hd : did L 13 = false) : Below WB.heap.size WB w := (h.glob.1 hd).1
theorem pG_same {i : Nat} {v : Value} (h12 : i ≠ 12) (h13 : i ≠ 13) (h16 : i ≠ 16) (h : (pR n0 m gN g4 x st r k y z y3 z3 pv cv WB).G L l w) : (pR n0 m gN g4 x st r k y z y3 z3 pv cv WB).G (L.setIfInBounds i true) (l.set i v) w := by
  obtain ⟨a, b, c⟩ := h
  refine ⟨?_, ?_, ?_⟩
  · rw [did_other (fun e => h13 e.symm), did_other (fun e => h12 e.symm), nth_other h12]; exact a
  · rw [did_other (fun e => h13 e.symm), did_other (fun e => h16 e.symm), nth_other h13]; exact b
  · rw [did_other (fun e => h16 e.symm)]; exact c
/-- Ahead of the append: whatever leaves the old blocks. -/
theorem pG_new {i : Nat} {v : Value} (h13 : i ≠ 13) (h16 : i ≠ 16) (d13 : did L 13 = false) (d16 : did L 16 = false) (hb : Below w.heap.size w w') (hi : i = 12 → pS y3 z3 k WB v w') (hL : i < l.length) (h : (pR n0 m gN g4 x st r k y z y3 z3 pv cv WB).G L l w) : (pR n0 m gN g4 x st r k y z y3 z3 pv cv WB).G (L.setIfInBounds i true) (l.set i v) w' := by
  obtain ⟨a, b, c⟩ := h
  obtain ⟨a1, a2⟩ := a d13
  refine ⟨fun _ => ⟨a1.trans (hb.mono a1.size), fun hd => ?_⟩, fun hd => ?_, fun hd => ?_⟩
  · by_cases e : i = 12
    · subst e; rw [nth_same hL]; exact hi rfl
    · rw [did_other (fun q => e q.symm)] at hd
      rw [nth_other e]
      obtain ⟨g, e1, e2, e3⟩ := a2 hd
      exact ⟨g, e1, e2, (hb.block g (lt_of_block e3)).trans e3⟩
  · rw [did_other (fun e => h13 e.symm), d13] at hd; cases hd
  · rw [did_other (fun e => h16 e.symm), d16] at hd; cases hd
end

abbrev pds : List (Option Nat) := [some 54, some 55, some 56, some 57, some 58, some 59, some 60, some 61, some 62, some 63, some 64, some 65, some 66, some 67, some 68, some 69, none]
noncomputable def reg9 : { c : Array Oper // (Try.f40.body.bind (findRegion 9)) = some (.region 9 c true) } := ⟨_, rfl⟩
theorem ops9_size : reg9.1.size = 17 := rfl
theorem op9_0 : ∃ o, reg9.1[0]? = some o ∧ o.dst = some 54 ∧ o.guard = none ∧ o.op = .move (.tmp 0) := ⟨_, rfl, rfl, rfl, rfl⟩
theorem op9_1 : ∃ o, reg9.1[1]? = some o ∧ o.dst = some 55 ∧ o.guard = none ∧ o.op = .move (.tmp 0) := ⟨_, rfl, rfl, rfl, rfl⟩
theorem op9_2 : ∃ o, reg9.1[2]? = some o ∧ o.dst = some 56 ∧ o.guard = none ∧ o.op = .nilCheck (.tmp 55) := ⟨_, rfl, rfl, rfl, rfl⟩
theorem op9_3 : ∃ o, reg9.1[3]? = some o ∧ o.dst = some 57 ∧ o.guard = none ∧ o.op = .fieldAddr 108 (.tmp 56) 2 := ⟨_, rfl, rfl, rfl, rfl⟩
theorem op9_4 : ∃ o, reg9.1[4]? = some o ∧ o.dst = some 58 ∧ o.guard = none ∧ o.op = .load 106 (.tmp 57) := ⟨_, rfl, rfl, rfl, rfl⟩
theorem op9_5 : ∃ o, reg9.1[5]? = some o ∧ o.dst = some 59 ∧ o.guard = none ∧ o.op = .load 59 (.tmp 4) := ⟨_, rfl, rfl, rfl, rfl⟩
theorem op9_6 : ∃ o, reg9.1[6]? = some o ∧ o.dst = some 60 ∧ o.guard = none ∧ o.op = .fieldAddr 61 (.tmp 3) 1 := ⟨_, rfl, rfl, rfl, rfl⟩
theorem op9_7 : ∃ o, reg9.1[7]? = some o ∧ o.dst = some 61 ∧ o.guard = none ∧ o.op = .load 3 (.tmp 60) := ⟨_, rfl, rfl, rfl, rfl⟩
theorem op9_8 : ∃ o, reg9.1[8]? = some o ∧ o.dst = some 62 ∧ o.guard = none ∧ o.op = .call { callee := .value (.func 39), args := #[.tmp 59, .tmp 61], argTypes := #[59, 3] } := ⟨_, rfl, rfl, rfl, rfl⟩
theorem op9_9 : ∃ o, reg9.1[9]? = some o ∧ o.dst = some 63 ∧ o.guard = none ∧ o.op = .fieldAddr 61 (.tmp 3) 1 := ⟨_, rfl, rfl, rfl, rfl⟩
theorem op9_10 : ∃ o, reg9.1[10]? = some o ∧ o.dst = some 64 ∧ o.guard = none ∧ o.op = .load 3 (.tmp 63) := ⟨_, rfl, rfl, rfl, rfl⟩
theorem op9_11 : ∃ o, reg9.1[11]? = some o ∧ o.dst = some 65 ∧ o.guard = none ∧ o.op = .build 111 #[(0, .tmp 62), (1, .tmp 64)] := ⟨_, rfl, rfl, rfl, rfl⟩
theorem op9_12 : ∃ o, reg9.1[12]? = some o ∧ o.dst = some 66 ∧ o.guard = none ∧ o.op = .buildSlice 106 1 #[(0, .tmp 65)] := ⟨_, rfl, rfl, rfl, rfl⟩
theorem op9_13 : ∃ o, reg9.1[13]? = some o ∧ o.dst = some 67 ∧ o.guard = none ∧ o.op = .call { callee := .builtin .append, args := #[.tmp 58, .tmp 66], argTypes := #[106, 106] } := ⟨_, rfl, rfl, rfl, rfl⟩
theorem op9_14 : ∃ o, reg9.1[14]? = some o ∧ o.dst = some 68 ∧ o.guard = none ∧ o.op = .nilCheck (.tmp 54) := ⟨_, rfl, rfl, rfl, rfl⟩
theorem op9_15 : ∃ o, reg9.1[15]? = some o ∧ o.dst = some 69 ∧ o.guard = none ∧ o.op = .fieldAddr 108 (.tmp 68) 2 := ⟨_, rfl, rfl, rfl, rfl⟩
theorem op9_16 : ∃ o, reg9.1[16]? = some o ∧ o.dst = none ∧ o.guard = none ∧ o.op = .store 106 (.tmp 69) (.tmp 67) := ⟨_, rfl, rfl, rfl, rfl⟩
theorem reg9_back : ∀ (i : Nat) (o : Oper), reg9.1[i]? = some o → ∀ e ∈ o.after, Region.binds .any e = true → e.on < i := by
  have h : ((List.range 17).all fun i => (reg9.1[i]?.map fun o => o.after.all fun e => !Region.binds .any e || decide (e.on < i)).getD false) = true := by kernel_rfl
  intro i o ho e he hb
  have hi : i < 17 := by
    by_cases q : i < 17
    · exact q
    · rw [Array.getElem?_eq_none (by rw [ops9_size]; omega)] at ho; cases ho
  have h2 := List.all_eq_true.1 h i (List.mem_range.2 hi)
  rw [ho] at h2
  simp only [Option.map_some, Option.getD_some, Array.all_eq_true'] at h2
  have h3 := h2 e he
  rw [hb] at h3
  simpa using h3

/-- What a step stands on. -/
structure PT (n0 m gN g4 : Nat) (x : Value × Value) (st : List (Nat × Int)) (r : Nat) (k : Int) (y z y3 z3 : Nat) (pv : Option Addr) (cv : Nat) (WB : World) (T : List Value) (L : Array Bool) (l : List Value) (w : World) (i : Nat) : Prop where
  c : PC n0 m gN g4 x st r k y z y3 z3 pv cv WB T
  len : l.length = 17
  size : L.size = 17
  lt : i < 17
  non : did L i = false
  rw : RW (pR n0 m gN g4 x st r k y z y3 z3 pv cv WB) L l w
  dep : ∀ o, reg9.1[i]? = some o → ∀ e ∈ o.after, Region.binds .any e = true → did L e.on = true

section
variable {n0 m gN g4 : Nat} {x : Value × Value} {st : List (Nat × Int)} {r : Nat} {k : Int} {y z y3 z3 : Nat} {pv : Option Addr} {cv : Nat} {WB w w' : World} {T l : List Value} {L : Array Bool} {i : Nat} {Q : Exit → Act → World → Prop} {o : Oper} {v : Value} {d : Nat}
theorem PT.next (h : PT n0 m gN g4 x st r k y z y3 z3 pv cv WB T L l w i) {js : List Nat} {p : Tw} (hk : (pR n0 m gN g4 x st r k y z y3 z3 pv cv WB).kd[i]? = some (js, p)) (hjs : ∀ j ∈ js, did L j = true) (hsz : w.heap.size ≤ w'.heap.size)
    (hG : (pR n0 m gN g4 x st r k y z y3 z3 pv cv WB).G L l w → (pR n0 m gN g4 x st r k y z y3 z3 pv cv WB).G (L.setIfInBounds i true) (l.set i v) w') (hp : p (NewB w w') w' (js.map (nth l)) v) :
    SJ (pR n0 m gN g4 x st r k y z y3 z3 pv cv WB) 17 pds T (L.setIfInBounds i true) (frm2 pds T (l.set i v)) w' :=
  ⟨_, by simp [h.len], by simp [h.size], rfl, h.rw.free i v pR_free h.non (by rw [h.size]; exact h.lt) (by rw [h.len]; exact h.lt) hk hjs hsz hG hp⟩
theorem PT.value (h : PT n0 m gN g4 x st r k y z y3 z3 pv cv WB T L l w i) (ho : reg9.1[i]? = some o) (hd : o.dst = some d) (hs : slotOf pds d = some i) (hg : o.guard = none)
    (hex : (execOp (frm2 pds T l).eval o).run Try.prog w = .ok (.value v) w') (hn : SJ (pR n0 m gN g4 x st r k y z y3 z3 pv cv WB) 17 pds T (L.setIfInBounds i true) (frm2 pds T (l.set i v)) w') : wpOp Try.prog reg9.1 Q i (SJ (pR n0 m gN g4 x st r k y z y3 z3 pv cv WB) 17 pds T (L.setIfInBounds i true)) (frm2 pds T l) w :=
  wpOp_step ho fun K hK => by
    rw [if_pos (wanted_un hg)]
    unfold Oper.wp
    rw [hex, Oper.upon_value, hd, frm2_put v hs (by rw [h.len]; exact h.lt)]
    exact hK _ _ hn
/-- A value, in the same world. -/
theorem PT.same (h : PT n0 m gN g4 x st r k y z y3 z3 pv cv WB T L l w i) (ho : reg9.1[i]? = some o) (hd : o.dst = some d) (hs : slotOf pds d = some i) (hg : o.guard = none) (js : List Nat) (hk : (pR n0 m gN g4 x st r k y z y3 z3 pv cv WB).kd[i]? = some (isJ js v)) (hjs : ∀ j ∈ js, did L j = true) (h12 : i ≠ 12) (h13 : i ≠ 13) (h16 : i ≠ 16)
    (hex : (execOp (frm2 pds T l).eval o).run Try.prog w = .ok (.value v) w) : wpOp Try.prog reg9.1 Q i (SJ (pR n0 m gN g4 x st r k y z y3 z3 pv cv WB) 17 pds T (L.setIfInBounds i true)) (frm2 pds T l) w :=
  h.value ho hd hs hg hex (h.next hk hjs (Nat.le_refl _) (pG_same h12 h13 h16) rfl)
theorem PT.new (h : PT n0 m gN g4 x st r k y z y3 z3 pv cv WB T L l w i) {s j : Nat} (hs : slotOf pds s = some j) (ht : s < 70) : (frm2 pds T l).eval (.tmp s) = nth l j := frm2_new (by rw [h.c.tl]; exact ht) hs
theorem PT.old (h : PT n0 m gN g4 x st r k y z y3 z3 pv cv WB T L l w i) {s : Nat} (hs : slotOf pds s = none) (ht : s < 70) : (frm2 pds T l).eval (.tmp s) = nth T s := frm2_old (by rw [h.c.tl]; exact ht) hs
/-- Ahead of the append. -/
theorem PT.ahead (h : PT n0 m gN g4 x st r k y z y3 z3 pv cv WB T L l w i) (hi : i ∈ [4, 5, 7, 8, 10, 11, 12, 13]) : did L 13 = false ∧ did L 16 = false ∧ Below WB.heap.size WB w := by
  have h13 : did L 13 = false := f_of fun hd => by
    obtain ⟨a, b, c, d, e, f, g⟩ := pR_13 h.rw hd
    have hn := h.non
    simp only [List.mem_cons, List.not_mem_nil, or_false] at hi
    rcases hi with rfl | rfl | rfl | rfl | rfl | rfl | rfl | rfl <;> simp_all
  exact ⟨h13, f_of fun hd => (by rw [pR_16 h.rw hd] at h13; cases h13), pR_quiet h.rw h13⟩
theorem PT.cell (h : PT n0 m gN g4 x st r k y z y3 z3 pv cv WB T L l w i) (hi : i ∈ [4, 5, 7, 8, 10, 11, 12, 13]) {p : Addr} {u : Value} (hc : WB.cell? p = some u) : w.cell? p = some u :=
  (((h.ahead hi).2.2).cell (cell_there hc).1).trans hc
end

set_option maxRecDepth 100000 in
set_option maxHeartbeats 1000000 in
theorem st9_0 {n0 m gN g4 : Nat} {x : Value × Value} {st : List (Nat × Int)} {r : Nat} {k : Int} {y z y3 z3 : Nat} {pv : Option Addr} {cv : Nat} {WB w : World} {T l : List Value} {L : Array Bool} (Q : Exit → Act → World → Prop) (h : PT n0 m gN g4 x st r k y z y3 z3 pv cv WB T L l w 0) : wpOp Try.prog reg9.1 Q 0 (SJ (pR n0 m gN g4 x st r k y z y3 z3 pv cv WB) 17 pds T (L.setIfInBounds 0 true)) (frm2 pds T l) w := by
  obtain ⟨o, ho, hd, hg, hop⟩ := op9_0
  exact h.same ho hd rfl hg [] rfl (fun j hj => by cases hj) (by decide) (by decide) (by decide) (ex_move hop ((h.old (s := 0) rfl (by decide)).trans h.c.t0))

set_option maxRecDepth 100000 in
set_option maxHeartbeats 1000000 in
theorem st9_1 {n0 m gN g4 : Nat} {x : Value × Value} {st : List (Nat × Int)} {r : Nat} {k : Int} {y z y3 z3 : Nat} {pv : Option Addr} {cv : Nat} {WB w : World} {T l : List Value} {L : Array Bool} (Q : Exit → Act → World → Prop) (h : PT n0 m gN g4 x st r k y z y3 z3 pv cv WB T L l w 1) : wpOp Try.prog reg9.1 Q 1 (SJ (pR n0 m gN g4 x st r k y z y3 z3 pv cv WB) 17 pds T (L.setIfInBounds 1 true)) (frm2 pds T l) w := by
  obtain ⟨o, ho, hd, hg, hop⟩ := op9_1
  exact h.same ho hd rfl hg [] rfl (fun j hj => by cases hj) (by decide) (by decide) (by decide) (ex_move hop ((h.old (s := 0) rfl (by decide)).trans h.c.t0))

set_option maxRecDepth 100000 in
set_option maxHeartbeats 1000000 in
theorem st9_2 {n0 m gN g4 : Nat} {x : Value × Value} {st : List (Nat × Int)} {r : Nat} {k : Int} {y z y3 z3 : Nat} {pv : Option Addr} {cv : Nat} {WB w : World} {T l : List Value} {L : Array Bool} (Q : Exit → Act → World → Prop) (h : PT n0 m gN g4 x st r k y z y3 z3 pv cv WB T L l w 2) : wpOp Try.prog reg9.1 Q 2 (SJ (pR n0 m gN g4 x st r k y z y3 z3 pv cv WB) 17 pds T (L.setIfInBounds 2 true)) (frm2 pds T l) w := by
  obtain ⟨o, ho, hd, hg, hop⟩ := op9_2
  exact h.same ho hd rfl hg [] rfl (fun j hj => by cases hj) (by decide) (by decide) (by decide) (ex_nilCheck hop ((h.new (s := 55) (j := 1) rfl (by decide)).trans (h.rw.gotJ 1 (dep_of (a := 1) (by kernel_rfl) h.dep) rfl)))

set_option maxRecDepth 100000 in
set_option maxHeartbeats 1000000 in
theorem st9_3 {n0 m gN g4 : Nat} {x : Value × Value} {st : List (Nat × Int)} {r : Nat} {k : Int} {y z y3 z3 : Nat} {pv : Option Addr} {cv : Nat} {WB w : World} {T l : List Value} {L : Array Bool} (Q : Exit → Act → World → Prop) (h : PT n0 m gN g4 x st r k y z y3 z3 pv cv WB T L l w 3) : wpOp Try.prog reg9.1 Q 3 (SJ (pR n0 m gN g4 x st r k y z y3 z3 pv cv WB) 17 pds T (L.setIfInBounds 3 true)) (frm2 pds T l) w := by
  obtain ⟨o, ho, hd, hg, hop⟩ := op9_3
  exact h.same ho hd rfl hg [] rfl (fun j hj => by cases hj) (by decide) (by decide) (by decide) (ex_field_m hop ((h.new (s := 56) (j := 2) rfl (by decide)).trans (h.rw.gotJ 2 (dep_of (a := 2) (by kernel_rfl) h.dep) rfl)))

set_option maxRecDepth 100000 in
set_option maxHeartbeats 1000000 in
theorem st9_4 {n0 m gN g4 : Nat} {x : Value × Value} {st : List (Nat × Int)} {r : Nat} {k : Int} {y z y3 z3 : Nat} {pv : Option Addr} {cv : Nat} {WB w : World} {T l : List Value} {L : Array Bool} (Q : Exit → Act → World → Prop) (h : PT n0 m gN g4 x st r k y z y3 z3 pv cv WB T L l w 4) : wpOp Try.prog reg9.1 Q 4 (SJ (pR n0 m gN g4 x st r k y z y3 z3 pv cv WB) 17 pds T (L.setIfInBounds 4 true)) (frm2 pds T l) w := by
  obtain ⟨o, ho, hd, hg, hop⟩ := op9_4
  exact h.same ho hd rfl hg [] rfl (fun j hj => by cases hj) (by decide) (by decide) (by decide) (ex_load_sized hop ((h.new (s := 57) (j := 3) rfl (by decide)).trans (h.rw.gotJ 3 (dep_of (a := 3) (by kernel_rfl) h.dep) rfl)) (h.cell (by decide) (by simp [World.cell?, h.c.hm])))

set_option maxRecDepth 100000 in
set_option maxHeartbeats 1000000 in
theorem st9_5 {n0 m gN g4 : Nat} {x : Value × Value} {st : List (Nat × Int)} {r : Nat} {k : Int} {y z y3 z3 : Nat} {pv : Option Addr} {cv : Nat} {WB w : World} {T l : List Value} {L : Array Bool} (Q : Exit → Act → World → Prop) (h : PT n0 m gN g4 x st r k y z y3 z3 pv cv WB T L l w 5) : wpOp Try.prog reg9.1 Q 5 (SJ (pR n0 m gN g4 x st r k y z y3 z3 pv cv WB) 17 pds T (L.setIfInBounds 5 true)) (frm2 pds T l) w := by
  obtain ⟨o, ho, hd, hg, hop⟩ := op9_5
  exact h.same ho hd rfl hg [] rfl (fun j hj => by cases hj) (by decide) (by decide) (by decide) (ex_load_n hop ((h.old (s := 4) rfl (by decide)).trans h.c.t4) (h.cell (by decide) h.c.ca) (h.cell (by decide) h.c.cb))

set_option maxRecDepth 100000 in
set_option maxHeartbeats 1000000 in
theorem st9_6 {n0 m gN g4 : Nat} {x : Value × Value} {st : List (Nat × Int)} {r : Nat} {k : Int} {y z y3 z3 : Nat} {pv : Option Addr} {cv : Nat} {WB w : World} {T l : List Value} {L : Array Bool} (Q : Exit → Act → World → Prop) (h : PT n0 m gN g4 x st r k y z y3 z3 pv cv WB T L l w 6) : wpOp Try.prog reg9.1 Q 6 (SJ (pR n0 m gN g4 x st r k y z y3 z3 pv cv WB) 17 pds T (L.setIfInBounds 6 true)) (frm2 pds T l) w := by
  obtain ⟨o, ho, hd, hg, hop⟩ := op9_6
  exact h.same ho hd rfl hg [] rfl (fun j hj => by cases hj) (by decide) (by decide) (by decide) (ex_field_n hop ((h.old (s := 3) rfl (by decide)).trans h.c.t3))

set_option maxRecDepth 100000 in
set_option maxHeartbeats 1000000 in
theorem st9_7 {n0 m gN g4 : Nat} {x : Value × Value} {st : List (Nat × Int)} {r : Nat} {k : Int} {y z y3 z3 : Nat} {pv : Option Addr} {cv : Nat} {WB w : World} {T l : List Value} {L : Array Bool} (Q : Exit → Act → World → Prop) (h : PT n0 m gN g4 x st r k y z y3 z3 pv cv WB T L l w 7) : wpOp Try.prog reg9.1 Q 7 (SJ (pR n0 m gN g4 x st r k y z y3 z3 pv cv WB) 17 pds T (L.setIfInBounds 7 true)) (frm2 pds T l) w := by
  obtain ⟨o, ho, hd, hg, hop⟩ := op9_7
  exact h.same ho hd rfl hg [] rfl (fun j hj => by cases hj) (by decide) (by decide) (by decide) (ex_load_i hop ((h.new (s := 60) (j := 6) rfl (by decide)).trans (h.rw.gotJ 6 (dep_of (a := 6) (by kernel_rfl) h.dep) rfl)) (h.cell (by decide) h.c.cn))

set_option maxRecDepth 100000 in
set_option maxHeartbeats 1000000 in
theorem st9_8 {n0 m gN g4 : Nat} {x : Value × Value} {st : List (Nat × Int)} {r : Nat} {k : Int} {y z y3 z3 : Nat} {pv : Option Addr} {cv : Nat} {WB w : World} {T l : List Value} {L : Array Bool} (Q : Exit → Act → World → Prop) (h : PT n0 m gN g4 x st r k y z y3 z3 pv cv WB T L l w 8) : wpOp Try.prog reg9.1 Q 8 (SJ (pR n0 m gN g4 x st r k y z y3 z3 pv cv WB) 17 pds T (L.setIfInBounds 8 true)) (frm2 pds T l) w := by
  obtain ⟨o, ho, hd, hg, hop⟩ := op9_8
  obtain ⟨d13, d16, hb⟩ := h.ahead (by decide)
  have e59 := ((h.new (s := 59) (j := 5) rfl (by decide)).trans (h.rw.gotJ 5 (dep_of (a := 5) (by kernel_rfl) h.dep) rfl))
  have e61 := ((h.new (s := 61) (j := 7) rfl (by decide)).trans (h.rw.gotJ 7 (dep_of (a := 7) (by kernel_rfl) h.dep) rfl))
  refine wpOp_step ho fun K hK => ?_
  rw [if_pos (wanted_un hg)]
  unfold Oper.wp
  rw [ex_call hop rfl rfl (args := #[.agg #[.int .u64 (y : Int), .int .u64 (z : Int)], .int .i64 k]) (all := #[.agg #[.int .u64 (y : Int), .int .u64 (z : Int)], .int .i64 k]) (by simp only [List.map_toArray, List.map_cons, List.map_nil]; rw [e59, e61]) (by simp) (fun av W => by kernel_rfl), Oper.upon_enter]
  refine (h.c.cut w).mono ?_
  rintro e w' ⟨rfl, hb'⟩
  show K ((frm2 pds T l).put o.dst _) w'
  rw [hd, frm2_put (i := 8) _ rfl (by rw [h.len]; decide)]
  exact hK _ _ (h.next (p := (isJ [5, 7] (.agg #[.int .u64 (y3 : Int), .int .u64 (z3 : Int)])).2) rfl (two_did (dep_of (a := 5) (by kernel_rfl) h.dep) (dep_of (a := 7) (by kernel_rfl) h.dep)) hb'.size (pG_new (by decide) (by decide) d13 d16 hb' (fun e => by cases e) (by rw [h.len]; decide)) rfl)

set_option maxRecDepth 100000 in
set_option maxHeartbeats 1000000 in
theorem st9_9 {n0 m gN g4 : Nat} {x : Value × Value} {st : List (Nat × Int)} {r : Nat} {k : Int} {y z y3 z3 : Nat} {pv : Option Addr} {cv : Nat} {WB w : World} {T l : List Value} {L : Array Bool} (Q : Exit → Act → World → Prop) (h : PT n0 m gN g4 x st r k y z y3 z3 pv cv WB T L l w 9) : wpOp Try.prog reg9.1 Q 9 (SJ (pR n0 m gN g4 x st r k y z y3 z3 pv cv WB) 17 pds T (L.setIfInBounds 9 true)) (frm2 pds T l) w := by
  obtain ⟨o, ho, hd, hg, hop⟩ := op9_9
  exact h.same ho hd rfl hg [] rfl (fun j hj => by cases hj) (by decide) (by decide) (by decide) (ex_field_n hop ((h.old (s := 3) rfl (by decide)).trans h.c.t3))

set_option maxRecDepth 100000 in
set_option maxHeartbeats 1000000 in
theorem st9_10 {n0 m gN g4 : Nat} {x : Value × Value} {st : List (Nat × Int)} {r : Nat} {k : Int} {y z y3 z3 : Nat} {pv : Option Addr} {cv : Nat} {WB w : World} {T l : List Value} {L : Array Bool} (Q : Exit → Act → World → Prop) (h : PT n0 m gN g4 x st r k y z y3 z3 pv cv WB T L l w 10) : wpOp Try.prog reg9.1 Q 10 (SJ (pR n0 m gN g4 x st r k y z y3 z3 pv cv WB) 17 pds T (L.setIfInBounds 10 true)) (frm2 pds T l) w := by
  obtain ⟨o, ho, hd, hg, hop⟩ := op9_10
  exact h.same ho hd rfl hg [] rfl (fun j hj => by cases hj) (by decide) (by decide) (by decide) (ex_load_i hop ((h.new (s := 63) (j := 9) rfl (by decide)).trans (h.rw.gotJ 9 (dep_of (a := 9) (by kernel_rfl) h.dep) rfl)) (h.cell (by decide) h.c.cn))

set_option maxRecDepth 100000 in
set_option maxHeartbeats 1000000 in
theorem st9_11 {n0 m gN g4 : Nat} {x : Value × Value} {st : List (Nat × Int)} {r : Nat} {k : Int} {y z y3 z3 : Nat} {pv : Option Addr} {cv : Nat} {WB w : World} {T l : List Value} {L : Array Bool} (Q : Exit → Act → World → Prop) (h : PT n0 m gN g4 x st r k y z y3 z3 pv cv WB T L l w 11) : wpOp Try.prog reg9.1 Q 11 (SJ (pR n0 m gN g4 x st r k y z y3 z3 pv cv WB) 17 pds T (L.setIfInBounds 11 true)) (frm2 pds T l) w := by
  obtain ⟨o, ho, hd, hg, hop⟩ := op9_11
  exact h.same ho hd rfl hg [8, 10] rfl (two_did (dep_of (a := 8) (by kernel_rfl) h.dep) (dep_of (a := 10) (by kernel_rfl) h.dep)) (by decide) (by decide) (by decide) (ex_build_sized hop ((h.new (s := 62) (j := 8) rfl (by decide)).trans (h.rw.gotJ 8 (dep_of (a := 8) (by kernel_rfl) h.dep) rfl)) ((h.new (s := 64) (j := 10) rfl (by decide)).trans (h.rw.gotJ 10 (dep_of (a := 10) (by kernel_rfl) h.dep) rfl)))

set_option maxRecDepth 100000 in
set_option maxHeartbeats 1000000 in
theorem st9_12 {n0 m gN g4 : Nat} {x : Value × Value} {st : List (Nat × Int)} {r : Nat} {k : Int} {y z y3 z3 : Nat} {pv : Option Addr} {cv : Nat} {WB w : World} {T l : List Value} {L : Array Bool} (Q : Exit → Act → World → Prop) (h : PT n0 m gN g4 x st r k y z y3 z3 pv cv WB T L l w 12) : wpOp Try.prog reg9.1 Q 12 (SJ (pR n0 m gN g4 x st r k y z y3 z3 pv cv WB) 17 pds T (L.setIfInBounds 12 true)) (frm2 pds T l) w := by
  obtain ⟨o, ho, hd, hg, hop⟩ := op9_12
  obtain ⟨d13, d16, hb⟩ := h.ahead (by decide)
  have hb' : Below w.heap.size w (w.alloc (.cells #[.int .u64 (y3 : Int), .int .u64 (z3 : Int), .int .i64 k] 111)) := (Below.refl _ _).alloc (Nat.le_refl _) _
  exact h.value ho hd rfl hg (ex_slice_sized hop ((h.new (s := 65) (j := 11) rfl (by decide)).trans (h.rw.gotJ 11 (dep_of (a := 11) (by kernel_rfl) h.dep) rfl))) (h.next (p := (anyJ [11]).2) rfl (fun j hj => by simp only [List.mem_cons, List.not_mem_nil, or_false] at hj; subst hj; exact (dep_of (a := 11) (by kernel_rfl) h.dep)) hb'.size (pG_new (by decide) (by decide) d13 d16 hb' (fun _ => ⟨w.heap.size, rfl, hb.size, heap_new w _⟩) (by rw [h.len]; decide)) trivial)

set_option maxRecDepth 100000 in
set_option maxHeartbeats 1000000 in
theorem st9_13 {n0 m gN g4 : Nat} {x : Value × Value} {st : List (Nat × Int)} {r : Nat} {k : Int} {y z y3 z3 : Nat} {pv : Option Addr} {cv : Nat} {WB w : World} {T l : List Value} {L : Array Bool} (Q : Exit → Act → World → Prop) (h : PT n0 m gN g4 x st r k y z y3 z3 pv cv WB T L l w 13) : wpOp Try.prog reg9.1 Q 13 (SJ (pR n0 m gN g4 x st r k y z y3 z3 pv cv WB) 17 pds T (L.setIfInBounds 13 true)) (frm2 pds T l) w := by
  obtain ⟨o, ho, hd, hg, hop⟩ := op9_13
  obtain ⟨d13, d16, hb⟩ := h.ahead (by decide)
  have d12 := (dep_of (a := 12) (by kernel_rfl) h.dep)
  obtain ⟨gS, eS, hgS, hS⟩ := (h.rw.glob.1 d13).2 d12
  have hx := (h.new (s := 66) (j := 12) rfl (by decide)).trans eS
  obtain ⟨i0, hi0, hz0, hz1, hz2⟩ := info_parts infoSized
  have hlen := h.c.len
  have lm : m < WB.heap.size := lt_of_block h.c.hm
  have hn0 : n0 ≤ WB.heap.size := Nat.le_trans h.c.n0m (Nat.le_of_lt lm)
  refine wpOp_step ho fun K hK => ?_
  rw [if_pos (wanted_un hg)]
  refine wp_append_lies w (.tmp 58) (.tmp 66) 106 hop n0 111 i0 (.agg #[.int .u64 0, .int .u64 0, .int .i64 0]) 3 24 Try.underlying106 hi0 hz0 hz1 hz2 rfl (by decide) _ st.length (stkCells st) ((h.new (s := 58) (j := 4) rfl (by decide)).trans (h.rw.gotJ 4 (dep_of (a := 4) (by kernel_rfl) h.dep) rfl)) (own_below h.c.own hb) ⟨gS, 0, none⟩ 1 1 [.int .u64 (y3 : Int), .int .u64 (z3 : Int), .int .i64 k] hx rfl (World.news_of_block hS) (three_one _ _ _) (by omega) (by unfold maxLen; omega) (by omega) (Nat.le_trans hn0 hb.size) _ rfl ?_
  intro g cap w2 hown hgrow hat hlt
  rw [hd, frm2_put (i := 13) _ rfl (by rw [h.len]; decide)]
  have hgm : g ≠ m := by
    intro e
    rcases hat with q | q
    · exact h.c.nm (by rw [q, e])
    · have := hb.size; omega
  have hk : w2.heap[m]? = WB.heap[m]? := (hgrow.block m (Nat.lt_of_lt_of_le lm hb.size) (fun e => h.c.nm e.symm)).trans (hb.block m lm)
  have hbl : Below n0 WB w2 := (hb.mono hn0).grown hgrow (Nat.le_trans hn0 hb.size) (fun j e => by obtain ⟨cur, -, q⟩ := own_type h.c.own e; exact q)
  refine hK _ _ (h.next (p := (anyJ [4, 12]).2) rfl (two_did (dep_of (a := 4) (by kernel_rfl) h.dep) d12) hgrow.size (fun _ => ⟨fun hd' => ?_, fun _ _ => ?_, fun hd' => ?_⟩) trivial)
  · rw [did_same (by rw [h.size]; decide)] at hd'; cases hd'
  · rw [nth_same (by rw [h.len]; decide)]
    exact ⟨g, cap, rfl, by rw [h.c.e3]; exact hown, hgm, hk, hbl⟩
  · rw [did_other (by decide), d16] at hd'; cases hd'

set_option maxRecDepth 100000 in
set_option maxHeartbeats 1000000 in
theorem st9_14 {n0 m gN g4 : Nat} {x : Value × Value} {st : List (Nat × Int)} {r : Nat} {k : Int} {y z y3 z3 : Nat} {pv : Option Addr} {cv : Nat} {WB w : World} {T l : List Value} {L : Array Bool} (Q : Exit → Act → World → Prop) (h : PT n0 m gN g4 x st r k y z y3 z3 pv cv WB T L l w 14) : wpOp Try.prog reg9.1 Q 14 (SJ (pR n0 m gN g4 x st r k y z y3 z3 pv cv WB) 17 pds T (L.setIfInBounds 14 true)) (frm2 pds T l) w := by
  obtain ⟨o, ho, hd, hg, hop⟩ := op9_14
  exact h.same ho hd rfl hg [] rfl (fun j hj => by cases hj) (by decide) (by decide) (by decide) (ex_nilCheck hop ((h.new (s := 54) (j := 0) rfl (by decide)).trans (h.rw.gotJ 0 (dep_of (a := 0) (by kernel_rfl) h.dep) rfl)))

set_option maxRecDepth 100000 in
set_option maxHeartbeats 1000000 in
theorem st9_15 {n0 m gN g4 : Nat} {x : Value × Value} {st : List (Nat × Int)} {r : Nat} {k : Int} {y z y3 z3 : Nat} {pv : Option Addr} {cv : Nat} {WB w : World} {T l : List Value} {L : Array Bool} (Q : Exit → Act → World → Prop) (h : PT n0 m gN g4 x st r k y z y3 z3 pv cv WB T L l w 15) : wpOp Try.prog reg9.1 Q 15 (SJ (pR n0 m gN g4 x st r k y z y3 z3 pv cv WB) 17 pds T (L.setIfInBounds 15 true)) (frm2 pds T l) w := by
  obtain ⟨o, ho, hd, hg, hop⟩ := op9_15
  exact h.same ho hd rfl hg [] rfl (fun j hj => by cases hj) (by decide) (by decide) (by decide) (ex_field_m hop ((h.new (s := 68) (j := 14) rfl (by decide)).trans (h.rw.gotJ 14 (dep_of (a := 14) (by kernel_rfl) h.dep) rfl)))

set_option maxRecDepth 100000 in
set_option maxHeartbeats 1000000 in
theorem st9_16 {n0 m gN g4 : Nat} {x : Value × Value} {st : List (Nat × Int)} {r : Nat} {k : Int} {y z y3 z3 : Nat} {pv : Option Addr} {cv : Nat} {WB w : World} {T l : List Value} {L : Array Bool} (Q : Exit → Act → World → Prop) (h : PT n0 m gN g4 x st r k y z y3 z3 pv cv WB T L l w 16) : wpOp Try.prog reg9.1 Q 16 (SJ (pR n0 m gN g4 x st r k y z y3 z3 pv cv WB) 17 pds T (L.setIfInBounds 16 true)) (frm2 pds T l) w := by
  obtain ⟨o, ho, hd, hg, hop⟩ := op9_16
  have d13 := (dep_of (a := 13) (by kernel_rfl) h.dep)
  obtain ⟨g, cap, e13, hown, hgm, hk, hbl⟩ := h.rw.glob.2.1 d13 h.non
  have hy := (h.new (s := 67) (j := 13) rfl (by decide)).trans e13
  have hm2 := hk.trans h.c.hm
  rw [e13] at hown
  have hSt := Stk.push (a := r) (k := k) h.c.hm hk h.c.n0m h.c.len hown hgm
  have hb2 : Below n0 WB (w.setCell ⟨m, 2, none⟩ (.slice (some ⟨g, 0, none⟩) (st.length + 1) cap)) := hbl.setCell h.c.n0m _
  refine wpOp_step ho fun K hK => ?_
  rw [if_pos (wanted_un hg)]
  unfold Oper.wp
  rw [ex_store_sized hop ((h.new (s := 69) (j := 15) rfl (by decide)).trans (h.rw.gotJ 15 (dep_of (a := 15) (by kernel_rfl) h.dep) rfl)) hy (u := .slice pv st.length cv) (by simp [World.cell?, hm2]) (by simp [World.frozen?, hm2]), Oper.upon_skip, hd]
  have hput : (frm2 pds T l).put none undef = frm2 pds T (l.set 16 undef) := by
    refine congrArg (fun x => (⟨x, []⟩ : Act)) ?_
    refine congrArg List.toArray (List.map_congr_left fun s _ => ?_)
    unfold pickF
    split
    · rename_i j hj
      exact (nth_other (fun e => by have := slotOf_spec hj; rw [← e] at this; cases this)).symm
    · rfl
  rw [hput]
  refine hK _ _ (h.next (p := (anyJ [13]).2) rfl (fun j hj => by simp only [List.mem_cons, List.not_mem_nil, or_false] at hj; subst hj; exact d13) (by simp) (fun _ => ⟨fun hd' => ?_, fun _ hd' => ?_, fun _ => ⟨hSt, hb2⟩⟩) trivial)
  · rw [did_other (by decide), d13] at hd'; cases hd'
  · rw [did_same (by rw [h.size]; decide)] at hd'; cases hd'



set_option maxRecDepth 100000 in
set_option maxHeartbeats 4000000 in
theorem push_region (n0 m gN g4 : Nat) (x : Value × Value) (st : List (Nat × Int)) (n : Nat) (op k c2 c3 c4 c5 : Int) (WB : World) (HS : Hid (Stk WB n0 m x st)) (HN : Hid (NodeAt WB gN op k c2 c3 c4 c5)) (H4 : Hid (WB.heap[g4]? = some (.cells #[.int .u64 ((n / B : Nat) : Int), .int .u64 ((n % B : Nat) : Int)] 59 (0, 0))))
    (HL : Hid (n < B * B)) (HLEN : Hid (st.length < 100000))
    (s1 s2 s5 s6 s7 s8 s9 s10 s11 s12 s13 s14 s15 s16 s17 s18 s19 s20 s21 s22 s23 s24 s25 s26 s27 s28 s29 s30 s31 s32 s33 s34 s35 s36 s37 s38 s39 s40 s41 s42 s43 s44 s45 s46 s47 s48 s49 s50 s51 s52 s53 s54 s55 s56 s57 s58 s59 s60 s61 s62 s63 s64 s65 s66 s67 s68 s69 : Value) (Q : Exit → Act → World → Prop)
    (hexit : ∀ (u54 u55 u56 u57 u58 u59 u60 u61 u62 u63 u64 u65 u66 u67 u68 u69 : Value) (w' : World), Stk w' n0 m x (st ++ [(n % 2 ^ sh k, k)]) → Below n0 WB w' → Q .normal ⟨#[.pointer (some ⟨m, 0, none⟩), s1, s2, .pointer (some ⟨gN, 0, none⟩), .pointer (some ⟨g4, 0, none⟩), s5, s6, s7, s8, s9, s10, s11, s12, s13, s14, s15, s16, s17, s18, s19, s20, s21, s22, s23, s24, s25, s26, s27, s28, s29, s30, s31, s32, s33, s34, s35, s36, s37, s38, s39, s40, s41, s42, s43, s44, s45, s46, s47, s48, s49, s50, s51, s52, s53, u54, u55, u56, u57, u58, u59, u60, u61, u62, u63, u64, u65, u66, u67, u68, u69], []⟩ w') :
    Code.wp Try.prog ((Try.f40.body.bind (findRegion 9)).getD .skip) Q ⟨#[.pointer (some ⟨m, 0, none⟩), s1, s2, .pointer (some ⟨gN, 0, none⟩), .pointer (some ⟨g4, 0, none⟩), s5, s6, s7, s8, s9, s10, s11, s12, s13, s14, s15, s16, s17, s18, s19, s20, s21, s22, s23, s24, s25, s26, s27, s28, s29, s30, s31, s32, s33, s34, s35, s36, s37, s38, s39, s40, s41, s42, s43, s44, s45, s46, s47, s48, s49, s50, s51, s52, s53, s54, s55, s56, s57, s58, s59, s60, s61, s62, s63, s64, s65, s66, s67, s68, s69], []⟩ WB := by
  have HC : ∀ W, Calls Try.prog 39 #[numV n, .int .i64 k] W (RetNum W (n % 2 ^ sh k)) := fun W => numCut_any n k W HL.out
  generalize n % 2 ^ sh k = r at *
  obtain ⟨y, z, he, ey, ez⟩ := numV_parts n
  obtain ⟨y3, z3, he3, ey3, ez3⟩ := numV_parts r
  unfold RetNum at HC
  rw [he, he3] at HC
  have h4 := H4.out
  rw [← ey, ← ez] at h4
  have hN := HN.out
  unfold NodeAt at hN
  obtain ⟨v, h1, h2, h3, h5, h6⟩ := HS.out
  obtain ⟨pv, cv, rfl, hlv⟩ : ∃ p c, v = .slice p st.length c ∧ st.length ≤ maxLen := by
    obtain ⟨-, q | ⟨g, cap, cur, q1, q2, q3, q4, q5, q6⟩⟩ := h2
    · exact ⟨none, 0, by rw [q.1, q.2], by rw [q.2]; exact Nat.zero_le _⟩
    · exact ⟨_, _, q1, by omega⟩
  have c : PC n0 m gN g4 x st r k y z y3 z3 pv cv WB [.pointer (some ⟨m, 0, none⟩), s1, s2, .pointer (some ⟨gN, 0, none⟩), .pointer (some ⟨g4, 0, none⟩), s5, s6, s7, s8, s9, s10, s11, s12, s13, s14, s15, s16, s17, s18, s19, s20, s21, s22, s23, s24, s25, s26, s27, s28, s29, s30, s31, s32, s33, s34, s35, s36, s37, s38, s39, s40, s41, s42, s43, s44, s45, s46, s47, s48, s49, s50, s51, s52, s53, s54, s55, s56, s57, s58, s59, s60, s61, s62, s63, s64, s65, s66, s67, s68, s69] := { tl := rfl, t0 := rfl, t3 := rfl, t4 := rfl, hm := h1, own := h2, nm := h3, n0m := h5, len := HLEN.out, cn := by simp [World.cell?, hN], ca := by simp [World.cell?, h4], cb := by simp [World.cell?, h4], cut := HC, e3 := by show _ = _; rw [ey3, ez3]; rfl }
  have h0 : (⟨#[.pointer (some ⟨m, 0, none⟩), s1, s2, .pointer (some ⟨gN, 0, none⟩), .pointer (some ⟨g4, 0, none⟩), s5, s6, s7, s8, s9, s10, s11, s12, s13, s14, s15, s16, s17, s18, s19, s20, s21, s22, s23, s24, s25, s26, s27, s28, s29, s30, s31, s32, s33, s34, s35, s36, s37, s38, s39, s40, s41, s42, s43, s44, s45, s46, s47, s48, s49, s50, s51, s52, s53, s54, s55, s56, s57, s58, s59, s60, s61, s62, s63, s64, s65, s66, s67, s68, s69], []⟩ : Act) = frm2 pds [.pointer (some ⟨m, 0, none⟩), s1, s2, .pointer (some ⟨gN, 0, none⟩), .pointer (some ⟨g4, 0, none⟩), s5, s6, s7, s8, s9, s10, s11, s12, s13, s14, s15, s16, s17, s18, s19, s20, s21, s22, s23, s24, s25, s26, s27, s28, s29, s30, s31, s32, s33, s34, s35, s36, s37, s38, s39, s40, s41, s42, s43, s44, s45, s46, s47, s48, s49, s50, s51, s52, s53, s54, s55, s56, s57, s58, s59, s60, s61, s62, s63, s64, s65, s66, s67, s68, s69] [s54, s55, s56, s57, s58, s59, s60, s61, s62, s63, s64, s65, s66, s67, s68, s69, undef] := rfl
  have hend : ∀ f : Nat → Value, frm2 pds [.pointer (some ⟨m, 0, none⟩), s1, s2, .pointer (some ⟨gN, 0, none⟩), .pointer (some ⟨g4, 0, none⟩), s5, s6, s7, s8, s9, s10, s11, s12, s13, s14, s15, s16, s17, s18, s19, s20, s21, s22, s23, s24, s25, s26, s27, s28, s29, s30, s31, s32, s33, s34, s35, s36, s37, s38, s39, s40, s41, s42, s43, s44, s45, s46, s47, s48, s49, s50, s51, s52, s53, s54, s55, s56, s57, s58, s59, s60, s61, s62, s63, s64, s65, s66, s67, s68, s69] ((List.range 17).map f) = ⟨#[.pointer (some ⟨m, 0, none⟩), s1, s2, .pointer (some ⟨gN, 0, none⟩), .pointer (some ⟨g4, 0, none⟩), s5, s6, s7, s8, s9, s10, s11, s12, s13, s14, s15, s16, s17, s18, s19, s20, s21, s22, s23, s24, s25, s26, s27, s28, s29, s30, s31, s32, s33, s34, s35, s36, s37, s38, s39, s40, s41, s42, s43, s44, s45, s46, s47, s48, s49, s50, s51, s52, s53, f 0, f 1, f 2, f 3, f 4, f 5, f 6, f 7, f 8, f 9, f 10, f 11, f 12, f 13, f 14, f 15], []⟩ := fun f => rfl
  have hex : ∀ (f : Nat → Value) (w' : World), Stk w' n0 m x (st ++ [(r, k)]) → Below n0 WB w' → Q .normal ⟨#[.pointer (some ⟨m, 0, none⟩), s1, s2, .pointer (some ⟨gN, 0, none⟩), .pointer (some ⟨g4, 0, none⟩), s5, s6, s7, s8, s9, s10, s11, s12, s13, s14, s15, s16, s17, s18, s19, s20, s21, s22, s23, s24, s25, s26, s27, s28, s29, s30, s31, s32, s33, s34, s35, s36, s37, s38, s39, s40, s41, s42, s43, s44, s45, s46, s47, s48, s49, s50, s51, s52, s53, f 0, f 1, f 2, f 3, f 4, f 5, f 6, f 7, f 8, f 9, f 10, f 11, f 12, f 13, f 14, f 15], []⟩ w' := fun f w' a b => hexit (f 0) (f 1) (f 2) (f 3) (f 4) (f 5) (f 6) (f 7) (f 8) (f 9) (f 10) (f 11) (f 12) (f 13) (f 14) (f 15) w' a b
  rw [h0]
  clear h0 hexit HC he he3 h1 h2 h3 h5 h6 h4 hN
  generalize [.pointer (some ⟨m, 0, none⟩), s1, s2, .pointer (some ⟨gN, 0, none⟩), .pointer (some ⟨g4, 0, none⟩), s5, s6, s7, s8, s9, s10, s11, s12, s13, s14, s15, s16, s17, s18, s19, s20, s21, s22, s23, s24, s25, s26, s27, s28, s29, s30, s31, s32, s33, s34, s35, s36, s37, s38, s39, s40, s41, s42, s43, s44, s45, s46, s47, s48, s49, s50, s51, s52, s53, s54, s55, s56, s57, s58, s59, s60, s61, s62, s63, s64, s65, s66, s67, s68, s69] = T at *
  rw [reg9.2]
  show Code.wp Try.prog (.region 9 reg9.1 true) Q _ WB
  refine wp_region_inv2 (by kernel_rfl) (SJ (pR n0 m gN g4 x st r k y z y3 z3 pv cv WB) 17 pds T) ?_ ?_ ?_ ?_
  · exact ⟨_, rfl, by rw [ops9_size]; simp, rfl, RW.init (fun i => did_none _ _) (Nat.le_refl _) ⟨fun _ => ⟨below_drewN (Below.refl _ _) 1, fun hd => (by rw [did_none] at hd; cases hd)⟩, fun hd => (by rw [did_none] at hd; cases hd), fun hd => (by rw [did_none] at hd; cases hd)⟩⟩
  · rintro L a w1 i hL hi hnd hdep ⟨l, hl, hLn, rfl, hI⟩
    have ht : PT n0 m gN g4 x st r k y z y3 z3 pv cv WB T L l w1 i := ⟨c, hl, hLn, hi, hnd, hI, hdep⟩
    match i, hi with
    | 0, _ => exact st9_0 Q ht
    | 1, _ => exact st9_1 Q ht
    | 2, _ => exact st9_2 Q ht
    | 3, _ => exact st9_3 Q ht
    | 4, _ => exact st9_4 Q ht
    | 5, _ => exact st9_5 Q ht
    | 6, _ => exact st9_6 Q ht
    | 7, _ => exact st9_7 Q ht
    | 8, _ => exact st9_8 Q ht
    | 9, _ => exact st9_9 Q ht
    | 10, _ => exact st9_10 Q ht
    | 11, _ => exact st9_11 Q ht
    | 12, _ => exact st9_12 Q ht
    | 13, _ => exact st9_13 Q ht
    | 14, _ => exact st9_14 Q ht
    | 15, _ => exact st9_15 Q ht
    | 16, _ => exact st9_16 Q ht
    | i + 17, hi => exact absurd hi (by rw [ops9_size]; omega)
  · exact reg9_back
  · rintro L a w1 hall ⟨l, hl, hLn, rfl, hI⟩
    have h1 := hend (nth l)
    rw [list_nth hl] at h1
    rw [h1]
    have hB := hI.glob.2.2 (hall 16 (by rw [ops9_size]; decide))
    exact hex (nth l) w1 hB.1 hB.2

end Go.Proofs.Ytehcclcokgmplaa
