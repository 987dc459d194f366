/-
  The drawn regions of the law NumBits.
-/
import Derived.Test.YtfalhemeiengcaaDoorBitsY
namespace Go.Proofs.YtfalhemeiengcaaDoor
open Go.RowKit Go.Maps

abbrev bitsAD : List (Option Nat) := [some 9, some 10, some 11, some 12, some 13, some 14, some 15, some 16, some 17, some 18, some 19, some 20, some 21, some 22, some 23, some 24, some 25, some 26, some 27, some 28, some 29, some 30, some 31, some 32, some 33, some 34, some 35, some 36, some 37, some 38, some 39, some 40, some 41, some 42, some 43, some 44, some 45, some 46, some 47, some 48, some 49]
noncomputable def bitsAO : { c : Array Oper // (Tryd.f5.body.bind (findRegion 1)) = some (.region 1 c true) } := ⟨_, rfl⟩
theorem bitsAO_size : bitsAO.1.size = 41 := rfl
theorem bitsAO0 : ∃ o, bitsAO.1[0]? = some o ∧ o.dst = some 9 ∧ o.guard = none ∧ o.op = Go.Op.load 24 (Go.Operand.tmp 4) := ⟨_, rfl, rfl, rfl, rfl⟩
theorem bitsAO1 : ∃ o, bitsAO.1[1]? = some o ∧ o.dst = some 10 ∧ o.guard = none ∧ o.op = Go.Op.load 24 (Go.Operand.tmp 5) := ⟨_, rfl, rfl, rfl, rfl⟩
theorem bitsAO2 : ∃ o, bitsAO.1[2]? = some o ∧ o.dst = some 11 ∧ o.guard = none ∧ o.op = Go.Op.call { callee := Go.Callee.value (Go.Operand.func 16), args := #[Go.Operand.tmp 9, Go.Operand.tmp 10], argTypes := #[24, 24] } := ⟨_, rfl, rfl, rfl, rfl⟩
theorem bitsAO3 : ∃ o, bitsAO.1[3]? = some o ∧ o.dst = some 12 ∧ o.guard = none ∧ o.op = Go.Op.load 24 (Go.Operand.tmp 4) := ⟨_, rfl, rfl, rfl, rfl⟩
theorem bitsAO4 : ∃ o, bitsAO.1[4]? = some o ∧ o.dst = some 13 ∧ o.guard = none ∧ o.op = Go.Op.load 24 (Go.Operand.tmp 5) := ⟨_, rfl, rfl, rfl, rfl⟩
theorem bitsAO5 : ∃ o, bitsAO.1[5]? = some o ∧ o.dst = some 14 ∧ o.guard = none ∧ o.op = Go.Op.call { callee := Go.Callee.value (Go.Operand.func 20), args := #[Go.Operand.tmp 12, Go.Operand.tmp 13], argTypes := #[24, 24] } := ⟨_, rfl, rfl, rfl, rfl⟩
theorem bitsAO6 : ∃ o, bitsAO.1[6]? = some o ∧ o.dst = some 15 ∧ o.guard = none ∧ o.op = Go.Op.binOp Go.BinOp.neq 3 (Go.Operand.tmp 11) (Go.Operand.tmp 14) 3 := ⟨_, rfl, rfl, rfl, rfl⟩
theorem bitsAO7 : ∃ o, bitsAO.1[7]? = some o ∧ o.dst = some 16 ∧ o.guard = none ∧ o.op = Go.Op.move (Go.Operand.tmp 15) := ⟨_, rfl, rfl, rfl, rfl⟩
theorem bitsAO8 : ∃ o, bitsAO.1[8]? = some o ∧ o.dst = some 17 ∧ o.guard = some (7, false) ∧ o.op = Go.Op.move (Go.Operand.tmp 2) := ⟨_, rfl, rfl, rfl, rfl⟩
theorem bitsAO9 : ∃ o, bitsAO.1[9]? = some o ∧ o.dst = some 18 ∧ o.guard = some (7, false) ∧ o.op = Go.Op.call { callee := Go.Callee.value (Go.Operand.func 21), args := #[Go.Operand.tmp 17], argTypes := #[3] } := ⟨_, rfl, rfl, rfl, rfl⟩
theorem bitsAO10 : ∃ o, bitsAO.1[10]? = some o ∧ o.dst = some 19 ∧ o.guard = some (7, false) ∧ o.op = Go.Op.move (Go.Operand.tmp 2) := ⟨_, rfl, rfl, rfl, rfl⟩
theorem bitsAO11 : ∃ o, bitsAO.1[11]? = some o ∧ o.dst = some 20 ∧ o.guard = some (7, false) ∧ o.op = Go.Op.call { callee := Go.Callee.value (Go.Operand.func 22), args := #[Go.Operand.tmp 19], argTypes := #[3] } := ⟨_, rfl, rfl, rfl, rfl⟩
theorem bitsAO12 : ∃ o, bitsAO.1[12]? = some o ∧ o.dst = some 21 ∧ o.guard = some (7, false) ∧ o.op = Go.Op.binOp Go.BinOp.neq 24 (Go.Operand.tmp 18) (Go.Operand.tmp 20) 24 := ⟨_, rfl, rfl, rfl, rfl⟩
theorem bitsAO13 : ∃ o, bitsAO.1[13]? = some o ∧ o.dst = some 22 ∧ o.guard = none ∧ o.op = Go.Op.pick (Go.Operand.tmp 16) (Go.Operand.const (Go.Value.bool true)) (Go.Operand.tmp 21) := ⟨_, rfl, rfl, rfl, rfl⟩
theorem bitsAO14 : ∃ o, bitsAO.1[14]? = some o ∧ o.dst = some 23 ∧ o.guard = none ∧ o.op = Go.Op.move (Go.Operand.tmp 22) := ⟨_, rfl, rfl, rfl, rfl⟩
theorem bitsAO15 : ∃ o, bitsAO.1[15]? = some o ∧ o.dst = some 24 ∧ o.guard = some (14, false) ∧ o.op = Go.Op.load 24 (Go.Operand.tmp 4) := ⟨_, rfl, rfl, rfl, rfl⟩
theorem bitsAO16 : ∃ o, bitsAO.1[16]? = some o ∧ o.dst = some 25 ∧ o.guard = some (14, false) ∧ o.op = Go.Op.move (Go.Operand.tmp 2) := ⟨_, rfl, rfl, rfl, rfl⟩
theorem bitsAO17 : ∃ o, bitsAO.1[17]? = some o ∧ o.dst = some 26 ∧ o.guard = some (14, false) ∧ o.op = Go.Op.call { callee := Go.Callee.value (Go.Operand.func 11), args := #[Go.Operand.tmp 24, Go.Operand.tmp 25], argTypes := #[24, 3] } := ⟨_, rfl, rfl, rfl, rfl⟩
theorem bitsAO18 : ∃ o, bitsAO.1[18]? = some o ∧ o.dst = some 27 ∧ o.guard = some (14, false) ∧ o.op = Go.Op.load 24 (Go.Operand.tmp 4) := ⟨_, rfl, rfl, rfl, rfl⟩
theorem bitsAO19 : ∃ o, bitsAO.1[19]? = some o ∧ o.dst = some 28 ∧ o.guard = some (14, false) ∧ o.op = Go.Op.move (Go.Operand.tmp 2) := ⟨_, rfl, rfl, rfl, rfl⟩
theorem bitsAO20 : ∃ o, bitsAO.1[20]? = some o ∧ o.dst = some 29 ∧ o.guard = some (14, false) ∧ o.op = Go.Op.call { callee := Go.Callee.value (Go.Operand.func 23), args := #[Go.Operand.tmp 27, Go.Operand.tmp 28], argTypes := #[24, 3] } := ⟨_, rfl, rfl, rfl, rfl⟩
theorem bitsAO21 : ∃ o, bitsAO.1[21]? = some o ∧ o.dst = some 30 ∧ o.guard = some (14, false) ∧ o.op = Go.Op.binOp Go.BinOp.neq 24 (Go.Operand.tmp 26) (Go.Operand.tmp 29) 24 := ⟨_, rfl, rfl, rfl, rfl⟩
theorem bitsAO22 : ∃ o, bitsAO.1[22]? = some o ∧ o.dst = some 31 ∧ o.guard = none ∧ o.op = Go.Op.pick (Go.Operand.tmp 23) (Go.Operand.const (Go.Value.bool true)) (Go.Operand.tmp 30) := ⟨_, rfl, rfl, rfl, rfl⟩
theorem bitsAO23 : ∃ o, bitsAO.1[23]? = some o ∧ o.dst = some 32 ∧ o.guard = none ∧ o.op = Go.Op.move (Go.Operand.tmp 31) := ⟨_, rfl, rfl, rfl, rfl⟩
theorem bitsAO24 : ∃ o, bitsAO.1[24]? = some o ∧ o.dst = some 33 ∧ o.guard = some (23, false) ∧ o.op = Go.Op.load 24 (Go.Operand.tmp 4) := ⟨_, rfl, rfl, rfl, rfl⟩
theorem bitsAO25 : ∃ o, bitsAO.1[25]? = some o ∧ o.dst = some 34 ∧ o.guard = some (23, false) ∧ o.op = Go.Op.move (Go.Operand.tmp 2) := ⟨_, rfl, rfl, rfl, rfl⟩
theorem bitsAO26 : ∃ o, bitsAO.1[26]? = some o ∧ o.dst = some 35 ∧ o.guard = some (23, false) ∧ o.op = Go.Op.call { callee := Go.Callee.value (Go.Operand.func 17), args := #[Go.Operand.tmp 33, Go.Operand.tmp 34], argTypes := #[24, 3] } := ⟨_, rfl, rfl, rfl, rfl⟩
theorem bitsAO27 : ∃ o, bitsAO.1[27]? = some o ∧ o.dst = some 36 ∧ o.guard = some (23, false) ∧ o.op = Go.Op.load 24 (Go.Operand.tmp 4) := ⟨_, rfl, rfl, rfl, rfl⟩
theorem bitsAO28 : ∃ o, bitsAO.1[28]? = some o ∧ o.dst = some 37 ∧ o.guard = some (23, false) ∧ o.op = Go.Op.move (Go.Operand.tmp 2) := ⟨_, rfl, rfl, rfl, rfl⟩
theorem bitsAO29 : ∃ o, bitsAO.1[29]? = some o ∧ o.dst = some 38 ∧ o.guard = some (23, false) ∧ o.op = Go.Op.call { callee := Go.Callee.value (Go.Operand.func 24), args := #[Go.Operand.tmp 36, Go.Operand.tmp 37], argTypes := #[24, 3] } := ⟨_, rfl, rfl, rfl, rfl⟩
theorem bitsAO30 : ∃ o, bitsAO.1[30]? = some o ∧ o.dst = some 39 ∧ o.guard = some (23, false) ∧ o.op = Go.Op.binOp Go.BinOp.neq 4 (Go.Operand.tmp 35) (Go.Operand.tmp 38) 4 := ⟨_, rfl, rfl, rfl, rfl⟩
theorem bitsAO31 : ∃ o, bitsAO.1[31]? = some o ∧ o.dst = some 40 ∧ o.guard = none ∧ o.op = Go.Op.pick (Go.Operand.tmp 32) (Go.Operand.const (Go.Value.bool true)) (Go.Operand.tmp 39) := ⟨_, rfl, rfl, rfl, rfl⟩
theorem bitsAO32 : ∃ o, bitsAO.1[32]? = some o ∧ o.dst = some 41 ∧ o.guard = none ∧ o.op = Go.Op.move (Go.Operand.tmp 40) := ⟨_, rfl, rfl, rfl, rfl⟩
theorem bitsAO33 : ∃ o, bitsAO.1[33]? = some o ∧ o.dst = some 42 ∧ o.guard = some (32, false) ∧ o.op = Go.Op.fieldAddr 24 (Go.Operand.tmp 4) 1 := ⟨_, rfl, rfl, rfl, rfl⟩
theorem bitsAO34 : ∃ o, bitsAO.1[34]? = some o ∧ o.dst = some 43 ∧ o.guard = some (32, false) ∧ o.op = Go.Op.load 22 (Go.Operand.tmp 42) := ⟨_, rfl, rfl, rfl, rfl⟩
theorem bitsAO35 : ∃ o, bitsAO.1[35]? = some o ∧ o.dst = some 44 ∧ o.guard = some (32, false) ∧ o.op = Go.Op.call { callee := Go.Callee.value (Go.Operand.func 15), args := #[Go.Operand.tmp 43], argTypes := #[22] } := ⟨_, rfl, rfl, rfl, rfl⟩
theorem bitsAO36 : ∃ o, bitsAO.1[36]? = some o ∧ o.dst = some 45 ∧ o.guard = some (32, false) ∧ o.op = Go.Op.fieldAddr 24 (Go.Operand.tmp 4) 1 := ⟨_, rfl, rfl, rfl, rfl⟩
theorem bitsAO37 : ∃ o, bitsAO.1[37]? = some o ∧ o.dst = some 46 ∧ o.guard = some (32, false) ∧ o.op = Go.Op.load 22 (Go.Operand.tmp 45) := ⟨_, rfl, rfl, rfl, rfl⟩
theorem bitsAO38 : ∃ o, bitsAO.1[38]? = some o ∧ o.dst = some 47 ∧ o.guard = some (32, false) ∧ o.op = Go.Op.call { callee := Go.Callee.value (Go.Operand.func 25), args := #[Go.Operand.tmp 46], argTypes := #[22] } := ⟨_, rfl, rfl, rfl, rfl⟩
theorem bitsAO39 : ∃ o, bitsAO.1[39]? = some o ∧ o.dst = some 48 ∧ o.guard = some (32, false) ∧ o.op = Go.Op.binOp Go.BinOp.neq 24 (Go.Operand.tmp 44) (Go.Operand.tmp 47) 24 := ⟨_, rfl, rfl, rfl, rfl⟩
theorem bitsAO40 : ∃ o, bitsAO.1[40]? = some o ∧ o.dst = some 49 ∧ o.guard = none ∧ o.op = Go.Op.pick (Go.Operand.tmp 41) (Go.Operand.const (Go.Value.bool true)) (Go.Operand.tmp 48) := ⟨_, rfl, rfl, rfl, rfl⟩
theorem bitsAO_back : ∀ (i : Nat) (o : Oper), bitsAO.1[i]? = some o → ∀ e ∈ o.after, Region.binds .any e = true → e.on < i := by
  have h : ((List.range 41).all fun i => (bitsAO.1[i]?.map fun o => o.after.all fun e => !Region.binds .any e || decide (e.on < i)).getD false) = true := by kernel_rfl
  intro i o ho e he hb
  have hi : i < 41 := by
    by_cases q : i < 41
    · exact q
    · rw [Array.getElem?_eq_none (by rw [bitsAO_size]; omega)] at ho; cases ho
  have h2 := List.all_eq_true.1 h i (List.mem_range.2 hi)
  rw [ho] at h2
  simp only [Option.map_some, Option.getD_some, Array.all_eq_true'] at h2
  have h3 := h2 e he
  rw [hb] at h3
  simpa using h3
def bitsAK (gA gB a b : Nat) (k j : Int) : List (List Nat × Tw) := [isJ [] (numV (a)), isJ [] (numV (b)), isJ [] (.int .i64 (cmpI a b)), isJ [] (numV (a)), isJ [] (numV (b)), isJ [] (.int .i64 (cmpI a b)), isJ [] (.bool false), isJ [] (.bool false), isJ [] (.int .i64 k), isJ [] (numV (2 ^ sh k - 1)), isJ [] (.int .i64 k), isJ [] (numV (2 ^ sh k - 1)), isJ [] (.bool false), isJ [] (.bool false), isJ [] (.bool false), isJ [] (numV (a)), isJ [] (.int .i64 k), isJ [] (numV (a % 2 ^ sh k)), isJ [] (numV (a)), isJ [] (.int .i64 k), isJ [] (numV (a % 2 ^ sh k)), isJ [] (.bool false), isJ [] (.bool false), isJ [] (.bool false), isJ [] (numV (a)), isJ [] (.int .i64 k), isJ [] (.bool (decide (a % 2 ^ sh k = a))), isJ [] (numV (a)), isJ [] (.int .i64 k), isJ [] (.bool (decide (a % 2 ^ sh k = a))), isJ [] (.bool false), isJ [] (.bool false), isJ [] (.bool false), isJ [] (.pointer (some ⟨gA, 1, none⟩)), isJ [] (.int .u64 ((a % B : Nat) : Int)), isJ [] (numV (a % B)), isJ [] (.pointer (some ⟨gA, 1, none⟩)), isJ [] (.int .u64 ((a % B : Nat) : Int)), isJ [] (numV (a % B)), isJ [] (.bool false), isJ [] (.bool false)]
theorem bitsAK_free {gA gB a b : Nat} {k j : Int} : KdFree (bitsAK gA gB a b k j) := fun i js P hk B w w' ls v hp => by
  match i, hk with
  | 0, hk => cases hk; exact hp
  | 1, hk => cases hk; exact hp
  | 2, hk => cases hk; exact hp
  | 3, hk => cases hk; exact hp
  | 4, hk => cases hk; exact hp
  | 5, hk => cases hk; exact hp
  | 6, hk => cases hk; exact hp
  | 7, hk => cases hk; exact hp
  | 8, hk => cases hk; exact hp
  | 9, hk => cases hk; exact hp
  | 10, hk => cases hk; exact hp
  | 11, hk => cases hk; exact hp
  | 12, hk => cases hk; exact hp
  | 13, hk => cases hk; exact hp
  | 14, hk => cases hk; exact hp
  | 15, hk => cases hk; exact hp
  | 16, hk => cases hk; exact hp
  | 17, hk => cases hk; exact hp
  | 18, hk => cases hk; exact hp
  | 19, hk => cases hk; exact hp
  | 20, hk => cases hk; exact hp
  | 21, hk => cases hk; exact hp
  | 22, hk => cases hk; exact hp
  | 23, hk => cases hk; exact hp
  | 24, hk => cases hk; exact hp
  | 25, hk => cases hk; exact hp
  | 26, hk => cases hk; exact hp
  | 27, hk => cases hk; exact hp
  | 28, hk => cases hk; exact hp
  | 29, hk => cases hk; exact hp
  | 30, hk => cases hk; exact hp
  | 31, hk => cases hk; exact hp
  | 32, hk => cases hk; exact hp
  | 33, hk => cases hk; exact hp
  | 34, hk => cases hk; exact hp
  | 35, hk => cases hk; exact hp
  | 36, hk => cases hk; exact hp
  | 37, hk => cases hk; exact hp
  | 38, hk => cases hk; exact hp
  | 39, hk => cases hk; exact hp
  | 40, hk => cases hk; exact hp
  | i + 41, hk => simp [bitsAK] at hk
structure bitsAC (gA gB a b : Nat) (k j : Int) (WB : World) (T : List Value) : Prop where
  tl : T.length = 156
  t2 : nth T 2 = .int .i64 k
  t3 : nth T 3 = .int .i64 j
  t4 : nth T 4 = .pointer (some ⟨gA, 0, none⟩)
  t5 : nth T 5 = .pointer (some ⟨gB, 0, none⟩)
  ca0 : WB.cell? ⟨gA, 0, none⟩ = some (.int .u64 ((a / B : Nat) : Int))
  ca1 : WB.cell? ⟨gA, 1, none⟩ = some (.int .u64 ((a % B : Nat) : Int))
  cb0 : WB.cell? ⟨gB, 0, none⟩ = some (.int .u64 ((b / B : Nat) : Int))
  cb1 : WB.cell? ⟨gB, 1, none⟩ = some (.int .u64 ((b % B : Nat) : Int))
  la : a < B * B
  lb : b < B * B
  lj : j ≤ 9223372036854775807
set_option maxRecDepth 100000 in
set_option maxHeartbeats 1000000 in
theorem bitsA_s0 {gA gB a b : Nat} {k j : Int} {WB w : World} {T l : List Value} {L : Array Bool} (Q : Exit → Act → World → Prop) (c : bitsAC gA gB a b k j WB T) (h : VT Tryd.prog bitsAO.1 41 156 bitsAD WB (bitsAK gA gB a b k j) T L l w 0) : wpOp Tryd.prog bitsAO.1 Q 0 (SJ (vaR WB (bitsAK gA gB a b k j)) 41 bitsAD T (L.setIfInBounds 0 true)) (frm2 bitsAD T l) w := by
  obtain ⟨o, ho, hd, hg, hop⟩ := bitsAO0
  have hw := wanted_un (ops := bitsAO.1) (t := (frm2 bitsAD T l).tmps) hg
  exact h.same (v := numV (a)) ho hd rfl hw rfl (ex_load_n hop ((h.old (s := 4) rfl (by decide)).trans c.t4) (h.cell c.ca0) (h.cell c.ca1))

set_option maxRecDepth 100000 in
set_option maxHeartbeats 1000000 in
theorem bitsA_s1 {gA gB a b : Nat} {k j : Int} {WB w : World} {T l : List Value} {L : Array Bool} (Q : Exit → Act → World → Prop) (c : bitsAC gA gB a b k j WB T) (h : VT Tryd.prog bitsAO.1 41 156 bitsAD WB (bitsAK gA gB a b k j) T L l w 1) : wpOp Tryd.prog bitsAO.1 Q 1 (SJ (vaR WB (bitsAK gA gB a b k j)) 41 bitsAD T (L.setIfInBounds 1 true)) (frm2 bitsAD T l) w := by
  obtain ⟨o, ho, hd, hg, hop⟩ := bitsAO1
  have hw := wanted_un (ops := bitsAO.1) (t := (frm2 bitsAD T l).tmps) hg
  exact h.same (v := numV (b)) ho hd rfl hw rfl (ex_load_n hop ((h.old (s := 5) rfl (by decide)).trans c.t5) (h.cell c.cb0) (h.cell c.cb1))

set_option maxRecDepth 100000 in
set_option maxHeartbeats 1000000 in
theorem bitsA_s2 {gA gB a b : Nat} {k j : Int} {WB w : World} {T l : List Value} {L : Array Bool} (Q : Exit → Act → World → Prop) (c : bitsAC gA gB a b k j WB T) (h : VT Tryd.prog bitsAO.1 41 156 bitsAD WB (bitsAK gA gB a b k j) T L l w 2) : wpOp Tryd.prog bitsAO.1 Q 2 (SJ (vaR WB (bitsAK gA gB a b k j)) 41 bitsAD T (L.setIfInBounds 2 true)) (frm2 bitsAD T l) w := by
  obtain ⟨o, ho, hd, hg, hop⟩ := bitsAO2
  have hw := wanted_un (ops := bitsAO.1) (t := (frm2 bitsAD T l).tmps) hg
  have x9 := ((h.new (s := 9) (j := 0) rfl (by decide)).trans (h.rw.gotK 0 (dep_of (a := 0) (by kernel_rfl) h.dep) rfl))
  have x10 := ((h.new (s := 10) (j := 1) rfl (by decide)).trans (h.rw.gotK 1 (dep_of (a := 1) (by kernel_rfl) h.dep) rfl))
  exact h.call (v := .int .i64 (cmpI a b)) ho hd rfl hw rfl (ex_call hop rfl rfl (args := #[numV (a), numV (b)]) (all := #[numV (a), numV (b)]) (by simp only [List.map_toArray, List.map_cons, List.map_nil]; rw [x9, x10]) (by simp) (fun av W => by kernel_rfl)) (numCmp_any a b w c.la c.lb)

set_option maxRecDepth 100000 in
set_option maxHeartbeats 1000000 in
theorem bitsA_s3 {gA gB a b : Nat} {k j : Int} {WB w : World} {T l : List Value} {L : Array Bool} (Q : Exit → Act → World → Prop) (c : bitsAC gA gB a b k j WB T) (h : VT Tryd.prog bitsAO.1 41 156 bitsAD WB (bitsAK gA gB a b k j) T L l w 3) : wpOp Tryd.prog bitsAO.1 Q 3 (SJ (vaR WB (bitsAK gA gB a b k j)) 41 bitsAD T (L.setIfInBounds 3 true)) (frm2 bitsAD T l) w := by
  obtain ⟨o, ho, hd, hg, hop⟩ := bitsAO3
  have hw := wanted_un (ops := bitsAO.1) (t := (frm2 bitsAD T l).tmps) hg
  exact h.same (v := numV (a)) ho hd rfl hw rfl (ex_load_n hop ((h.old (s := 4) rfl (by decide)).trans c.t4) (h.cell c.ca0) (h.cell c.ca1))

set_option maxRecDepth 100000 in
set_option maxHeartbeats 1000000 in
theorem bitsA_s4 {gA gB a b : Nat} {k j : Int} {WB w : World} {T l : List Value} {L : Array Bool} (Q : Exit → Act → World → Prop) (c : bitsAC gA gB a b k j WB T) (h : VT Tryd.prog bitsAO.1 41 156 bitsAD WB (bitsAK gA gB a b k j) T L l w 4) : wpOp Tryd.prog bitsAO.1 Q 4 (SJ (vaR WB (bitsAK gA gB a b k j)) 41 bitsAD T (L.setIfInBounds 4 true)) (frm2 bitsAD T l) w := by
  obtain ⟨o, ho, hd, hg, hop⟩ := bitsAO4
  have hw := wanted_un (ops := bitsAO.1) (t := (frm2 bitsAD T l).tmps) hg
  exact h.same (v := numV (b)) ho hd rfl hw rfl (ex_load_n hop ((h.old (s := 5) rfl (by decide)).trans c.t5) (h.cell c.cb0) (h.cell c.cb1))

set_option maxRecDepth 100000 in
set_option maxHeartbeats 1000000 in
theorem bitsA_s5 {gA gB a b : Nat} {k j : Int} {WB w : World} {T l : List Value} {L : Array Bool} (Q : Exit → Act → World → Prop) (c : bitsAC gA gB a b k j WB T) (h : VT Tryd.prog bitsAO.1 41 156 bitsAD WB (bitsAK gA gB a b k j) T L l w 5) : wpOp Tryd.prog bitsAO.1 Q 5 (SJ (vaR WB (bitsAK gA gB a b k j)) 41 bitsAD T (L.setIfInBounds 5 true)) (frm2 bitsAD T l) w := by
  obtain ⟨o, ho, hd, hg, hop⟩ := bitsAO5
  have hw := wanted_un (ops := bitsAO.1) (t := (frm2 bitsAD T l).tmps) hg
  have x12 := ((h.new (s := 12) (j := 3) rfl (by decide)).trans (h.rw.gotK 3 (dep_of (a := 3) (by kernel_rfl) h.dep) rfl))
  have x13 := ((h.new (s := 13) (j := 4) rfl (by decide)).trans (h.rw.gotK 4 (dep_of (a := 4) (by kernel_rfl) h.dep) rfl))
  exact h.call (v := .int .i64 (cmpI a b)) ho hd rfl hw rfl (ex_call hop rfl rfl (args := #[numV (a), numV (b)]) (all := #[numV (a), numV (b)]) (by simp only [List.map_toArray, List.map_cons, List.map_nil]; rw [x12, x13]) (by simp) (fun av W => by kernel_rfl)) (refCmp_any a b c.la c.lb w)

set_option maxRecDepth 100000 in
set_option maxHeartbeats 1000000 in
theorem bitsA_s6 {gA gB a b : Nat} {k j : Int} {WB w : World} {T l : List Value} {L : Array Bool} (Q : Exit → Act → World → Prop) (c : bitsAC gA gB a b k j WB T) (h : VT Tryd.prog bitsAO.1 41 156 bitsAD WB (bitsAK gA gB a b k j) T L l w 6) : wpOp Tryd.prog bitsAO.1 Q 6 (SJ (vaR WB (bitsAK gA gB a b k j)) 41 bitsAD T (L.setIfInBounds 6 true)) (frm2 bitsAD T l) w := by
  obtain ⟨o, ho, hd, hg, hop⟩ := bitsAO6
  have hw := wanted_un (ops := bitsAO.1) (t := (frm2 bitsAD T l).tmps) hg
  exact h.same (v := .bool false) ho hd rfl hw rfl (ex_neqI hop ((h.new (s := 11) (j := 2) rfl (by decide)).trans (h.rw.gotK 2 (dep_of (a := 2) (by kernel_rfl) h.dep) rfl)) ((h.new (s := 14) (j := 5) rfl (by decide)).trans (h.rw.gotK 5 (dep_of (a := 5) (by kernel_rfl) h.dep) rfl)))

set_option maxRecDepth 100000 in
set_option maxHeartbeats 1000000 in
theorem bitsA_s7 {gA gB a b : Nat} {k j : Int} {WB w : World} {T l : List Value} {L : Array Bool} (Q : Exit → Act → World → Prop) (c : bitsAC gA gB a b k j WB T) (h : VT Tryd.prog bitsAO.1 41 156 bitsAD WB (bitsAK gA gB a b k j) T L l w 7) : wpOp Tryd.prog bitsAO.1 Q 7 (SJ (vaR WB (bitsAK gA gB a b k j)) 41 bitsAD T (L.setIfInBounds 7 true)) (frm2 bitsAD T l) w := by
  obtain ⟨o, ho, hd, hg, hop⟩ := bitsAO7
  have hw := wanted_un (ops := bitsAO.1) (t := (frm2 bitsAD T l).tmps) hg
  exact h.same (v := .bool false) ho hd rfl hw rfl (ex_move hop ((h.new (s := 15) (j := 6) rfl (by decide)).trans (h.rw.gotK 6 (dep_of (a := 6) (by kernel_rfl) h.dep) rfl)))

set_option maxRecDepth 100000 in
set_option maxHeartbeats 1000000 in
theorem bitsA_s8 {gA gB a b : Nat} {k j : Int} {WB w : World} {T l : List Value} {L : Array Bool} (Q : Exit → Act → World → Prop) (c : bitsAC gA gB a b k j WB T) (h : VT Tryd.prog bitsAO.1 41 156 bitsAD WB (bitsAK gA gB a b k j) T L l w 8) : wpOp Tryd.prog bitsAO.1 Q 8 (SJ (vaR WB (bitsAK gA gB a b k j)) 41 bitsAD T (L.setIfInBounds 8 true)) (frm2 bitsAD T l) w := by
  obtain ⟨o, ho, hd, hg, hop⟩ := bitsAO8
  obtain ⟨oj, hj, hdj, -, -⟩ := bitsAO7
  have hw := wanted2_go (T := T) (l := l) hg hj hdj (show slotOf bitsAD 16 = some 7 from rfl) (by rw [h.tl]; decide) (h.rw.gotK 7 (dep_of (a := 7) (by kernel_rfl) h.dep) rfl)
  exact h.same (v := .int .i64 k) ho hd rfl hw rfl (ex_move hop ((h.old (s := 2) rfl (by decide)).trans c.t2))

set_option maxRecDepth 100000 in
set_option maxHeartbeats 1000000 in
theorem bitsA_s9 {gA gB a b : Nat} {k j : Int} {WB w : World} {T l : List Value} {L : Array Bool} (Q : Exit → Act → World → Prop) (c : bitsAC gA gB a b k j WB T) (h : VT Tryd.prog bitsAO.1 41 156 bitsAD WB (bitsAK gA gB a b k j) T L l w 9) : wpOp Tryd.prog bitsAO.1 Q 9 (SJ (vaR WB (bitsAK gA gB a b k j)) 41 bitsAD T (L.setIfInBounds 9 true)) (frm2 bitsAD T l) w := by
  obtain ⟨o, ho, hd, hg, hop⟩ := bitsAO9
  obtain ⟨oj, hj, hdj, -, -⟩ := bitsAO7
  have hw := wanted2_go (T := T) (l := l) hg hj hdj (show slotOf bitsAD 16 = some 7 from rfl) (by rw [h.tl]; decide) (h.rw.gotK 7 (dep_of (a := 7) (by kernel_rfl) h.dep) rfl)
  have x17 := ((h.new (s := 17) (j := 8) rfl (by decide)).trans (h.rw.gotK 8 (dep_of (a := 8) (by kernel_rfl) h.dep) rfl))
  exact h.call (v := numV (2 ^ sh k - 1)) ho hd rfl hw rfl (ex_call hop rfl rfl (args := #[.int .i64 k]) (all := #[.int .i64 k]) (by simp only [List.map_toArray, List.map_cons, List.map_nil]; rw [x17]) (by simp) (fun av W => by kernel_rfl)) (numMask_any k w)

set_option maxRecDepth 100000 in
set_option maxHeartbeats 1000000 in
theorem bitsA_s10 {gA gB a b : Nat} {k j : Int} {WB w : World} {T l : List Value} {L : Array Bool} (Q : Exit → Act → World → Prop) (c : bitsAC gA gB a b k j WB T) (h : VT Tryd.prog bitsAO.1 41 156 bitsAD WB (bitsAK gA gB a b k j) T L l w 10) : wpOp Tryd.prog bitsAO.1 Q 10 (SJ (vaR WB (bitsAK gA gB a b k j)) 41 bitsAD T (L.setIfInBounds 10 true)) (frm2 bitsAD T l) w := by
  obtain ⟨o, ho, hd, hg, hop⟩ := bitsAO10
  obtain ⟨oj, hj, hdj, -, -⟩ := bitsAO7
  have hw := wanted2_go (T := T) (l := l) hg hj hdj (show slotOf bitsAD 16 = some 7 from rfl) (by rw [h.tl]; decide) (h.rw.gotK 7 (dep_of (a := 7) (by kernel_rfl) h.dep) rfl)
  exact h.same (v := .int .i64 k) ho hd rfl hw rfl (ex_move hop ((h.old (s := 2) rfl (by decide)).trans c.t2))

set_option maxRecDepth 100000 in
set_option maxHeartbeats 1000000 in
theorem bitsA_s11 {gA gB a b : Nat} {k j : Int} {WB w : World} {T l : List Value} {L : Array Bool} (Q : Exit → Act → World → Prop) (c : bitsAC gA gB a b k j WB T) (h : VT Tryd.prog bitsAO.1 41 156 bitsAD WB (bitsAK gA gB a b k j) T L l w 11) : wpOp Tryd.prog bitsAO.1 Q 11 (SJ (vaR WB (bitsAK gA gB a b k j)) 41 bitsAD T (L.setIfInBounds 11 true)) (frm2 bitsAD T l) w := by
  obtain ⟨o, ho, hd, hg, hop⟩ := bitsAO11
  obtain ⟨oj, hj, hdj, -, -⟩ := bitsAO7
  have hw := wanted2_go (T := T) (l := l) hg hj hdj (show slotOf bitsAD 16 = some 7 from rfl) (by rw [h.tl]; decide) (h.rw.gotK 7 (dep_of (a := 7) (by kernel_rfl) h.dep) rfl)
  have x19 := ((h.new (s := 19) (j := 10) rfl (by decide)).trans (h.rw.gotK 10 (dep_of (a := 10) (by kernel_rfl) h.dep) rfl))
  exact h.call (v := numV (2 ^ sh k - 1)) ho hd rfl hw rfl (ex_call hop rfl rfl (args := #[.int .i64 k]) (all := #[.int .i64 k]) (by simp only [List.map_toArray, List.map_cons, List.map_nil]; rw [x19]) (by simp) (fun av W => by kernel_rfl)) (refMask_any k w)

set_option maxRecDepth 100000 in
set_option maxHeartbeats 1000000 in
theorem bitsA_s12 {gA gB a b : Nat} {k j : Int} {WB w : World} {T l : List Value} {L : Array Bool} (Q : Exit → Act → World → Prop) (c : bitsAC gA gB a b k j WB T) (h : VT Tryd.prog bitsAO.1 41 156 bitsAD WB (bitsAK gA gB a b k j) T L l w 12) : wpOp Tryd.prog bitsAO.1 Q 12 (SJ (vaR WB (bitsAK gA gB a b k j)) 41 bitsAD T (L.setIfInBounds 12 true)) (frm2 bitsAD T l) w := by
  obtain ⟨o, ho, hd, hg, hop⟩ := bitsAO12
  obtain ⟨oj, hj, hdj, -, -⟩ := bitsAO7
  have hw := wanted2_go (T := T) (l := l) hg hj hdj (show slotOf bitsAD 16 = some 7 from rfl) (by rw [h.tl]; decide) (h.rw.gotK 7 (dep_of (a := 7) (by kernel_rfl) h.dep) rfl)
  exact h.same (v := .bool false) ho hd rfl hw rfl (ex_neqN hop ((h.new (s := 18) (j := 9) rfl (by decide)).trans (h.rw.gotK 9 (dep_of (a := 9) (by kernel_rfl) h.dep) rfl)) ((h.new (s := 20) (j := 11) rfl (by decide)).trans (h.rw.gotK 11 (dep_of (a := 11) (by kernel_rfl) h.dep) rfl)) (rfl))

set_option maxRecDepth 100000 in
set_option maxHeartbeats 1000000 in
theorem bitsA_s13 {gA gB a b : Nat} {k j : Int} {WB w : World} {T l : List Value} {L : Array Bool} (Q : Exit → Act → World → Prop) (c : bitsAC gA gB a b k j WB T) (h : VT Tryd.prog bitsAO.1 41 156 bitsAD WB (bitsAK gA gB a b k j) T L l w 13) : wpOp Tryd.prog bitsAO.1 Q 13 (SJ (vaR WB (bitsAK gA gB a b k j)) 41 bitsAD T (L.setIfInBounds 13 true)) (frm2 bitsAD T l) w := by
  obtain ⟨o, ho, hd, hg, hop⟩ := bitsAO13
  have hw := wanted_un (ops := bitsAO.1) (t := (frm2 bitsAD T l).tmps) hg
  exact h.same (v := .bool false) ho hd rfl hw rfl (ex_pick hop ((h.new (s := 16) (j := 7) rfl (by decide)).trans (h.rw.gotK 7 (dep_of (a := 7) (by kernel_rfl) h.dep) rfl)) ((h.new (s := 21) (j := 12) rfl (by decide)).trans (h.rw.gotK 12 (dep_of (a := 12) (by kernel_rfl) h.dep) rfl)))

set_option maxRecDepth 100000 in
set_option maxHeartbeats 1000000 in
theorem bitsA_s14 {gA gB a b : Nat} {k j : Int} {WB w : World} {T l : List Value} {L : Array Bool} (Q : Exit → Act → World → Prop) (c : bitsAC gA gB a b k j WB T) (h : VT Tryd.prog bitsAO.1 41 156 bitsAD WB (bitsAK gA gB a b k j) T L l w 14) : wpOp Tryd.prog bitsAO.1 Q 14 (SJ (vaR WB (bitsAK gA gB a b k j)) 41 bitsAD T (L.setIfInBounds 14 true)) (frm2 bitsAD T l) w := by
  obtain ⟨o, ho, hd, hg, hop⟩ := bitsAO14
  have hw := wanted_un (ops := bitsAO.1) (t := (frm2 bitsAD T l).tmps) hg
  exact h.same (v := .bool false) ho hd rfl hw rfl (ex_move hop ((h.new (s := 22) (j := 13) rfl (by decide)).trans (h.rw.gotK 13 (dep_of (a := 13) (by kernel_rfl) h.dep) rfl)))

set_option maxRecDepth 100000 in
set_option maxHeartbeats 1000000 in
theorem bitsA_s15 {gA gB a b : Nat} {k j : Int} {WB w : World} {T l : List Value} {L : Array Bool} (Q : Exit → Act → World → Prop) (c : bitsAC gA gB a b k j WB T) (h : VT Tryd.prog bitsAO.1 41 156 bitsAD WB (bitsAK gA gB a b k j) T L l w 15) : wpOp Tryd.prog bitsAO.1 Q 15 (SJ (vaR WB (bitsAK gA gB a b k j)) 41 bitsAD T (L.setIfInBounds 15 true)) (frm2 bitsAD T l) w := by
  obtain ⟨o, ho, hd, hg, hop⟩ := bitsAO15
  obtain ⟨oj, hj, hdj, -, -⟩ := bitsAO14
  have hw := wanted2_go (T := T) (l := l) hg hj hdj (show slotOf bitsAD 23 = some 14 from rfl) (by rw [h.tl]; decide) (h.rw.gotK 14 (dep_of (a := 14) (by kernel_rfl) h.dep) rfl)
  exact h.same (v := numV (a)) ho hd rfl hw rfl (ex_load_n hop ((h.old (s := 4) rfl (by decide)).trans c.t4) (h.cell c.ca0) (h.cell c.ca1))

set_option maxRecDepth 100000 in
set_option maxHeartbeats 1000000 in
theorem bitsA_s16 {gA gB a b : Nat} {k j : Int} {WB w : World} {T l : List Value} {L : Array Bool} (Q : Exit → Act → World → Prop) (c : bitsAC gA gB a b k j WB T) (h : VT Tryd.prog bitsAO.1 41 156 bitsAD WB (bitsAK gA gB a b k j) T L l w 16) : wpOp Tryd.prog bitsAO.1 Q 16 (SJ (vaR WB (bitsAK gA gB a b k j)) 41 bitsAD T (L.setIfInBounds 16 true)) (frm2 bitsAD T l) w := by
  obtain ⟨o, ho, hd, hg, hop⟩ := bitsAO16
  obtain ⟨oj, hj, hdj, -, -⟩ := bitsAO14
  have hw := wanted2_go (T := T) (l := l) hg hj hdj (show slotOf bitsAD 23 = some 14 from rfl) (by rw [h.tl]; decide) (h.rw.gotK 14 (dep_of (a := 14) (by kernel_rfl) h.dep) rfl)
  exact h.same (v := .int .i64 k) ho hd rfl hw rfl (ex_move hop ((h.old (s := 2) rfl (by decide)).trans c.t2))

set_option maxRecDepth 100000 in
set_option maxHeartbeats 1000000 in
theorem bitsA_s17 {gA gB a b : Nat} {k j : Int} {WB w : World} {T l : List Value} {L : Array Bool} (Q : Exit → Act → World → Prop) (c : bitsAC gA gB a b k j WB T) (h : VT Tryd.prog bitsAO.1 41 156 bitsAD WB (bitsAK gA gB a b k j) T L l w 17) : wpOp Tryd.prog bitsAO.1 Q 17 (SJ (vaR WB (bitsAK gA gB a b k j)) 41 bitsAD T (L.setIfInBounds 17 true)) (frm2 bitsAD T l) w := by
  obtain ⟨o, ho, hd, hg, hop⟩ := bitsAO17
  obtain ⟨oj, hj, hdj, -, -⟩ := bitsAO14
  have hw := wanted2_go (T := T) (l := l) hg hj hdj (show slotOf bitsAD 23 = some 14 from rfl) (by rw [h.tl]; decide) (h.rw.gotK 14 (dep_of (a := 14) (by kernel_rfl) h.dep) rfl)
  have x24 := ((h.new (s := 24) (j := 15) rfl (by decide)).trans (h.rw.gotK 15 (dep_of (a := 15) (by kernel_rfl) h.dep) rfl))
  have x25 := ((h.new (s := 25) (j := 16) rfl (by decide)).trans (h.rw.gotK 16 (dep_of (a := 16) (by kernel_rfl) h.dep) rfl))
  exact h.call (v := numV (a % 2 ^ sh k)) ho hd rfl hw rfl (ex_call hop rfl rfl (args := #[numV (a), .int .i64 k]) (all := #[numV (a), .int .i64 k]) (by simp only [List.map_toArray, List.map_cons, List.map_nil]; rw [x24, x25]) (by simp) (fun av W => by kernel_rfl)) (numCut_any a k w c.la)

set_option maxRecDepth 100000 in
set_option maxHeartbeats 1000000 in
theorem bitsA_s18 {gA gB a b : Nat} {k j : Int} {WB w : World} {T l : List Value} {L : Array Bool} (Q : Exit → Act → World → Prop) (c : bitsAC gA gB a b k j WB T) (h : VT Tryd.prog bitsAO.1 41 156 bitsAD WB (bitsAK gA gB a b k j) T L l w 18) : wpOp Tryd.prog bitsAO.1 Q 18 (SJ (vaR WB (bitsAK gA gB a b k j)) 41 bitsAD T (L.setIfInBounds 18 true)) (frm2 bitsAD T l) w := by
  obtain ⟨o, ho, hd, hg, hop⟩ := bitsAO18
  obtain ⟨oj, hj, hdj, -, -⟩ := bitsAO14
  have hw := wanted2_go (T := T) (l := l) hg hj hdj (show slotOf bitsAD 23 = some 14 from rfl) (by rw [h.tl]; decide) (h.rw.gotK 14 (dep_of (a := 14) (by kernel_rfl) h.dep) rfl)
  exact h.same (v := numV (a)) ho hd rfl hw rfl (ex_load_n hop ((h.old (s := 4) rfl (by decide)).trans c.t4) (h.cell c.ca0) (h.cell c.ca1))

set_option maxRecDepth 100000 in
set_option maxHeartbeats 1000000 in
theorem bitsA_s19 {gA gB a b : Nat} {k j : Int} {WB w : World} {T l : List Value} {L : Array Bool} (Q : Exit → Act → World → Prop) (c : bitsAC gA gB a b k j WB T) (h : VT Tryd.prog bitsAO.1 41 156 bitsAD WB (bitsAK gA gB a b k j) T L l w 19) : wpOp Tryd.prog bitsAO.1 Q 19 (SJ (vaR WB (bitsAK gA gB a b k j)) 41 bitsAD T (L.setIfInBounds 19 true)) (frm2 bitsAD T l) w := by
  obtain ⟨o, ho, hd, hg, hop⟩ := bitsAO19
  obtain ⟨oj, hj, hdj, -, -⟩ := bitsAO14
  have hw := wanted2_go (T := T) (l := l) hg hj hdj (show slotOf bitsAD 23 = some 14 from rfl) (by rw [h.tl]; decide) (h.rw.gotK 14 (dep_of (a := 14) (by kernel_rfl) h.dep) rfl)
  exact h.same (v := .int .i64 k) ho hd rfl hw rfl (ex_move hop ((h.old (s := 2) rfl (by decide)).trans c.t2))

set_option maxRecDepth 100000 in
set_option maxHeartbeats 1000000 in
theorem bitsA_s20 {gA gB a b : Nat} {k j : Int} {WB w : World} {T l : List Value} {L : Array Bool} (Q : Exit → Act → World → Prop) (c : bitsAC gA gB a b k j WB T) (h : VT Tryd.prog bitsAO.1 41 156 bitsAD WB (bitsAK gA gB a b k j) T L l w 20) : wpOp Tryd.prog bitsAO.1 Q 20 (SJ (vaR WB (bitsAK gA gB a b k j)) 41 bitsAD T (L.setIfInBounds 20 true)) (frm2 bitsAD T l) w := by
  obtain ⟨o, ho, hd, hg, hop⟩ := bitsAO20
  obtain ⟨oj, hj, hdj, -, -⟩ := bitsAO14
  have hw := wanted2_go (T := T) (l := l) hg hj hdj (show slotOf bitsAD 23 = some 14 from rfl) (by rw [h.tl]; decide) (h.rw.gotK 14 (dep_of (a := 14) (by kernel_rfl) h.dep) rfl)
  have x27 := ((h.new (s := 27) (j := 18) rfl (by decide)).trans (h.rw.gotK 18 (dep_of (a := 18) (by kernel_rfl) h.dep) rfl))
  have x28 := ((h.new (s := 28) (j := 19) rfl (by decide)).trans (h.rw.gotK 19 (dep_of (a := 19) (by kernel_rfl) h.dep) rfl))
  exact h.call (v := numV (a % 2 ^ sh k)) ho hd rfl hw rfl (ex_call hop rfl rfl (args := #[numV (a), .int .i64 k]) (all := #[numV (a), .int .i64 k]) (by simp only [List.map_toArray, List.map_cons, List.map_nil]; rw [x27, x28]) (by simp) (fun av W => by kernel_rfl)) (refCut_any a k c.la w)

set_option maxRecDepth 100000 in
set_option maxHeartbeats 1000000 in
theorem bitsA_s21 {gA gB a b : Nat} {k j : Int} {WB w : World} {T l : List Value} {L : Array Bool} (Q : Exit → Act → World → Prop) (c : bitsAC gA gB a b k j WB T) (h : VT Tryd.prog bitsAO.1 41 156 bitsAD WB (bitsAK gA gB a b k j) T L l w 21) : wpOp Tryd.prog bitsAO.1 Q 21 (SJ (vaR WB (bitsAK gA gB a b k j)) 41 bitsAD T (L.setIfInBounds 21 true)) (frm2 bitsAD T l) w := by
  obtain ⟨o, ho, hd, hg, hop⟩ := bitsAO21
  obtain ⟨oj, hj, hdj, -, -⟩ := bitsAO14
  have hw := wanted2_go (T := T) (l := l) hg hj hdj (show slotOf bitsAD 23 = some 14 from rfl) (by rw [h.tl]; decide) (h.rw.gotK 14 (dep_of (a := 14) (by kernel_rfl) h.dep) rfl)
  exact h.same (v := .bool false) ho hd rfl hw rfl (ex_neqN hop ((h.new (s := 26) (j := 17) rfl (by decide)).trans (h.rw.gotK 17 (dep_of (a := 17) (by kernel_rfl) h.dep) rfl)) ((h.new (s := 29) (j := 20) rfl (by decide)).trans (h.rw.gotK 20 (dep_of (a := 20) (by kernel_rfl) h.dep) rfl)) (rfl))

set_option maxRecDepth 100000 in
set_option maxHeartbeats 1000000 in
theorem bitsA_s22 {gA gB a b : Nat} {k j : Int} {WB w : World} {T l : List Value} {L : Array Bool} (Q : Exit → Act → World → Prop) (c : bitsAC gA gB a b k j WB T) (h : VT Tryd.prog bitsAO.1 41 156 bitsAD WB (bitsAK gA gB a b k j) T L l w 22) : wpOp Tryd.prog bitsAO.1 Q 22 (SJ (vaR WB (bitsAK gA gB a b k j)) 41 bitsAD T (L.setIfInBounds 22 true)) (frm2 bitsAD T l) w := by
  obtain ⟨o, ho, hd, hg, hop⟩ := bitsAO22
  have hw := wanted_un (ops := bitsAO.1) (t := (frm2 bitsAD T l).tmps) hg
  exact h.same (v := .bool false) ho hd rfl hw rfl (ex_pick hop ((h.new (s := 23) (j := 14) rfl (by decide)).trans (h.rw.gotK 14 (dep_of (a := 14) (by kernel_rfl) h.dep) rfl)) ((h.new (s := 30) (j := 21) rfl (by decide)).trans (h.rw.gotK 21 (dep_of (a := 21) (by kernel_rfl) h.dep) rfl)))

set_option maxRecDepth 100000 in
set_option maxHeartbeats 1000000 in
theorem bitsA_s23 {gA gB a b : Nat} {k j : Int} {WB w : World} {T l : List Value} {L : Array Bool} (Q : Exit → Act → World → Prop) (c : bitsAC gA gB a b k j WB T) (h : VT Tryd.prog bitsAO.1 41 156 bitsAD WB (bitsAK gA gB a b k j) T L l w 23) : wpOp Tryd.prog bitsAO.1 Q 23 (SJ (vaR WB (bitsAK gA gB a b k j)) 41 bitsAD T (L.setIfInBounds 23 true)) (frm2 bitsAD T l) w := by
  obtain ⟨o, ho, hd, hg, hop⟩ := bitsAO23
  have hw := wanted_un (ops := bitsAO.1) (t := (frm2 bitsAD T l).tmps) hg
  exact h.same (v := .bool false) ho hd rfl hw rfl (ex_move hop ((h.new (s := 31) (j := 22) rfl (by decide)).trans (h.rw.gotK 22 (dep_of (a := 22) (by kernel_rfl) h.dep) rfl)))

set_option maxRecDepth 100000 in
set_option maxHeartbeats 1000000 in
theorem bitsA_s24 {gA gB a b : Nat} {k j : Int} {WB w : World} {T l : List Value} {L : Array Bool} (Q : Exit → Act → World → Prop) (c : bitsAC gA gB a b k j WB T) (h : VT Tryd.prog bitsAO.1 41 156 bitsAD WB (bitsAK gA gB a b k j) T L l w 24) : wpOp Tryd.prog bitsAO.1 Q 24 (SJ (vaR WB (bitsAK gA gB a b k j)) 41 bitsAD T (L.setIfInBounds 24 true)) (frm2 bitsAD T l) w := by
  obtain ⟨o, ho, hd, hg, hop⟩ := bitsAO24
  obtain ⟨oj, hj, hdj, -, -⟩ := bitsAO23
  have hw := wanted2_go (T := T) (l := l) hg hj hdj (show slotOf bitsAD 32 = some 23 from rfl) (by rw [h.tl]; decide) (h.rw.gotK 23 (dep_of (a := 23) (by kernel_rfl) h.dep) rfl)
  exact h.same (v := numV (a)) ho hd rfl hw rfl (ex_load_n hop ((h.old (s := 4) rfl (by decide)).trans c.t4) (h.cell c.ca0) (h.cell c.ca1))

set_option maxRecDepth 100000 in
set_option maxHeartbeats 1000000 in
theorem bitsA_s25 {gA gB a b : Nat} {k j : Int} {WB w : World} {T l : List Value} {L : Array Bool} (Q : Exit → Act → World → Prop) (c : bitsAC gA gB a b k j WB T) (h : VT Tryd.prog bitsAO.1 41 156 bitsAD WB (bitsAK gA gB a b k j) T L l w 25) : wpOp Tryd.prog bitsAO.1 Q 25 (SJ (vaR WB (bitsAK gA gB a b k j)) 41 bitsAD T (L.setIfInBounds 25 true)) (frm2 bitsAD T l) w := by
  obtain ⟨o, ho, hd, hg, hop⟩ := bitsAO25
  obtain ⟨oj, hj, hdj, -, -⟩ := bitsAO23
  have hw := wanted2_go (T := T) (l := l) hg hj hdj (show slotOf bitsAD 32 = some 23 from rfl) (by rw [h.tl]; decide) (h.rw.gotK 23 (dep_of (a := 23) (by kernel_rfl) h.dep) rfl)
  exact h.same (v := .int .i64 k) ho hd rfl hw rfl (ex_move hop ((h.old (s := 2) rfl (by decide)).trans c.t2))

set_option maxRecDepth 100000 in
set_option maxHeartbeats 1000000 in
theorem bitsA_s26 {gA gB a b : Nat} {k j : Int} {WB w : World} {T l : List Value} {L : Array Bool} (Q : Exit → Act → World → Prop) (c : bitsAC gA gB a b k j WB T) (h : VT Tryd.prog bitsAO.1 41 156 bitsAD WB (bitsAK gA gB a b k j) T L l w 26) : wpOp Tryd.prog bitsAO.1 Q 26 (SJ (vaR WB (bitsAK gA gB a b k j)) 41 bitsAD T (L.setIfInBounds 26 true)) (frm2 bitsAD T l) w := by
  obtain ⟨o, ho, hd, hg, hop⟩ := bitsAO26
  obtain ⟨oj, hj, hdj, -, -⟩ := bitsAO23
  have hw := wanted2_go (T := T) (l := l) hg hj hdj (show slotOf bitsAD 32 = some 23 from rfl) (by rw [h.tl]; decide) (h.rw.gotK 23 (dep_of (a := 23) (by kernel_rfl) h.dep) rfl)
  have x33 := ((h.new (s := 33) (j := 24) rfl (by decide)).trans (h.rw.gotK 24 (dep_of (a := 24) (by kernel_rfl) h.dep) rfl))
  have x34 := ((h.new (s := 34) (j := 25) rfl (by decide)).trans (h.rw.gotK 25 (dep_of (a := 25) (by kernel_rfl) h.dep) rfl))
  exact h.call (v := .bool (decide (a % 2 ^ sh k = a))) ho hd rfl hw rfl (ex_call hop rfl rfl (args := #[numV (a), .int .i64 k]) (all := #[numV (a), .int .i64 k]) (by simp only [List.map_toArray, List.map_cons, List.map_nil]; rw [x33, x34]) (by simp) (fun av W => by kernel_rfl)) (numFits_all a k w c.la)

set_option maxRecDepth 100000 in
set_option maxHeartbeats 1000000 in
theorem bitsA_s27 {gA gB a b : Nat} {k j : Int} {WB w : World} {T l : List Value} {L : Array Bool} (Q : Exit → Act → World → Prop) (c : bitsAC gA gB a b k j WB T) (h : VT Tryd.prog bitsAO.1 41 156 bitsAD WB (bitsAK gA gB a b k j) T L l w 27) : wpOp Tryd.prog bitsAO.1 Q 27 (SJ (vaR WB (bitsAK gA gB a b k j)) 41 bitsAD T (L.setIfInBounds 27 true)) (frm2 bitsAD T l) w := by
  obtain ⟨o, ho, hd, hg, hop⟩ := bitsAO27
  obtain ⟨oj, hj, hdj, -, -⟩ := bitsAO23
  have hw := wanted2_go (T := T) (l := l) hg hj hdj (show slotOf bitsAD 32 = some 23 from rfl) (by rw [h.tl]; decide) (h.rw.gotK 23 (dep_of (a := 23) (by kernel_rfl) h.dep) rfl)
  exact h.same (v := numV (a)) ho hd rfl hw rfl (ex_load_n hop ((h.old (s := 4) rfl (by decide)).trans c.t4) (h.cell c.ca0) (h.cell c.ca1))

set_option maxRecDepth 100000 in
set_option maxHeartbeats 1000000 in
theorem bitsA_s28 {gA gB a b : Nat} {k j : Int} {WB w : World} {T l : List Value} {L : Array Bool} (Q : Exit → Act → World → Prop) (c : bitsAC gA gB a b k j WB T) (h : VT Tryd.prog bitsAO.1 41 156 bitsAD WB (bitsAK gA gB a b k j) T L l w 28) : wpOp Tryd.prog bitsAO.1 Q 28 (SJ (vaR WB (bitsAK gA gB a b k j)) 41 bitsAD T (L.setIfInBounds 28 true)) (frm2 bitsAD T l) w := by
  obtain ⟨o, ho, hd, hg, hop⟩ := bitsAO28
  obtain ⟨oj, hj, hdj, -, -⟩ := bitsAO23
  have hw := wanted2_go (T := T) (l := l) hg hj hdj (show slotOf bitsAD 32 = some 23 from rfl) (by rw [h.tl]; decide) (h.rw.gotK 23 (dep_of (a := 23) (by kernel_rfl) h.dep) rfl)
  exact h.same (v := .int .i64 k) ho hd rfl hw rfl (ex_move hop ((h.old (s := 2) rfl (by decide)).trans c.t2))

set_option maxRecDepth 100000 in
set_option maxHeartbeats 1000000 in
theorem bitsA_s29 {gA gB a b : Nat} {k j : Int} {WB w : World} {T l : List Value} {L : Array Bool} (Q : Exit → Act → World → Prop) (c : bitsAC gA gB a b k j WB T) (h : VT Tryd.prog bitsAO.1 41 156 bitsAD WB (bitsAK gA gB a b k j) T L l w 29) : wpOp Tryd.prog bitsAO.1 Q 29 (SJ (vaR WB (bitsAK gA gB a b k j)) 41 bitsAD T (L.setIfInBounds 29 true)) (frm2 bitsAD T l) w := by
  obtain ⟨o, ho, hd, hg, hop⟩ := bitsAO29
  obtain ⟨oj, hj, hdj, -, -⟩ := bitsAO23
  have hw := wanted2_go (T := T) (l := l) hg hj hdj (show slotOf bitsAD 32 = some 23 from rfl) (by rw [h.tl]; decide) (h.rw.gotK 23 (dep_of (a := 23) (by kernel_rfl) h.dep) rfl)
  have x36 := ((h.new (s := 36) (j := 27) rfl (by decide)).trans (h.rw.gotK 27 (dep_of (a := 27) (by kernel_rfl) h.dep) rfl))
  have x37 := ((h.new (s := 37) (j := 28) rfl (by decide)).trans (h.rw.gotK 28 (dep_of (a := 28) (by kernel_rfl) h.dep) rfl))
  exact h.call (v := .bool (decide (a % 2 ^ sh k = a))) ho hd rfl hw rfl (ex_call hop rfl rfl (args := #[numV (a), .int .i64 k]) (all := #[numV (a), .int .i64 k]) (by simp only [List.map_toArray, List.map_cons, List.map_nil]; rw [x36, x37]) (by simp) (fun av W => by kernel_rfl)) (refFits_any a k w c.la)

set_option maxRecDepth 100000 in
set_option maxHeartbeats 1000000 in
theorem bitsA_s30 {gA gB a b : Nat} {k j : Int} {WB w : World} {T l : List Value} {L : Array Bool} (Q : Exit → Act → World → Prop) (c : bitsAC gA gB a b k j WB T) (h : VT Tryd.prog bitsAO.1 41 156 bitsAD WB (bitsAK gA gB a b k j) T L l w 30) : wpOp Tryd.prog bitsAO.1 Q 30 (SJ (vaR WB (bitsAK gA gB a b k j)) 41 bitsAD T (L.setIfInBounds 30 true)) (frm2 bitsAD T l) w := by
  obtain ⟨o, ho, hd, hg, hop⟩ := bitsAO30
  obtain ⟨oj, hj, hdj, -, -⟩ := bitsAO23
  have hw := wanted2_go (T := T) (l := l) hg hj hdj (show slotOf bitsAD 32 = some 23 from rfl) (by rw [h.tl]; decide) (h.rw.gotK 23 (dep_of (a := 23) (by kernel_rfl) h.dep) rfl)
  exact h.same (v := .bool false) ho hd rfl hw rfl (ex_neqB hop ((h.new (s := 35) (j := 26) rfl (by decide)).trans (h.rw.gotK 26 (dep_of (a := 26) (by kernel_rfl) h.dep) rfl)) ((h.new (s := 38) (j := 29) rfl (by decide)).trans (h.rw.gotK 29 (dep_of (a := 29) (by kernel_rfl) h.dep) rfl)) rfl)

set_option maxRecDepth 100000 in
set_option maxHeartbeats 1000000 in
theorem bitsA_s31 {gA gB a b : Nat} {k j : Int} {WB w : World} {T l : List Value} {L : Array Bool} (Q : Exit → Act → World → Prop) (c : bitsAC gA gB a b k j WB T) (h : VT Tryd.prog bitsAO.1 41 156 bitsAD WB (bitsAK gA gB a b k j) T L l w 31) : wpOp Tryd.prog bitsAO.1 Q 31 (SJ (vaR WB (bitsAK gA gB a b k j)) 41 bitsAD T (L.setIfInBounds 31 true)) (frm2 bitsAD T l) w := by
  obtain ⟨o, ho, hd, hg, hop⟩ := bitsAO31
  have hw := wanted_un (ops := bitsAO.1) (t := (frm2 bitsAD T l).tmps) hg
  exact h.same (v := .bool false) ho hd rfl hw rfl (ex_pick hop ((h.new (s := 32) (j := 23) rfl (by decide)).trans (h.rw.gotK 23 (dep_of (a := 23) (by kernel_rfl) h.dep) rfl)) ((h.new (s := 39) (j := 30) rfl (by decide)).trans (h.rw.gotK 30 (dep_of (a := 30) (by kernel_rfl) h.dep) rfl)))

set_option maxRecDepth 100000 in
set_option maxHeartbeats 1000000 in
theorem bitsA_s32 {gA gB a b : Nat} {k j : Int} {WB w : World} {T l : List Value} {L : Array Bool} (Q : Exit → Act → World → Prop) (c : bitsAC gA gB a b k j WB T) (h : VT Tryd.prog bitsAO.1 41 156 bitsAD WB (bitsAK gA gB a b k j) T L l w 32) : wpOp Tryd.prog bitsAO.1 Q 32 (SJ (vaR WB (bitsAK gA gB a b k j)) 41 bitsAD T (L.setIfInBounds 32 true)) (frm2 bitsAD T l) w := by
  obtain ⟨o, ho, hd, hg, hop⟩ := bitsAO32
  have hw := wanted_un (ops := bitsAO.1) (t := (frm2 bitsAD T l).tmps) hg
  exact h.same (v := .bool false) ho hd rfl hw rfl (ex_move hop ((h.new (s := 40) (j := 31) rfl (by decide)).trans (h.rw.gotK 31 (dep_of (a := 31) (by kernel_rfl) h.dep) rfl)))

set_option maxRecDepth 100000 in
set_option maxHeartbeats 1000000 in
theorem bitsA_s33 {gA gB a b : Nat} {k j : Int} {WB w : World} {T l : List Value} {L : Array Bool} (Q : Exit → Act → World → Prop) (c : bitsAC gA gB a b k j WB T) (h : VT Tryd.prog bitsAO.1 41 156 bitsAD WB (bitsAK gA gB a b k j) T L l w 33) : wpOp Tryd.prog bitsAO.1 Q 33 (SJ (vaR WB (bitsAK gA gB a b k j)) 41 bitsAD T (L.setIfInBounds 33 true)) (frm2 bitsAD T l) w := by
  obtain ⟨o, ho, hd, hg, hop⟩ := bitsAO33
  obtain ⟨oj, hj, hdj, -, -⟩ := bitsAO32
  have hw := wanted2_go (T := T) (l := l) hg hj hdj (show slotOf bitsAD 41 = some 32 from rfl) (by rw [h.tl]; decide) (h.rw.gotK 32 (dep_of (a := 32) (by kernel_rfl) h.dep) rfl)
  exact h.same (v := .pointer (some ⟨gA, 1, none⟩)) ho hd rfl hw rfl (ex_lo hop ((h.old (s := 4) rfl (by decide)).trans c.t4))

set_option maxRecDepth 100000 in
set_option maxHeartbeats 1000000 in
theorem bitsA_s34 {gA gB a b : Nat} {k j : Int} {WB w : World} {T l : List Value} {L : Array Bool} (Q : Exit → Act → World → Prop) (c : bitsAC gA gB a b k j WB T) (h : VT Tryd.prog bitsAO.1 41 156 bitsAD WB (bitsAK gA gB a b k j) T L l w 34) : wpOp Tryd.prog bitsAO.1 Q 34 (SJ (vaR WB (bitsAK gA gB a b k j)) 41 bitsAD T (L.setIfInBounds 34 true)) (frm2 bitsAD T l) w := by
  obtain ⟨o, ho, hd, hg, hop⟩ := bitsAO34
  obtain ⟨oj, hj, hdj, -, -⟩ := bitsAO32
  have hw := wanted2_go (T := T) (l := l) hg hj hdj (show slotOf bitsAD 41 = some 32 from rfl) (by rw [h.tl]; decide) (h.rw.gotK 32 (dep_of (a := 32) (by kernel_rfl) h.dep) rfl)
  exact h.same (v := .int .u64 ((a % B : Nat) : Int)) ho hd rfl hw rfl (ex_load_u hop ((h.new (s := 42) (j := 33) rfl (by decide)).trans (h.rw.gotK 33 (dep_of (a := 33) (by kernel_rfl) h.dep) rfl)) (h.cell c.ca1))

set_option maxRecDepth 100000 in
set_option maxHeartbeats 1000000 in
theorem bitsA_s35 {gA gB a b : Nat} {k j : Int} {WB w : World} {T l : List Value} {L : Array Bool} (Q : Exit → Act → World → Prop) (c : bitsAC gA gB a b k j WB T) (h : VT Tryd.prog bitsAO.1 41 156 bitsAD WB (bitsAK gA gB a b k j) T L l w 35) : wpOp Tryd.prog bitsAO.1 Q 35 (SJ (vaR WB (bitsAK gA gB a b k j)) 41 bitsAD T (L.setIfInBounds 35 true)) (frm2 bitsAD T l) w := by
  obtain ⟨o, ho, hd, hg, hop⟩ := bitsAO35
  obtain ⟨oj, hj, hdj, -, -⟩ := bitsAO32
  have hw := wanted2_go (T := T) (l := l) hg hj hdj (show slotOf bitsAD 41 = some 32 from rfl) (by rw [h.tl]; decide) (h.rw.gotK 32 (dep_of (a := 32) (by kernel_rfl) h.dep) rfl)
  have x43 := ((h.new (s := 43) (j := 34) rfl (by decide)).trans (h.rw.gotK 34 (dep_of (a := 34) (by kernel_rfl) h.dep) rfl))
  exact h.call (v := numV (a % B)) ho hd rfl hw rfl (ex_call hop rfl rfl (args := #[.int .u64 ((a % B : Nat) : Int)]) (all := #[.int .u64 ((a % B : Nat) : Int)]) (by simp only [List.map_toArray, List.map_cons, List.map_nil]; rw [x43]) (by simp) (fun av W => by kernel_rfl)) (numOf_any (a % B) (Nat.mod_lt _ B_pos) w)

set_option maxRecDepth 100000 in
set_option maxHeartbeats 1000000 in
theorem bitsA_s36 {gA gB a b : Nat} {k j : Int} {WB w : World} {T l : List Value} {L : Array Bool} (Q : Exit → Act → World → Prop) (c : bitsAC gA gB a b k j WB T) (h : VT Tryd.prog bitsAO.1 41 156 bitsAD WB (bitsAK gA gB a b k j) T L l w 36) : wpOp Tryd.prog bitsAO.1 Q 36 (SJ (vaR WB (bitsAK gA gB a b k j)) 41 bitsAD T (L.setIfInBounds 36 true)) (frm2 bitsAD T l) w := by
  obtain ⟨o, ho, hd, hg, hop⟩ := bitsAO36
  obtain ⟨oj, hj, hdj, -, -⟩ := bitsAO32
  have hw := wanted2_go (T := T) (l := l) hg hj hdj (show slotOf bitsAD 41 = some 32 from rfl) (by rw [h.tl]; decide) (h.rw.gotK 32 (dep_of (a := 32) (by kernel_rfl) h.dep) rfl)
  exact h.same (v := .pointer (some ⟨gA, 1, none⟩)) ho hd rfl hw rfl (ex_lo hop ((h.old (s := 4) rfl (by decide)).trans c.t4))

set_option maxRecDepth 100000 in
set_option maxHeartbeats 1000000 in
theorem bitsA_s37 {gA gB a b : Nat} {k j : Int} {WB w : World} {T l : List Value} {L : Array Bool} (Q : Exit → Act → World → Prop) (c : bitsAC gA gB a b k j WB T) (h : VT Tryd.prog bitsAO.1 41 156 bitsAD WB (bitsAK gA gB a b k j) T L l w 37) : wpOp Tryd.prog bitsAO.1 Q 37 (SJ (vaR WB (bitsAK gA gB a b k j)) 41 bitsAD T (L.setIfInBounds 37 true)) (frm2 bitsAD T l) w := by
  obtain ⟨o, ho, hd, hg, hop⟩ := bitsAO37
  obtain ⟨oj, hj, hdj, -, -⟩ := bitsAO32
  have hw := wanted2_go (T := T) (l := l) hg hj hdj (show slotOf bitsAD 41 = some 32 from rfl) (by rw [h.tl]; decide) (h.rw.gotK 32 (dep_of (a := 32) (by kernel_rfl) h.dep) rfl)
  exact h.same (v := .int .u64 ((a % B : Nat) : Int)) ho hd rfl hw rfl (ex_load_u hop ((h.new (s := 45) (j := 36) rfl (by decide)).trans (h.rw.gotK 36 (dep_of (a := 36) (by kernel_rfl) h.dep) rfl)) (h.cell c.ca1))

set_option maxRecDepth 100000 in
set_option maxHeartbeats 1000000 in
theorem bitsA_s38 {gA gB a b : Nat} {k j : Int} {WB w : World} {T l : List Value} {L : Array Bool} (Q : Exit → Act → World → Prop) (c : bitsAC gA gB a b k j WB T) (h : VT Tryd.prog bitsAO.1 41 156 bitsAD WB (bitsAK gA gB a b k j) T L l w 38) : wpOp Tryd.prog bitsAO.1 Q 38 (SJ (vaR WB (bitsAK gA gB a b k j)) 41 bitsAD T (L.setIfInBounds 38 true)) (frm2 bitsAD T l) w := by
  obtain ⟨o, ho, hd, hg, hop⟩ := bitsAO38
  obtain ⟨oj, hj, hdj, -, -⟩ := bitsAO32
  have hw := wanted2_go (T := T) (l := l) hg hj hdj (show slotOf bitsAD 41 = some 32 from rfl) (by rw [h.tl]; decide) (h.rw.gotK 32 (dep_of (a := 32) (by kernel_rfl) h.dep) rfl)
  have x46 := ((h.new (s := 46) (j := 37) rfl (by decide)).trans (h.rw.gotK 37 (dep_of (a := 37) (by kernel_rfl) h.dep) rfl))
  exact h.call (v := numV (a % B)) ho hd rfl hw rfl (ex_call hop rfl rfl (args := #[.int .u64 ((a % B : Nat) : Int)]) (all := #[.int .u64 ((a % B : Nat) : Int)]) (by simp only [List.map_toArray, List.map_cons, List.map_nil]; rw [x46]) (by simp) (fun av W => by kernel_rfl)) (refOf_any (a % B) (Nat.mod_lt _ B_pos) w)

set_option maxRecDepth 100000 in
set_option maxHeartbeats 1000000 in
theorem bitsA_s39 {gA gB a b : Nat} {k j : Int} {WB w : World} {T l : List Value} {L : Array Bool} (Q : Exit → Act → World → Prop) (c : bitsAC gA gB a b k j WB T) (h : VT Tryd.prog bitsAO.1 41 156 bitsAD WB (bitsAK gA gB a b k j) T L l w 39) : wpOp Tryd.prog bitsAO.1 Q 39 (SJ (vaR WB (bitsAK gA gB a b k j)) 41 bitsAD T (L.setIfInBounds 39 true)) (frm2 bitsAD T l) w := by
  obtain ⟨o, ho, hd, hg, hop⟩ := bitsAO39
  obtain ⟨oj, hj, hdj, -, -⟩ := bitsAO32
  have hw := wanted2_go (T := T) (l := l) hg hj hdj (show slotOf bitsAD 41 = some 32 from rfl) (by rw [h.tl]; decide) (h.rw.gotK 32 (dep_of (a := 32) (by kernel_rfl) h.dep) rfl)
  exact h.same (v := .bool false) ho hd rfl hw rfl (ex_neqN hop ((h.new (s := 44) (j := 35) rfl (by decide)).trans (h.rw.gotK 35 (dep_of (a := 35) (by kernel_rfl) h.dep) rfl)) ((h.new (s := 47) (j := 38) rfl (by decide)).trans (h.rw.gotK 38 (dep_of (a := 38) (by kernel_rfl) h.dep) rfl)) (rfl))

set_option maxRecDepth 100000 in
set_option maxHeartbeats 1000000 in
theorem bitsA_s40 {gA gB a b : Nat} {k j : Int} {WB w : World} {T l : List Value} {L : Array Bool} (Q : Exit → Act → World → Prop) (c : bitsAC gA gB a b k j WB T) (h : VT Tryd.prog bitsAO.1 41 156 bitsAD WB (bitsAK gA gB a b k j) T L l w 40) : wpOp Tryd.prog bitsAO.1 Q 40 (SJ (vaR WB (bitsAK gA gB a b k j)) 41 bitsAD T (L.setIfInBounds 40 true)) (frm2 bitsAD T l) w := by
  obtain ⟨o, ho, hd, hg, hop⟩ := bitsAO40
  have hw := wanted_un (ops := bitsAO.1) (t := (frm2 bitsAD T l).tmps) hg
  exact h.same (v := .bool false) ho hd rfl hw rfl (ex_pick hop ((h.new (s := 41) (j := 32) rfl (by decide)).trans (h.rw.gotK 32 (dep_of (a := 32) (by kernel_rfl) h.dep) rfl)) ((h.new (s := 48) (j := 39) rfl (by decide)).trans (h.rw.gotK 39 (dep_of (a := 39) (by kernel_rfl) h.dep) rfl)))

set_option maxRecDepth 100000 in
set_option maxHeartbeats 4000000 in
theorem bitsA (gA gB a b : Nat) (k j : Int) (WB : World)
    (ca0 : Hid (WB.cell? ⟨gA, 0, none⟩ = some (.int .u64 ((a / B : Nat) : Int))))
    (ca1 : Hid (WB.cell? ⟨gA, 1, none⟩ = some (.int .u64 ((a % B : Nat) : Int))))
    (cb0 : Hid (WB.cell? ⟨gB, 0, none⟩ = some (.int .u64 ((b / B : Nat) : Int))))
    (cb1 : Hid (WB.cell? ⟨gB, 1, none⟩ = some (.int .u64 ((b % B : Nat) : Int))))
    (la : Hid (a < B * B))
    (lb : Hid (b < B * B))
    (lj : Hid (j ≤ 9223372036854775807))
    (s0 s1 s6 s7 s8 s9 s10 s11 s12 s13 s14 s15 s16 s17 s18 s19 s20 s21 s22 s23 s24 s25 s26 s27 s28 s29 s30 s31 s32 s33 s34 s35 s36 s37 s38 s39 s40 s41 s42 s43 s44 s45 s46 s47 s48 s49 s50 s51 s52 s53 s54 s55 s56 s57 s58 s59 s60 s61 s62 s63 s64 s65 s66 s67 s68 s69 s70 s71 s72 s73 s74 s75 s76 s77 s78 s79 s80 s81 s82 s83 s84 s85 s86 s87 s88 s89 s90 s91 s92 s93 s94 s95 s96 s97 s98 s99 s100 s101 s102 s103 s104 s105 s106 s107 s108 s109 s110 s111 s112 s113 s114 s115 s116 s117 s118 s119 s120 s121 s122 s123 s124 s125 s126 s127 s128 s129 s130 s131 s132 s133 s134 s135 s136 s137 s138 s139 s140 s141 s142 s143 s144 s145 s146 s147 s148 s149 s150 s151 s152 s153 s154 s155 : Value) (Q : Exit → Act → World → Prop)
    (hexit : ∀ (w' : World), Below WB.heap.size WB w' → Q .normal ⟨#[s0, s1, .int .i64 k, .int .i64 j, .pointer (some ⟨gA, 0, none⟩), .pointer (some ⟨gB, 0, none⟩), s6, s7, s8, numV (a), numV (b), .int .i64 (cmpI a b), numV (a), numV (b), .int .i64 (cmpI a b), .bool false, .bool false, .int .i64 k, numV (2 ^ sh k - 1), .int .i64 k, numV (2 ^ sh k - 1), .bool false, .bool false, .bool false, numV (a), .int .i64 k, numV (a % 2 ^ sh k), numV (a), .int .i64 k, numV (a % 2 ^ sh k), .bool false, .bool false, .bool false, numV (a), .int .i64 k, .bool (decide (a % 2 ^ sh k = a)), numV (a), .int .i64 k, .bool (decide (a % 2 ^ sh k = a)), .bool false, .bool false, .bool false, .pointer (some ⟨gA, 1, none⟩), .int .u64 ((a % B : Nat) : Int), numV (a % B), .pointer (some ⟨gA, 1, none⟩), .int .u64 ((a % B : Nat) : Int), numV (a % B), .bool false, .bool false, s50, s51, s52, s53, s54, s55, s56, s57, s58, s59, s60, s61, s62, s63, s64, s65, s66, s67, s68, s69, s70, s71, s72, s73, s74, s75, s76, s77, s78, s79, s80, s81, s82, s83, s84, s85, s86, s87, s88, s89, s90, s91, s92, s93, s94, s95, s96, s97, s98, s99, s100, s101, s102, s103, s104, s105, s106, s107, s108, s109, s110, s111, s112, s113, s114, s115, s116, s117, s118, s119, s120, s121, s122, s123, s124, s125, s126, s127, s128, s129, s130, s131, s132, s133, s134, s135, s136, s137, s138, s139, s140, s141, s142, s143, s144, s145, s146, s147, s148, s149, s150, s151, s152, s153, s154, s155], []⟩ w') :
    Code.wp Tryd.prog ((Tryd.f5.body.bind (findRegion 1)).getD .skip) Q ⟨#[s0, s1, .int .i64 k, .int .i64 j, .pointer (some ⟨gA, 0, none⟩), .pointer (some ⟨gB, 0, none⟩), s6, s7, s8, s9, s10, s11, s12, s13, s14, s15, s16, s17, s18, s19, s20, s21, s22, s23, s24, s25, s26, s27, s28, s29, s30, s31, s32, s33, s34, s35, s36, s37, s38, s39, s40, s41, s42, s43, s44, s45, s46, s47, s48, s49, s50, s51, s52, s53, s54, s55, s56, s57, s58, s59, s60, s61, s62, s63, s64, s65, s66, s67, s68, s69, s70, s71, s72, s73, s74, s75, s76, s77, s78, s79, s80, s81, s82, s83, s84, s85, s86, s87, s88, s89, s90, s91, s92, s93, s94, s95, s96, s97, s98, s99, s100, s101, s102, s103, s104, s105, s106, s107, s108, s109, s110, s111, s112, s113, s114, s115, s116, s117, s118, s119, s120, s121, s122, s123, s124, s125, s126, s127, s128, s129, s130, s131, s132, s133, s134, s135, s136, s137, s138, s139, s140, s141, s142, s143, s144, s145, s146, s147, s148, s149, s150, s151, s152, s153, s154, s155], []⟩ WB := by
  have c : bitsAC gA gB a b k j WB [s0, s1, .int .i64 k, .int .i64 j, .pointer (some ⟨gA, 0, none⟩), .pointer (some ⟨gB, 0, none⟩), s6, s7, s8, s9, s10, s11, s12, s13, s14, s15, s16, s17, s18, s19, s20, s21, s22, s23, s24, s25, s26, s27, s28, s29, s30, s31, s32, s33, s34, s35, s36, s37, s38, s39, s40, s41, s42, s43, s44, s45, s46, s47, s48, s49, s50, s51, s52, s53, s54, s55, s56, s57, s58, s59, s60, s61, s62, s63, s64, s65, s66, s67, s68, s69, s70, s71, s72, s73, s74, s75, s76, s77, s78, s79, s80, s81, s82, s83, s84, s85, s86, s87, s88, s89, s90, s91, s92, s93, s94, s95, s96, s97, s98, s99, s100, s101, s102, s103, s104, s105, s106, s107, s108, s109, s110, s111, s112, s113, s114, s115, s116, s117, s118, s119, s120, s121, s122, s123, s124, s125, s126, s127, s128, s129, s130, s131, s132, s133, s134, s135, s136, s137, s138, s139, s140, s141, s142, s143, s144, s145, s146, s147, s148, s149, s150, s151, s152, s153, s154, s155] := { tl := rfl, t2 := rfl, t3 := rfl, t4 := rfl, t5 := rfl, ca0 := ca0.out, ca1 := ca1.out, cb0 := cb0.out, cb1 := cb1.out, la := la.out, lb := lb.out, lj := lj.out }
  have h0 : (⟨#[s0, s1, .int .i64 k, .int .i64 j, .pointer (some ⟨gA, 0, none⟩), .pointer (some ⟨gB, 0, none⟩), s6, s7, s8, s9, s10, s11, s12, s13, s14, s15, s16, s17, s18, s19, s20, s21, s22, s23, s24, s25, s26, s27, s28, s29, s30, s31, s32, s33, s34, s35, s36, s37, s38, s39, s40, s41, s42, s43, s44, s45, s46, s47, s48, s49, s50, s51, s52, s53, s54, s55, s56, s57, s58, s59, s60, s61, s62, s63, s64, s65, s66, s67, s68, s69, s70, s71, s72, s73, s74, s75, s76, s77, s78, s79, s80, s81, s82, s83, s84, s85, s86, s87, s88, s89, s90, s91, s92, s93, s94, s95, s96, s97, s98, s99, s100, s101, s102, s103, s104, s105, s106, s107, s108, s109, s110, s111, s112, s113, s114, s115, s116, s117, s118, s119, s120, s121, s122, s123, s124, s125, s126, s127, s128, s129, s130, s131, s132, s133, s134, s135, s136, s137, s138, s139, s140, s141, s142, s143, s144, s145, s146, s147, s148, s149, s150, s151, s152, s153, s154, s155], []⟩ : Act) = frm2 bitsAD [s0, s1, .int .i64 k, .int .i64 j, .pointer (some ⟨gA, 0, none⟩), .pointer (some ⟨gB, 0, none⟩), s6, s7, s8, s9, s10, s11, s12, s13, s14, s15, s16, s17, s18, s19, s20, s21, s22, s23, s24, s25, s26, s27, s28, s29, s30, s31, s32, s33, s34, s35, s36, s37, s38, s39, s40, s41, s42, s43, s44, s45, s46, s47, s48, s49, s50, s51, s52, s53, s54, s55, s56, s57, s58, s59, s60, s61, s62, s63, s64, s65, s66, s67, s68, s69, s70, s71, s72, s73, s74, s75, s76, s77, s78, s79, s80, s81, s82, s83, s84, s85, s86, s87, s88, s89, s90, s91, s92, s93, s94, s95, s96, s97, s98, s99, s100, s101, s102, s103, s104, s105, s106, s107, s108, s109, s110, s111, s112, s113, s114, s115, s116, s117, s118, s119, s120, s121, s122, s123, s124, s125, s126, s127, s128, s129, s130, s131, s132, s133, s134, s135, s136, s137, s138, s139, s140, s141, s142, s143, s144, s145, s146, s147, s148, s149, s150, s151, s152, s153, s154, s155] [s9, s10, s11, s12, s13, s14, s15, s16, s17, s18, s19, s20, s21, s22, s23, s24, s25, s26, s27, s28, s29, s30, s31, s32, s33, s34, s35, s36, s37, s38, s39, s40, s41, s42, s43, s44, s45, s46, s47, s48, s49] := rfl
  have hend : ∀ f : Nat → Value, frm2 bitsAD [s0, s1, .int .i64 k, .int .i64 j, .pointer (some ⟨gA, 0, none⟩), .pointer (some ⟨gB, 0, none⟩), s6, s7, s8, s9, s10, s11, s12, s13, s14, s15, s16, s17, s18, s19, s20, s21, s22, s23, s24, s25, s26, s27, s28, s29, s30, s31, s32, s33, s34, s35, s36, s37, s38, s39, s40, s41, s42, s43, s44, s45, s46, s47, s48, s49, s50, s51, s52, s53, s54, s55, s56, s57, s58, s59, s60, s61, s62, s63, s64, s65, s66, s67, s68, s69, s70, s71, s72, s73, s74, s75, s76, s77, s78, s79, s80, s81, s82, s83, s84, s85, s86, s87, s88, s89, s90, s91, s92, s93, s94, s95, s96, s97, s98, s99, s100, s101, s102, s103, s104, s105, s106, s107, s108, s109, s110, s111, s112, s113, s114, s115, s116, s117, s118, s119, s120, s121, s122, s123, s124, s125, s126, s127, s128, s129, s130, s131, s132, s133, s134, s135, s136, s137, s138, s139, s140, s141, s142, s143, s144, s145, s146, s147, s148, s149, s150, s151, s152, s153, s154, s155] ((List.range 41).map f) = ⟨#[s0, s1, .int .i64 k, .int .i64 j, .pointer (some ⟨gA, 0, none⟩), .pointer (some ⟨gB, 0, none⟩), s6, s7, s8, f 0, f 1, f 2, f 3, f 4, f 5, f 6, f 7, f 8, f 9, f 10, f 11, f 12, f 13, f 14, f 15, f 16, f 17, f 18, f 19, f 20, f 21, f 22, f 23, f 24, f 25, f 26, f 27, f 28, f 29, f 30, f 31, f 32, f 33, f 34, f 35, f 36, f 37, f 38, f 39, f 40, s50, s51, s52, s53, s54, s55, s56, s57, s58, s59, s60, s61, s62, s63, s64, s65, s66, s67, s68, s69, s70, s71, s72, s73, s74, s75, s76, s77, s78, s79, s80, s81, s82, s83, s84, s85, s86, s87, s88, s89, s90, s91, s92, s93, s94, s95, s96, s97, s98, s99, s100, s101, s102, s103, s104, s105, s106, s107, s108, s109, s110, s111, s112, s113, s114, s115, s116, s117, s118, s119, s120, s121, s122, s123, s124, s125, s126, s127, s128, s129, s130, s131, s132, s133, s134, s135, s136, s137, s138, s139, s140, s141, s142, s143, s144, s145, s146, s147, s148, s149, s150, s151, s152, s153, s154, s155], []⟩ := fun f => rfl
  rw [h0]
  clear h0
  have hex : ∀ (f : Nat → Value) (w' : World), f 0 = numV (a) → f 1 = numV (b) → f 2 = .int .i64 (cmpI a b) → f 3 = numV (a) → f 4 = numV (b) → f 5 = .int .i64 (cmpI a b) → f 6 = .bool false → f 7 = .bool false → f 8 = .int .i64 k → f 9 = numV (2 ^ sh k - 1) → f 10 = .int .i64 k → f 11 = numV (2 ^ sh k - 1) → f 12 = .bool false → f 13 = .bool false → f 14 = .bool false → f 15 = numV (a) → f 16 = .int .i64 k → f 17 = numV (a % 2 ^ sh k) → f 18 = numV (a) → f 19 = .int .i64 k → f 20 = numV (a % 2 ^ sh k) → f 21 = .bool false → f 22 = .bool false → f 23 = .bool false → f 24 = numV (a) → f 25 = .int .i64 k → f 26 = .bool (decide (a % 2 ^ sh k = a)) → f 27 = numV (a) → f 28 = .int .i64 k → f 29 = .bool (decide (a % 2 ^ sh k = a)) → f 30 = .bool false → f 31 = .bool false → f 32 = .bool false → f 33 = .pointer (some ⟨gA, 1, none⟩) → f 34 = .int .u64 ((a % B : Nat) : Int) → f 35 = numV (a % B) → f 36 = .pointer (some ⟨gA, 1, none⟩) → f 37 = .int .u64 ((a % B : Nat) : Int) → f 38 = numV (a % B) → f 39 = .bool false → f 40 = .bool false → Below WB.heap.size WB w' → Q .normal ⟨#[s0, s1, .int .i64 k, .int .i64 j, .pointer (some ⟨gA, 0, none⟩), .pointer (some ⟨gB, 0, none⟩), s6, s7, s8, f 0, f 1, f 2, f 3, f 4, f 5, f 6, f 7, f 8, f 9, f 10, f 11, f 12, f 13, f 14, f 15, f 16, f 17, f 18, f 19, f 20, f 21, f 22, f 23, f 24, f 25, f 26, f 27, f 28, f 29, f 30, f 31, f 32, f 33, f 34, f 35, f 36, f 37, f 38, f 39, f 40, s50, s51, s52, s53, s54, s55, s56, s57, s58, s59, s60, s61, s62, s63, s64, s65, s66, s67, s68, s69, s70, s71, s72, s73, s74, s75, s76, s77, s78, s79, s80, s81, s82, s83, s84, s85, s86, s87, s88, s89, s90, s91, s92, s93, s94, s95, s96, s97, s98, s99, s100, s101, s102, s103, s104, s105, s106, s107, s108, s109, s110, s111, s112, s113, s114, s115, s116, s117, s118, s119, s120, s121, s122, s123, s124, s125, s126, s127, s128, s129, s130, s131, s132, s133, s134, s135, s136, s137, s138, s139, s140, s141, s142, s143, s144, s145, s146, s147, s148, s149, s150, s151, s152, s153, s154, s155], []⟩ w' := by
    intro f w' e0 e1 e2 e3 e4 e5 e6 e7 e8 e9 e10 e11 e12 e13 e14 e15 e16 e17 e18 e19 e20 e21 e22 e23 e24 e25 e26 e27 e28 e29 e30 e31 e32 e33 e34 e35 e36 e37 e38 e39 e40 a
    rw [e0, e1, e2, e3, e4, e5, e6, e7, e8, e9, e10, e11, e12, e13, e14, e15, e16, e17, e18, e19, e20, e21, e22, e23, e24, e25, e26, e27, e28, e29, e30, e31, e32, e33, e34, e35, e36, e37, e38, e39, e40]
    exact hexit w' a
  clear hexit
  generalize [s0, s1, .int .i64 k, .int .i64 j, .pointer (some ⟨gA, 0, none⟩), .pointer (some ⟨gB, 0, none⟩), s6, s7, s8, s9, s10, s11, s12, s13, s14, s15, s16, s17, s18, s19, s20, s21, s22, s23, s24, s25, s26, s27, s28, s29, s30, s31, s32, s33, s34, s35, s36, s37, s38, s39, s40, s41, s42, s43, s44, s45, s46, s47, s48, s49, s50, s51, s52, s53, s54, s55, s56, s57, s58, s59, s60, s61, s62, s63, s64, s65, s66, s67, s68, s69, s70, s71, s72, s73, s74, s75, s76, s77, s78, s79, s80, s81, s82, s83, s84, s85, s86, s87, s88, s89, s90, s91, s92, s93, s94, s95, s96, s97, s98, s99, s100, s101, s102, s103, s104, s105, s106, s107, s108, s109, s110, s111, s112, s113, s114, s115, s116, s117, s118, s119, s120, s121, s122, s123, s124, s125, s126, s127, s128, s129, s130, s131, s132, s133, s134, s135, s136, s137, s138, s139, s140, s141, s142, s143, s144, s145, s146, s147, s148, s149, s150, s151, s152, s153, s154, s155] = T at *
  rw [bitsAO.2]
  show Code.wp Tryd.prog (.region 1 bitsAO.1 true) Q _ WB
  refine wp_region_inv2 (by kernel_rfl) (SJ (vaR WB (bitsAK gA gB a b k j)) 41 bitsAD T) ?_ ?_ ?_ ?_
  · exact ⟨_, rfl, by rw [bitsAO_size]; simp, rfl, RW.init (fun i => did_none _ _) (Nat.le_refl _) (below_drewN (Below.refl _ _) 1)⟩
  · rintro L a w i hL hi hnd hdep ⟨l, hl, hLn, rfl, hI⟩
    have ht : VT Tryd.prog bitsAO.1 41 156 bitsAD WB (bitsAK gA gB a b k j) T L l w i := ⟨c.tl, bitsAK_free, hl, hLn, hi, hnd, hI, hdep⟩
    match i, hi with
    | 0, _ => exact bitsA_s0 Q c ht
    | 1, _ => exact bitsA_s1 Q c ht
    | 2, _ => exact bitsA_s2 Q c ht
    | 3, _ => exact bitsA_s3 Q c ht
    | 4, _ => exact bitsA_s4 Q c ht
    | 5, _ => exact bitsA_s5 Q c ht
    | 6, _ => exact bitsA_s6 Q c ht
    | 7, _ => exact bitsA_s7 Q c ht
    | 8, _ => exact bitsA_s8 Q c ht
    | 9, _ => exact bitsA_s9 Q c ht
    | 10, _ => exact bitsA_s10 Q c ht
    | 11, _ => exact bitsA_s11 Q c ht
    | 12, _ => exact bitsA_s12 Q c ht
    | 13, _ => exact bitsA_s13 Q c ht
    | 14, _ => exact bitsA_s14 Q c ht
    | 15, _ => exact bitsA_s15 Q c ht
    | 16, _ => exact bitsA_s16 Q c ht
    | 17, _ => exact bitsA_s17 Q c ht
    | 18, _ => exact bitsA_s18 Q c ht
    | 19, _ => exact bitsA_s19 Q c ht
    | 20, _ => exact bitsA_s20 Q c ht
    | 21, _ => exact bitsA_s21 Q c ht
    | 22, _ => exact bitsA_s22 Q c ht
    | 23, _ => exact bitsA_s23 Q c ht
    | 24, _ => exact bitsA_s24 Q c ht
    | 25, _ => exact bitsA_s25 Q c ht
    | 26, _ => exact bitsA_s26 Q c ht
    | 27, _ => exact bitsA_s27 Q c ht
    | 28, _ => exact bitsA_s28 Q c ht
    | 29, _ => exact bitsA_s29 Q c ht
    | 30, _ => exact bitsA_s30 Q c ht
    | 31, _ => exact bitsA_s31 Q c ht
    | 32, _ => exact bitsA_s32 Q c ht
    | 33, _ => exact bitsA_s33 Q c ht
    | 34, _ => exact bitsA_s34 Q c ht
    | 35, _ => exact bitsA_s35 Q c ht
    | 36, _ => exact bitsA_s36 Q c ht
    | 37, _ => exact bitsA_s37 Q c ht
    | 38, _ => exact bitsA_s38 Q c ht
    | 39, _ => exact bitsA_s39 Q c ht
    | 40, _ => exact bitsA_s40 Q c ht
    | i + 41, hi => exact absurd hi (by rw [bitsAO_size]; omega)
  · exact bitsAO_back
  · rintro L a w hall ⟨l, hl, hLn, rfl, hI⟩
    have h1 := hend (nth l)
    rw [list_nth hl] at h1
    rw [h1]
    exact hex (nth l) w (hI.gotK 0 (hall 0 (by rw [bitsAO_size]; decide)) rfl) (hI.gotK 1 (hall 1 (by rw [bitsAO_size]; decide)) rfl) (hI.gotK 2 (hall 2 (by rw [bitsAO_size]; decide)) rfl) (hI.gotK 3 (hall 3 (by rw [bitsAO_size]; decide)) rfl) (hI.gotK 4 (hall 4 (by rw [bitsAO_size]; decide)) rfl) (hI.gotK 5 (hall 5 (by rw [bitsAO_size]; decide)) rfl) (hI.gotK 6 (hall 6 (by rw [bitsAO_size]; decide)) rfl) (hI.gotK 7 (hall 7 (by rw [bitsAO_size]; decide)) rfl) (hI.gotK 8 (hall 8 (by rw [bitsAO_size]; decide)) rfl) (hI.gotK 9 (hall 9 (by rw [bitsAO_size]; decide)) rfl) (hI.gotK 10 (hall 10 (by rw [bitsAO_size]; decide)) rfl) (hI.gotK 11 (hall 11 (by rw [bitsAO_size]; decide)) rfl) (hI.gotK 12 (hall 12 (by rw [bitsAO_size]; decide)) rfl) (hI.gotK 13 (hall 13 (by rw [bitsAO_size]; decide)) rfl) (hI.gotK 14 (hall 14 (by rw [bitsAO_size]; decide)) rfl) (hI.gotK 15 (hall 15 (by rw [bitsAO_size]; decide)) rfl) (hI.gotK 16 (hall 16 (by rw [bitsAO_size]; decide)) rfl) (hI.gotK 17 (hall 17 (by rw [bitsAO_size]; decide)) rfl) (hI.gotK 18 (hall 18 (by rw [bitsAO_size]; decide)) rfl) (hI.gotK 19 (hall 19 (by rw [bitsAO_size]; decide)) rfl) (hI.gotK 20 (hall 20 (by rw [bitsAO_size]; decide)) rfl) (hI.gotK 21 (hall 21 (by rw [bitsAO_size]; decide)) rfl) (hI.gotK 22 (hall 22 (by rw [bitsAO_size]; decide)) rfl) (hI.gotK 23 (hall 23 (by rw [bitsAO_size]; decide)) rfl) (hI.gotK 24 (hall 24 (by rw [bitsAO_size]; decide)) rfl) (hI.gotK 25 (hall 25 (by rw [bitsAO_size]; decide)) rfl) (hI.gotK 26 (hall 26 (by rw [bitsAO_size]; decide)) rfl) (hI.gotK 27 (hall 27 (by rw [bitsAO_size]; decide)) rfl) (hI.gotK 28 (hall 28 (by rw [bitsAO_size]; decide)) rfl) (hI.gotK 29 (hall 29 (by rw [bitsAO_size]; decide)) rfl) (hI.gotK 30 (hall 30 (by rw [bitsAO_size]; decide)) rfl) (hI.gotK 31 (hall 31 (by rw [bitsAO_size]; decide)) rfl) (hI.gotK 32 (hall 32 (by rw [bitsAO_size]; decide)) rfl) (hI.gotK 33 (hall 33 (by rw [bitsAO_size]; decide)) rfl) (hI.gotK 34 (hall 34 (by rw [bitsAO_size]; decide)) rfl) (hI.gotK 35 (hall 35 (by rw [bitsAO_size]; decide)) rfl) (hI.gotK 36 (hall 36 (by rw [bitsAO_size]; decide)) rfl) (hI.gotK 37 (hall 37 (by rw [bitsAO_size]; decide)) rfl) (hI.gotK 38 (hall 38 (by rw [bitsAO_size]; decide)) rfl) (hI.gotK 39 (hall 39 (by rw [bitsAO_size]; decide)) rfl) (hI.gotK 40 (hall 40 (by rw [bitsAO_size]; decide)) rfl) hI.glob

abbrev bitsBD : List (Option Nat) := [some 50, some 51, some 52, some 53, some 54, some 55, some 56, some 57, some 58, some 59, some 60, some 61, some 62, some 63, some 64, some 65, some 66, some 67, some 68, some 69, some 70, some 71, some 72, some 73, some 74, some 75, some 76, some 77, some 78, some 79, some 80, some 81, some 82, some 83]
noncomputable def bitsBO : { c : Array Oper // (Tryd.f5.body.bind (findRegion 3)) = some (.region 3 c true) } := ⟨_, rfl⟩
theorem bitsBO_size : bitsBO.1.size = 34 := rfl
theorem bitsBO0 : ∃ o, bitsBO.1[0]? = some o ∧ o.dst = some 50 ∧ o.guard = none ∧ o.op = Go.Op.load 24 (Go.Operand.tmp 4) := ⟨_, rfl, rfl, rfl, rfl⟩
theorem bitsBO1 : ∃ o, bitsBO.1[1]? = some o ∧ o.dst = some 51 ∧ o.guard = none ∧ o.op = Go.Op.load 24 (Go.Operand.tmp 5) := ⟨_, rfl, rfl, rfl, rfl⟩
theorem bitsBO2 : ∃ o, bitsBO.1[2]? = some o ∧ o.dst = some 52 ∧ o.guard = none ∧ o.op = Go.Op.call { callee := Go.Callee.value (Go.Operand.func 26), args := #[Go.Operand.tmp 50, Go.Operand.tmp 51], argTypes := #[24, 24] } := ⟨_, rfl, rfl, rfl, rfl⟩
theorem bitsBO3 : ∃ o, bitsBO.1[3]? = some o ∧ o.dst = some 53 ∧ o.guard = none ∧ o.op = Go.Op.load 24 (Go.Operand.tmp 4) := ⟨_, rfl, rfl, rfl, rfl⟩
theorem bitsBO4 : ∃ o, bitsBO.1[4]? = some o ∧ o.dst = some 54 ∧ o.guard = none ∧ o.op = Go.Op.load 24 (Go.Operand.tmp 5) := ⟨_, rfl, rfl, rfl, rfl⟩
theorem bitsBO5 : ∃ o, bitsBO.1[5]? = some o ∧ o.dst = some 55 ∧ o.guard = none ∧ o.op = Go.Op.call { callee := Go.Callee.value (Go.Operand.func 27), args := #[Go.Operand.tmp 53, Go.Operand.tmp 54], argTypes := #[24, 24] } := ⟨_, rfl, rfl, rfl, rfl⟩
theorem bitsBO6 : ∃ o, bitsBO.1[6]? = some o ∧ o.dst = some 56 ∧ o.guard = none ∧ o.op = Go.Op.binOp Go.BinOp.neq 24 (Go.Operand.tmp 52) (Go.Operand.tmp 55) 24 := ⟨_, rfl, rfl, rfl, rfl⟩
theorem bitsBO7 : ∃ o, bitsBO.1[7]? = some o ∧ o.dst = some 57 ∧ o.guard = none ∧ o.op = Go.Op.move (Go.Operand.tmp 56) := ⟨_, rfl, rfl, rfl, rfl⟩
theorem bitsBO8 : ∃ o, bitsBO.1[8]? = some o ∧ o.dst = some 58 ∧ o.guard = some (7, false) ∧ o.op = Go.Op.load 24 (Go.Operand.tmp 4) := ⟨_, rfl, rfl, rfl, rfl⟩
theorem bitsBO9 : ∃ o, bitsBO.1[9]? = some o ∧ o.dst = some 59 ∧ o.guard = some (7, false) ∧ o.op = Go.Op.load 24 (Go.Operand.tmp 5) := ⟨_, rfl, rfl, rfl, rfl⟩
theorem bitsBO10 : ∃ o, bitsBO.1[10]? = some o ∧ o.dst = some 60 ∧ o.guard = some (7, false) ∧ o.op = Go.Op.call { callee := Go.Callee.value (Go.Operand.func 28), args := #[Go.Operand.tmp 58, Go.Operand.tmp 59], argTypes := #[24, 24] } := ⟨_, rfl, rfl, rfl, rfl⟩
theorem bitsBO11 : ∃ o, bitsBO.1[11]? = some o ∧ o.dst = some 61 ∧ o.guard = some (7, false) ∧ o.op = Go.Op.load 24 (Go.Operand.tmp 4) := ⟨_, rfl, rfl, rfl, rfl⟩
theorem bitsBO12 : ∃ o, bitsBO.1[12]? = some o ∧ o.dst = some 62 ∧ o.guard = some (7, false) ∧ o.op = Go.Op.load 24 (Go.Operand.tmp 5) := ⟨_, rfl, rfl, rfl, rfl⟩
theorem bitsBO13 : ∃ o, bitsBO.1[13]? = some o ∧ o.dst = some 63 ∧ o.guard = some (7, false) ∧ o.op = Go.Op.call { callee := Go.Callee.value (Go.Operand.func 29), args := #[Go.Operand.tmp 61, Go.Operand.tmp 62], argTypes := #[24, 24] } := ⟨_, rfl, rfl, rfl, rfl⟩
theorem bitsBO14 : ∃ o, bitsBO.1[14]? = some o ∧ o.dst = some 64 ∧ o.guard = some (7, false) ∧ o.op = Go.Op.binOp Go.BinOp.neq 24 (Go.Operand.tmp 60) (Go.Operand.tmp 63) 24 := ⟨_, rfl, rfl, rfl, rfl⟩
theorem bitsBO15 : ∃ o, bitsBO.1[15]? = some o ∧ o.dst = some 65 ∧ o.guard = none ∧ o.op = Go.Op.pick (Go.Operand.tmp 57) (Go.Operand.const (Go.Value.bool true)) (Go.Operand.tmp 64) := ⟨_, rfl, rfl, rfl, rfl⟩
theorem bitsBO16 : ∃ o, bitsBO.1[16]? = some o ∧ o.dst = some 66 ∧ o.guard = none ∧ o.op = Go.Op.move (Go.Operand.tmp 65) := ⟨_, rfl, rfl, rfl, rfl⟩
theorem bitsBO17 : ∃ o, bitsBO.1[17]? = some o ∧ o.dst = some 67 ∧ o.guard = some (16, false) ∧ o.op = Go.Op.load 24 (Go.Operand.tmp 4) := ⟨_, rfl, rfl, rfl, rfl⟩
theorem bitsBO18 : ∃ o, bitsBO.1[18]? = some o ∧ o.dst = some 68 ∧ o.guard = some (16, false) ∧ o.op = Go.Op.load 24 (Go.Operand.tmp 5) := ⟨_, rfl, rfl, rfl, rfl⟩
theorem bitsBO19 : ∃ o, bitsBO.1[19]? = some o ∧ o.dst = some 69 ∧ o.guard = some (16, false) ∧ o.op = Go.Op.call { callee := Go.Callee.value (Go.Operand.func 30), args := #[Go.Operand.tmp 67, Go.Operand.tmp 68], argTypes := #[24, 24] } := ⟨_, rfl, rfl, rfl, rfl⟩
theorem bitsBO20 : ∃ o, bitsBO.1[20]? = some o ∧ o.dst = some 70 ∧ o.guard = some (16, false) ∧ o.op = Go.Op.load 24 (Go.Operand.tmp 4) := ⟨_, rfl, rfl, rfl, rfl⟩
theorem bitsBO21 : ∃ o, bitsBO.1[21]? = some o ∧ o.dst = some 71 ∧ o.guard = some (16, false) ∧ o.op = Go.Op.load 24 (Go.Operand.tmp 5) := ⟨_, rfl, rfl, rfl, rfl⟩
theorem bitsBO22 : ∃ o, bitsBO.1[22]? = some o ∧ o.dst = some 72 ∧ o.guard = some (16, false) ∧ o.op = Go.Op.call { callee := Go.Callee.value (Go.Operand.func 31), args := #[Go.Operand.tmp 70, Go.Operand.tmp 71], argTypes := #[24, 24] } := ⟨_, rfl, rfl, rfl, rfl⟩
theorem bitsBO23 : ∃ o, bitsBO.1[23]? = some o ∧ o.dst = some 73 ∧ o.guard = some (16, false) ∧ o.op = Go.Op.binOp Go.BinOp.neq 24 (Go.Operand.tmp 69) (Go.Operand.tmp 72) 24 := ⟨_, rfl, rfl, rfl, rfl⟩
theorem bitsBO24 : ∃ o, bitsBO.1[24]? = some o ∧ o.dst = some 74 ∧ o.guard = none ∧ o.op = Go.Op.pick (Go.Operand.tmp 66) (Go.Operand.const (Go.Value.bool true)) (Go.Operand.tmp 73) := ⟨_, rfl, rfl, rfl, rfl⟩
theorem bitsBO25 : ∃ o, bitsBO.1[25]? = some o ∧ o.dst = some 75 ∧ o.guard = none ∧ o.op = Go.Op.move (Go.Operand.tmp 74) := ⟨_, rfl, rfl, rfl, rfl⟩
theorem bitsBO26 : ∃ o, bitsBO.1[26]? = some o ∧ o.dst = some 76 ∧ o.guard = some (25, false) ∧ o.op = Go.Op.load 24 (Go.Operand.tmp 4) := ⟨_, rfl, rfl, rfl, rfl⟩
theorem bitsBO27 : ∃ o, bitsBO.1[27]? = some o ∧ o.dst = some 77 ∧ o.guard = some (25, false) ∧ o.op = Go.Op.move (Go.Operand.tmp 2) := ⟨_, rfl, rfl, rfl, rfl⟩
theorem bitsBO28 : ∃ o, bitsBO.1[28]? = some o ∧ o.dst = some 78 ∧ o.guard = some (25, false) ∧ o.op = Go.Op.call { callee := Go.Callee.value (Go.Operand.func 14), args := #[Go.Operand.tmp 76, Go.Operand.tmp 77], argTypes := #[24, 3] } := ⟨_, rfl, rfl, rfl, rfl⟩
theorem bitsBO29 : ∃ o, bitsBO.1[29]? = some o ∧ o.dst = some 79 ∧ o.guard = some (25, false) ∧ o.op = Go.Op.load 24 (Go.Operand.tmp 4) := ⟨_, rfl, rfl, rfl, rfl⟩
theorem bitsBO30 : ∃ o, bitsBO.1[30]? = some o ∧ o.dst = some 80 ∧ o.guard = some (25, false) ∧ o.op = Go.Op.move (Go.Operand.tmp 2) := ⟨_, rfl, rfl, rfl, rfl⟩
theorem bitsBO31 : ∃ o, bitsBO.1[31]? = some o ∧ o.dst = some 81 ∧ o.guard = some (25, false) ∧ o.op = Go.Op.call { callee := Go.Callee.value (Go.Operand.func 32), args := #[Go.Operand.tmp 79, Go.Operand.tmp 80], argTypes := #[24, 3] } := ⟨_, rfl, rfl, rfl, rfl⟩
theorem bitsBO32 : ∃ o, bitsBO.1[32]? = some o ∧ o.dst = some 82 ∧ o.guard = some (25, false) ∧ o.op = Go.Op.binOp Go.BinOp.neq 24 (Go.Operand.tmp 78) (Go.Operand.tmp 81) 24 := ⟨_, rfl, rfl, rfl, rfl⟩
theorem bitsBO33 : ∃ o, bitsBO.1[33]? = some o ∧ o.dst = some 83 ∧ o.guard = none ∧ o.op = Go.Op.pick (Go.Operand.tmp 75) (Go.Operand.const (Go.Value.bool true)) (Go.Operand.tmp 82) := ⟨_, rfl, rfl, rfl, rfl⟩
theorem bitsBO_back : ∀ (i : Nat) (o : Oper), bitsBO.1[i]? = some o → ∀ e ∈ o.after, Region.binds .any e = true → e.on < i := by
  have h : ((List.range 34).all fun i => (bitsBO.1[i]?.map fun o => o.after.all fun e => !Region.binds .any e || decide (e.on < i)).getD false) = true := by kernel_rfl
  intro i o ho e he hb
  have hi : i < 34 := by
    by_cases q : i < 34
    · exact q
    · rw [Array.getElem?_eq_none (by rw [bitsBO_size]; omega)] at ho; cases ho
  have h2 := List.all_eq_true.1 h i (List.mem_range.2 hi)
  rw [ho] at h2
  simp only [Option.map_some, Option.getD_some, Array.all_eq_true'] at h2
  have h3 := h2 e he
  rw [hb] at h3
  simpa using h3
def bitsBK (gA gB a b : Nat) (k j : Int) : List (List Nat × Tw) := [isJ [] (numV (a)), isJ [] (numV (b)), isJ [] (numV (a &&& b)), isJ [] (numV (a)), isJ [] (numV (b)), isJ [] (numV (a &&& b)), isJ [] (.bool false), isJ [] (.bool false), isJ [] (numV (a)), isJ [] (numV (b)), isJ [] (numV (a ||| b)), isJ [] (numV (a)), isJ [] (numV (b)), isJ [] (numV (a ||| b)), isJ [] (.bool false), isJ [] (.bool false), isJ [] (.bool false), isJ [] (numV (a)), isJ [] (numV (b)), isJ [] (numV (a ^^^ b)), isJ [] (numV (a)), isJ [] (numV (b)), isJ [] (numV (a ^^^ b)), isJ [] (.bool false), isJ [] (.bool false), isJ [] (.bool false), isJ [] (numV (a)), isJ [] (.int .i64 k), isJ [] (numV ((a % 2 ^ sh k) ^^^ (2 ^ sh k - 1))), isJ [] (numV (a)), isJ [] (.int .i64 k), isJ [] (numV ((a % 2 ^ sh k) ^^^ (2 ^ sh k - 1))), isJ [] (.bool false), isJ [] (.bool false)]
theorem bitsBK_free {gA gB a b : Nat} {k j : Int} : KdFree (bitsBK gA gB a b k j) := fun i js P hk B w w' ls v hp => by
  match i, hk with
  | 0, hk => cases hk; exact hp
  | 1, hk => cases hk; exact hp
  | 2, hk => cases hk; exact hp
  | 3, hk => cases hk; exact hp
  | 4, hk => cases hk; exact hp
  | 5, hk => cases hk; exact hp
  | 6, hk => cases hk; exact hp
  | 7, hk => cases hk; exact hp
  | 8, hk => cases hk; exact hp
  | 9, hk => cases hk; exact hp
  | 10, hk => cases hk; exact hp
  | 11, hk => cases hk; exact hp
  | 12, hk => cases hk; exact hp
  | 13, hk => cases hk; exact hp
  | 14, hk => cases hk; exact hp
  | 15, hk => cases hk; exact hp
  | 16, hk => cases hk; exact hp
  | 17, hk => cases hk; exact hp
  | 18, hk => cases hk; exact hp
  | 19, hk => cases hk; exact hp
  | 20, hk => cases hk; exact hp
  | 21, hk => cases hk; exact hp
  | 22, hk => cases hk; exact hp
  | 23, hk => cases hk; exact hp
  | 24, hk => cases hk; exact hp
  | 25, hk => cases hk; exact hp
  | 26, hk => cases hk; exact hp
  | 27, hk => cases hk; exact hp
  | 28, hk => cases hk; exact hp
  | 29, hk => cases hk; exact hp
  | 30, hk => cases hk; exact hp
  | 31, hk => cases hk; exact hp
  | 32, hk => cases hk; exact hp
  | 33, hk => cases hk; exact hp
  | i + 34, hk => simp [bitsBK] at hk
structure bitsBC (gA gB a b : Nat) (k j : Int) (WB : World) (T : List Value) : Prop where
  tl : T.length = 156
  t2 : nth T 2 = .int .i64 k
  t3 : nth T 3 = .int .i64 j
  t4 : nth T 4 = .pointer (some ⟨gA, 0, none⟩)
  t5 : nth T 5 = .pointer (some ⟨gB, 0, none⟩)
  ca0 : WB.cell? ⟨gA, 0, none⟩ = some (.int .u64 ((a / B : Nat) : Int))
  ca1 : WB.cell? ⟨gA, 1, none⟩ = some (.int .u64 ((a % B : Nat) : Int))
  cb0 : WB.cell? ⟨gB, 0, none⟩ = some (.int .u64 ((b / B : Nat) : Int))
  cb1 : WB.cell? ⟨gB, 1, none⟩ = some (.int .u64 ((b % B : Nat) : Int))
  la : a < B * B
  lb : b < B * B
  lj : j ≤ 9223372036854775807
set_option maxRecDepth 100000 in
set_option maxHeartbeats 1000000 in
theorem bitsB_s0 {gA gB a b : Nat} {k j : Int} {WB w : World} {T l : List Value} {L : Array Bool} (Q : Exit → Act → World → Prop) (c : bitsBC gA gB a b k j WB T) (h : VT Tryd.prog bitsBO.1 34 156 bitsBD WB (bitsBK gA gB a b k j) T L l w 0) : wpOp Tryd.prog bitsBO.1 Q 0 (SJ (vaR WB (bitsBK gA gB a b k j)) 34 bitsBD T (L.setIfInBounds 0 true)) (frm2 bitsBD T l) w := by
  obtain ⟨o, ho, hd, hg, hop⟩ := bitsBO0
  have hw := wanted_un (ops := bitsBO.1) (t := (frm2 bitsBD T l).tmps) hg
  exact h.same (v := numV (a)) ho hd rfl hw rfl (ex_load_n hop ((h.old (s := 4) rfl (by decide)).trans c.t4) (h.cell c.ca0) (h.cell c.ca1))

set_option maxRecDepth 100000 in
set_option maxHeartbeats 1000000 in
theorem bitsB_s1 {gA gB a b : Nat} {k j : Int} {WB w : World} {T l : List Value} {L : Array Bool} (Q : Exit → Act → World → Prop) (c : bitsBC gA gB a b k j WB T) (h : VT Tryd.prog bitsBO.1 34 156 bitsBD WB (bitsBK gA gB a b k j) T L l w 1) : wpOp Tryd.prog bitsBO.1 Q 1 (SJ (vaR WB (bitsBK gA gB a b k j)) 34 bitsBD T (L.setIfInBounds 1 true)) (frm2 bitsBD T l) w := by
  obtain ⟨o, ho, hd, hg, hop⟩ := bitsBO1
  have hw := wanted_un (ops := bitsBO.1) (t := (frm2 bitsBD T l).tmps) hg
  exact h.same (v := numV (b)) ho hd rfl hw rfl (ex_load_n hop ((h.old (s := 5) rfl (by decide)).trans c.t5) (h.cell c.cb0) (h.cell c.cb1))

set_option maxRecDepth 100000 in
set_option maxHeartbeats 1000000 in
theorem bitsB_s2 {gA gB a b : Nat} {k j : Int} {WB w : World} {T l : List Value} {L : Array Bool} (Q : Exit → Act → World → Prop) (c : bitsBC gA gB a b k j WB T) (h : VT Tryd.prog bitsBO.1 34 156 bitsBD WB (bitsBK gA gB a b k j) T L l w 2) : wpOp Tryd.prog bitsBO.1 Q 2 (SJ (vaR WB (bitsBK gA gB a b k j)) 34 bitsBD T (L.setIfInBounds 2 true)) (frm2 bitsBD T l) w := by
  obtain ⟨o, ho, hd, hg, hop⟩ := bitsBO2
  have hw := wanted_un (ops := bitsBO.1) (t := (frm2 bitsBD T l).tmps) hg
  have x50 := ((h.new (s := 50) (j := 0) rfl (by decide)).trans (h.rw.gotK 0 (dep_of (a := 0) (by kernel_rfl) h.dep) rfl))
  have x51 := ((h.new (s := 51) (j := 1) rfl (by decide)).trans (h.rw.gotK 1 (dep_of (a := 1) (by kernel_rfl) h.dep) rfl))
  exact h.call (v := numV (a &&& b)) ho hd rfl hw rfl (ex_call hop rfl rfl (args := #[numV (a), numV (b)]) (all := #[numV (a), numV (b)]) (by simp only [List.map_toArray, List.map_cons, List.map_nil]; rw [x50, x51]) (by simp) (fun av W => by kernel_rfl)) (numAnd_any a b w c.la c.lb)

set_option maxRecDepth 100000 in
set_option maxHeartbeats 1000000 in
theorem bitsB_s3 {gA gB a b : Nat} {k j : Int} {WB w : World} {T l : List Value} {L : Array Bool} (Q : Exit → Act → World → Prop) (c : bitsBC gA gB a b k j WB T) (h : VT Tryd.prog bitsBO.1 34 156 bitsBD WB (bitsBK gA gB a b k j) T L l w 3) : wpOp Tryd.prog bitsBO.1 Q 3 (SJ (vaR WB (bitsBK gA gB a b k j)) 34 bitsBD T (L.setIfInBounds 3 true)) (frm2 bitsBD T l) w := by
  obtain ⟨o, ho, hd, hg, hop⟩ := bitsBO3
  have hw := wanted_un (ops := bitsBO.1) (t := (frm2 bitsBD T l).tmps) hg
  exact h.same (v := numV (a)) ho hd rfl hw rfl (ex_load_n hop ((h.old (s := 4) rfl (by decide)).trans c.t4) (h.cell c.ca0) (h.cell c.ca1))

set_option maxRecDepth 100000 in
set_option maxHeartbeats 1000000 in
theorem bitsB_s4 {gA gB a b : Nat} {k j : Int} {WB w : World} {T l : List Value} {L : Array Bool} (Q : Exit → Act → World → Prop) (c : bitsBC gA gB a b k j WB T) (h : VT Tryd.prog bitsBO.1 34 156 bitsBD WB (bitsBK gA gB a b k j) T L l w 4) : wpOp Tryd.prog bitsBO.1 Q 4 (SJ (vaR WB (bitsBK gA gB a b k j)) 34 bitsBD T (L.setIfInBounds 4 true)) (frm2 bitsBD T l) w := by
  obtain ⟨o, ho, hd, hg, hop⟩ := bitsBO4
  have hw := wanted_un (ops := bitsBO.1) (t := (frm2 bitsBD T l).tmps) hg
  exact h.same (v := numV (b)) ho hd rfl hw rfl (ex_load_n hop ((h.old (s := 5) rfl (by decide)).trans c.t5) (h.cell c.cb0) (h.cell c.cb1))

set_option maxRecDepth 100000 in
set_option maxHeartbeats 1000000 in
theorem bitsB_s5 {gA gB a b : Nat} {k j : Int} {WB w : World} {T l : List Value} {L : Array Bool} (Q : Exit → Act → World → Prop) (c : bitsBC gA gB a b k j WB T) (h : VT Tryd.prog bitsBO.1 34 156 bitsBD WB (bitsBK gA gB a b k j) T L l w 5) : wpOp Tryd.prog bitsBO.1 Q 5 (SJ (vaR WB (bitsBK gA gB a b k j)) 34 bitsBD T (L.setIfInBounds 5 true)) (frm2 bitsBD T l) w := by
  obtain ⟨o, ho, hd, hg, hop⟩ := bitsBO5
  have hw := wanted_un (ops := bitsBO.1) (t := (frm2 bitsBD T l).tmps) hg
  have x53 := ((h.new (s := 53) (j := 3) rfl (by decide)).trans (h.rw.gotK 3 (dep_of (a := 3) (by kernel_rfl) h.dep) rfl))
  have x54 := ((h.new (s := 54) (j := 4) rfl (by decide)).trans (h.rw.gotK 4 (dep_of (a := 4) (by kernel_rfl) h.dep) rfl))
  exact h.call (v := numV (a &&& b)) ho hd rfl hw rfl (ex_call hop rfl rfl (args := #[numV (a), numV (b)]) (all := #[numV (a), numV (b)]) (by simp only [List.map_toArray, List.map_cons, List.map_nil]; rw [x53, x54]) (by simp) (fun av W => by kernel_rfl)) (refAnd_any a b c.la c.lb w)

set_option maxRecDepth 100000 in
set_option maxHeartbeats 1000000 in
theorem bitsB_s6 {gA gB a b : Nat} {k j : Int} {WB w : World} {T l : List Value} {L : Array Bool} (Q : Exit → Act → World → Prop) (c : bitsBC gA gB a b k j WB T) (h : VT Tryd.prog bitsBO.1 34 156 bitsBD WB (bitsBK gA gB a b k j) T L l w 6) : wpOp Tryd.prog bitsBO.1 Q 6 (SJ (vaR WB (bitsBK gA gB a b k j)) 34 bitsBD T (L.setIfInBounds 6 true)) (frm2 bitsBD T l) w := by
  obtain ⟨o, ho, hd, hg, hop⟩ := bitsBO6
  have hw := wanted_un (ops := bitsBO.1) (t := (frm2 bitsBD T l).tmps) hg
  exact h.same (v := .bool false) ho hd rfl hw rfl (ex_neqN hop ((h.new (s := 52) (j := 2) rfl (by decide)).trans (h.rw.gotK 2 (dep_of (a := 2) (by kernel_rfl) h.dep) rfl)) ((h.new (s := 55) (j := 5) rfl (by decide)).trans (h.rw.gotK 5 (dep_of (a := 5) (by kernel_rfl) h.dep) rfl)) (rfl))

set_option maxRecDepth 100000 in
set_option maxHeartbeats 1000000 in
theorem bitsB_s7 {gA gB a b : Nat} {k j : Int} {WB w : World} {T l : List Value} {L : Array Bool} (Q : Exit → Act → World → Prop) (c : bitsBC gA gB a b k j WB T) (h : VT Tryd.prog bitsBO.1 34 156 bitsBD WB (bitsBK gA gB a b k j) T L l w 7) : wpOp Tryd.prog bitsBO.1 Q 7 (SJ (vaR WB (bitsBK gA gB a b k j)) 34 bitsBD T (L.setIfInBounds 7 true)) (frm2 bitsBD T l) w := by
  obtain ⟨o, ho, hd, hg, hop⟩ := bitsBO7
  have hw := wanted_un (ops := bitsBO.1) (t := (frm2 bitsBD T l).tmps) hg
  exact h.same (v := .bool false) ho hd rfl hw rfl (ex_move hop ((h.new (s := 56) (j := 6) rfl (by decide)).trans (h.rw.gotK 6 (dep_of (a := 6) (by kernel_rfl) h.dep) rfl)))

set_option maxRecDepth 100000 in
set_option maxHeartbeats 1000000 in
theorem bitsB_s8 {gA gB a b : Nat} {k j : Int} {WB w : World} {T l : List Value} {L : Array Bool} (Q : Exit → Act → World → Prop) (c : bitsBC gA gB a b k j WB T) (h : VT Tryd.prog bitsBO.1 34 156 bitsBD WB (bitsBK gA gB a b k j) T L l w 8) : wpOp Tryd.prog bitsBO.1 Q 8 (SJ (vaR WB (bitsBK gA gB a b k j)) 34 bitsBD T (L.setIfInBounds 8 true)) (frm2 bitsBD T l) w := by
  obtain ⟨o, ho, hd, hg, hop⟩ := bitsBO8
  obtain ⟨oj, hj, hdj, -, -⟩ := bitsBO7
  have hw := wanted2_go (T := T) (l := l) hg hj hdj (show slotOf bitsBD 57 = some 7 from rfl) (by rw [h.tl]; decide) (h.rw.gotK 7 (dep_of (a := 7) (by kernel_rfl) h.dep) rfl)
  exact h.same (v := numV (a)) ho hd rfl hw rfl (ex_load_n hop ((h.old (s := 4) rfl (by decide)).trans c.t4) (h.cell c.ca0) (h.cell c.ca1))

set_option maxRecDepth 100000 in
set_option maxHeartbeats 1000000 in
theorem bitsB_s9 {gA gB a b : Nat} {k j : Int} {WB w : World} {T l : List Value} {L : Array Bool} (Q : Exit → Act → World → Prop) (c : bitsBC gA gB a b k j WB T) (h : VT Tryd.prog bitsBO.1 34 156 bitsBD WB (bitsBK gA gB a b k j) T L l w 9) : wpOp Tryd.prog bitsBO.1 Q 9 (SJ (vaR WB (bitsBK gA gB a b k j)) 34 bitsBD T (L.setIfInBounds 9 true)) (frm2 bitsBD T l) w := by
  obtain ⟨o, ho, hd, hg, hop⟩ := bitsBO9
  obtain ⟨oj, hj, hdj, -, -⟩ := bitsBO7
  have hw := wanted2_go (T := T) (l := l) hg hj hdj (show slotOf bitsBD 57 = some 7 from rfl) (by rw [h.tl]; decide) (h.rw.gotK 7 (dep_of (a := 7) (by kernel_rfl) h.dep) rfl)
  exact h.same (v := numV (b)) ho hd rfl hw rfl (ex_load_n hop ((h.old (s := 5) rfl (by decide)).trans c.t5) (h.cell c.cb0) (h.cell c.cb1))

set_option maxRecDepth 100000 in
set_option maxHeartbeats 1000000 in
theorem bitsB_s10 {gA gB a b : Nat} {k j : Int} {WB w : World} {T l : List Value} {L : Array Bool} (Q : Exit → Act → World → Prop) (c : bitsBC gA gB a b k j WB T) (h : VT Tryd.prog bitsBO.1 34 156 bitsBD WB (bitsBK gA gB a b k j) T L l w 10) : wpOp Tryd.prog bitsBO.1 Q 10 (SJ (vaR WB (bitsBK gA gB a b k j)) 34 bitsBD T (L.setIfInBounds 10 true)) (frm2 bitsBD T l) w := by
  obtain ⟨o, ho, hd, hg, hop⟩ := bitsBO10
  obtain ⟨oj, hj, hdj, -, -⟩ := bitsBO7
  have hw := wanted2_go (T := T) (l := l) hg hj hdj (show slotOf bitsBD 57 = some 7 from rfl) (by rw [h.tl]; decide) (h.rw.gotK 7 (dep_of (a := 7) (by kernel_rfl) h.dep) rfl)
  have x58 := ((h.new (s := 58) (j := 8) rfl (by decide)).trans (h.rw.gotK 8 (dep_of (a := 8) (by kernel_rfl) h.dep) rfl))
  have x59 := ((h.new (s := 59) (j := 9) rfl (by decide)).trans (h.rw.gotK 9 (dep_of (a := 9) (by kernel_rfl) h.dep) rfl))
  exact h.call (v := numV (a ||| b)) ho hd rfl hw rfl (ex_call hop rfl rfl (args := #[numV (a), numV (b)]) (all := #[numV (a), numV (b)]) (by simp only [List.map_toArray, List.map_cons, List.map_nil]; rw [x58, x59]) (by simp) (fun av W => by kernel_rfl)) (numOr_any a b w c.la c.lb)

set_option maxRecDepth 100000 in
set_option maxHeartbeats 1000000 in
theorem bitsB_s11 {gA gB a b : Nat} {k j : Int} {WB w : World} {T l : List Value} {L : Array Bool} (Q : Exit → Act → World → Prop) (c : bitsBC gA gB a b k j WB T) (h : VT Tryd.prog bitsBO.1 34 156 bitsBD WB (bitsBK gA gB a b k j) T L l w 11) : wpOp Tryd.prog bitsBO.1 Q 11 (SJ (vaR WB (bitsBK gA gB a b k j)) 34 bitsBD T (L.setIfInBounds 11 true)) (frm2 bitsBD T l) w := by
  obtain ⟨o, ho, hd, hg, hop⟩ := bitsBO11
  obtain ⟨oj, hj, hdj, -, -⟩ := bitsBO7
  have hw := wanted2_go (T := T) (l := l) hg hj hdj (show slotOf bitsBD 57 = some 7 from rfl) (by rw [h.tl]; decide) (h.rw.gotK 7 (dep_of (a := 7) (by kernel_rfl) h.dep) rfl)
  exact h.same (v := numV (a)) ho hd rfl hw rfl (ex_load_n hop ((h.old (s := 4) rfl (by decide)).trans c.t4) (h.cell c.ca0) (h.cell c.ca1))

set_option maxRecDepth 100000 in
set_option maxHeartbeats 1000000 in
theorem bitsB_s12 {gA gB a b : Nat} {k j : Int} {WB w : World} {T l : List Value} {L : Array Bool} (Q : Exit → Act → World → Prop) (c : bitsBC gA gB a b k j WB T) (h : VT Tryd.prog bitsBO.1 34 156 bitsBD WB (bitsBK gA gB a b k j) T L l w 12) : wpOp Tryd.prog bitsBO.1 Q 12 (SJ (vaR WB (bitsBK gA gB a b k j)) 34 bitsBD T (L.setIfInBounds 12 true)) (frm2 bitsBD T l) w := by
  obtain ⟨o, ho, hd, hg, hop⟩ := bitsBO12
  obtain ⟨oj, hj, hdj, -, -⟩ := bitsBO7
  have hw := wanted2_go (T := T) (l := l) hg hj hdj (show slotOf bitsBD 57 = some 7 from rfl) (by rw [h.tl]; decide) (h.rw.gotK 7 (dep_of (a := 7) (by kernel_rfl) h.dep) rfl)
  exact h.same (v := numV (b)) ho hd rfl hw rfl (ex_load_n hop ((h.old (s := 5) rfl (by decide)).trans c.t5) (h.cell c.cb0) (h.cell c.cb1))

set_option maxRecDepth 100000 in
set_option maxHeartbeats 1000000 in
theorem bitsB_s13 {gA gB a b : Nat} {k j : Int} {WB w : World} {T l : List Value} {L : Array Bool} (Q : Exit → Act → World → Prop) (c : bitsBC gA gB a b k j WB T) (h : VT Tryd.prog bitsBO.1 34 156 bitsBD WB (bitsBK gA gB a b k j) T L l w 13) : wpOp Tryd.prog bitsBO.1 Q 13 (SJ (vaR WB (bitsBK gA gB a b k j)) 34 bitsBD T (L.setIfInBounds 13 true)) (frm2 bitsBD T l) w := by
  obtain ⟨o, ho, hd, hg, hop⟩ := bitsBO13
  obtain ⟨oj, hj, hdj, -, -⟩ := bitsBO7
  have hw := wanted2_go (T := T) (l := l) hg hj hdj (show slotOf bitsBD 57 = some 7 from rfl) (by rw [h.tl]; decide) (h.rw.gotK 7 (dep_of (a := 7) (by kernel_rfl) h.dep) rfl)
  have x61 := ((h.new (s := 61) (j := 11) rfl (by decide)).trans (h.rw.gotK 11 (dep_of (a := 11) (by kernel_rfl) h.dep) rfl))
  have x62 := ((h.new (s := 62) (j := 12) rfl (by decide)).trans (h.rw.gotK 12 (dep_of (a := 12) (by kernel_rfl) h.dep) rfl))
  exact h.call (v := numV (a ||| b)) ho hd rfl hw rfl (ex_call hop rfl rfl (args := #[numV (a), numV (b)]) (all := #[numV (a), numV (b)]) (by simp only [List.map_toArray, List.map_cons, List.map_nil]; rw [x61, x62]) (by simp) (fun av W => by kernel_rfl)) (refOr_any a b c.la c.lb w)

set_option maxRecDepth 100000 in
set_option maxHeartbeats 1000000 in
theorem bitsB_s14 {gA gB a b : Nat} {k j : Int} {WB w : World} {T l : List Value} {L : Array Bool} (Q : Exit → Act → World → Prop) (c : bitsBC gA gB a b k j WB T) (h : VT Tryd.prog bitsBO.1 34 156 bitsBD WB (bitsBK gA gB a b k j) T L l w 14) : wpOp Tryd.prog bitsBO.1 Q 14 (SJ (vaR WB (bitsBK gA gB a b k j)) 34 bitsBD T (L.setIfInBounds 14 true)) (frm2 bitsBD T l) w := by
  obtain ⟨o, ho, hd, hg, hop⟩ := bitsBO14
  obtain ⟨oj, hj, hdj, -, -⟩ := bitsBO7
  have hw := wanted2_go (T := T) (l := l) hg hj hdj (show slotOf bitsBD 57 = some 7 from rfl) (by rw [h.tl]; decide) (h.rw.gotK 7 (dep_of (a := 7) (by kernel_rfl) h.dep) rfl)
  exact h.same (v := .bool false) ho hd rfl hw rfl (ex_neqN hop ((h.new (s := 60) (j := 10) rfl (by decide)).trans (h.rw.gotK 10 (dep_of (a := 10) (by kernel_rfl) h.dep) rfl)) ((h.new (s := 63) (j := 13) rfl (by decide)).trans (h.rw.gotK 13 (dep_of (a := 13) (by kernel_rfl) h.dep) rfl)) (rfl))

set_option maxRecDepth 100000 in
set_option maxHeartbeats 1000000 in
theorem bitsB_s15 {gA gB a b : Nat} {k j : Int} {WB w : World} {T l : List Value} {L : Array Bool} (Q : Exit → Act → World → Prop) (c : bitsBC gA gB a b k j WB T) (h : VT Tryd.prog bitsBO.1 34 156 bitsBD WB (bitsBK gA gB a b k j) T L l w 15) : wpOp Tryd.prog bitsBO.1 Q 15 (SJ (vaR WB (bitsBK gA gB a b k j)) 34 bitsBD T (L.setIfInBounds 15 true)) (frm2 bitsBD T l) w := by
  obtain ⟨o, ho, hd, hg, hop⟩ := bitsBO15
  have hw := wanted_un (ops := bitsBO.1) (t := (frm2 bitsBD T l).tmps) hg
  exact h.same (v := .bool false) ho hd rfl hw rfl (ex_pick hop ((h.new (s := 57) (j := 7) rfl (by decide)).trans (h.rw.gotK 7 (dep_of (a := 7) (by kernel_rfl) h.dep) rfl)) ((h.new (s := 64) (j := 14) rfl (by decide)).trans (h.rw.gotK 14 (dep_of (a := 14) (by kernel_rfl) h.dep) rfl)))

set_option maxRecDepth 100000 in
set_option maxHeartbeats 1000000 in
theorem bitsB_s16 {gA gB a b : Nat} {k j : Int} {WB w : World} {T l : List Value} {L : Array Bool} (Q : Exit → Act → World → Prop) (c : bitsBC gA gB a b k j WB T) (h : VT Tryd.prog bitsBO.1 34 156 bitsBD WB (bitsBK gA gB a b k j) T L l w 16) : wpOp Tryd.prog bitsBO.1 Q 16 (SJ (vaR WB (bitsBK gA gB a b k j)) 34 bitsBD T (L.setIfInBounds 16 true)) (frm2 bitsBD T l) w := by
  obtain ⟨o, ho, hd, hg, hop⟩ := bitsBO16
  have hw := wanted_un (ops := bitsBO.1) (t := (frm2 bitsBD T l).tmps) hg
  exact h.same (v := .bool false) ho hd rfl hw rfl (ex_move hop ((h.new (s := 65) (j := 15) rfl (by decide)).trans (h.rw.gotK 15 (dep_of (a := 15) (by kernel_rfl) h.dep) rfl)))

set_option maxRecDepth 100000 in
set_option maxHeartbeats 1000000 in
theorem bitsB_s17 {gA gB a b : Nat} {k j : Int} {WB w : World} {T l : List Value} {L : Array Bool} (Q : Exit → Act → World → Prop) (c : bitsBC gA gB a b k j WB T) (h : VT Tryd.prog bitsBO.1 34 156 bitsBD WB (bitsBK gA gB a b k j) T L l w 17) : wpOp Tryd.prog bitsBO.1 Q 17 (SJ (vaR WB (bitsBK gA gB a b k j)) 34 bitsBD T (L.setIfInBounds 17 true)) (frm2 bitsBD T l) w := by
  obtain ⟨o, ho, hd, hg, hop⟩ := bitsBO17
  obtain ⟨oj, hj, hdj, -, -⟩ := bitsBO16
  have hw := wanted2_go (T := T) (l := l) hg hj hdj (show slotOf bitsBD 66 = some 16 from rfl) (by rw [h.tl]; decide) (h.rw.gotK 16 (dep_of (a := 16) (by kernel_rfl) h.dep) rfl)
  exact h.same (v := numV (a)) ho hd rfl hw rfl (ex_load_n hop ((h.old (s := 4) rfl (by decide)).trans c.t4) (h.cell c.ca0) (h.cell c.ca1))

set_option maxRecDepth 100000 in
set_option maxHeartbeats 1000000 in
theorem bitsB_s18 {gA gB a b : Nat} {k j : Int} {WB w : World} {T l : List Value} {L : Array Bool} (Q : Exit → Act → World → Prop) (c : bitsBC gA gB a b k j WB T) (h : VT Tryd.prog bitsBO.1 34 156 bitsBD WB (bitsBK gA gB a b k j) T L l w 18) : wpOp Tryd.prog bitsBO.1 Q 18 (SJ (vaR WB (bitsBK gA gB a b k j)) 34 bitsBD T (L.setIfInBounds 18 true)) (frm2 bitsBD T l) w := by
  obtain ⟨o, ho, hd, hg, hop⟩ := bitsBO18
  obtain ⟨oj, hj, hdj, -, -⟩ := bitsBO16
  have hw := wanted2_go (T := T) (l := l) hg hj hdj (show slotOf bitsBD 66 = some 16 from rfl) (by rw [h.tl]; decide) (h.rw.gotK 16 (dep_of (a := 16) (by kernel_rfl) h.dep) rfl)
  exact h.same (v := numV (b)) ho hd rfl hw rfl (ex_load_n hop ((h.old (s := 5) rfl (by decide)).trans c.t5) (h.cell c.cb0) (h.cell c.cb1))

set_option maxRecDepth 100000 in
set_option maxHeartbeats 1000000 in
theorem bitsB_s19 {gA gB a b : Nat} {k j : Int} {WB w : World} {T l : List Value} {L : Array Bool} (Q : Exit → Act → World → Prop) (c : bitsBC gA gB a b k j WB T) (h : VT Tryd.prog bitsBO.1 34 156 bitsBD WB (bitsBK gA gB a b k j) T L l w 19) : wpOp Tryd.prog bitsBO.1 Q 19 (SJ (vaR WB (bitsBK gA gB a b k j)) 34 bitsBD T (L.setIfInBounds 19 true)) (frm2 bitsBD T l) w := by
  obtain ⟨o, ho, hd, hg, hop⟩ := bitsBO19
  obtain ⟨oj, hj, hdj, -, -⟩ := bitsBO16
  have hw := wanted2_go (T := T) (l := l) hg hj hdj (show slotOf bitsBD 66 = some 16 from rfl) (by rw [h.tl]; decide) (h.rw.gotK 16 (dep_of (a := 16) (by kernel_rfl) h.dep) rfl)
  have x67 := ((h.new (s := 67) (j := 17) rfl (by decide)).trans (h.rw.gotK 17 (dep_of (a := 17) (by kernel_rfl) h.dep) rfl))
  have x68 := ((h.new (s := 68) (j := 18) rfl (by decide)).trans (h.rw.gotK 18 (dep_of (a := 18) (by kernel_rfl) h.dep) rfl))
  exact h.call (v := numV (a ^^^ b)) ho hd rfl hw rfl (ex_call hop rfl rfl (args := #[numV (a), numV (b)]) (all := #[numV (a), numV (b)]) (by simp only [List.map_toArray, List.map_cons, List.map_nil]; rw [x67, x68]) (by simp) (fun av W => by kernel_rfl)) (numXor_any a b w c.la c.lb)

set_option maxRecDepth 100000 in
set_option maxHeartbeats 1000000 in
theorem bitsB_s20 {gA gB a b : Nat} {k j : Int} {WB w : World} {T l : List Value} {L : Array Bool} (Q : Exit → Act → World → Prop) (c : bitsBC gA gB a b k j WB T) (h : VT Tryd.prog bitsBO.1 34 156 bitsBD WB (bitsBK gA gB a b k j) T L l w 20) : wpOp Tryd.prog bitsBO.1 Q 20 (SJ (vaR WB (bitsBK gA gB a b k j)) 34 bitsBD T (L.setIfInBounds 20 true)) (frm2 bitsBD T l) w := by
  obtain ⟨o, ho, hd, hg, hop⟩ := bitsBO20
  obtain ⟨oj, hj, hdj, -, -⟩ := bitsBO16
  have hw := wanted2_go (T := T) (l := l) hg hj hdj (show slotOf bitsBD 66 = some 16 from rfl) (by rw [h.tl]; decide) (h.rw.gotK 16 (dep_of (a := 16) (by kernel_rfl) h.dep) rfl)
  exact h.same (v := numV (a)) ho hd rfl hw rfl (ex_load_n hop ((h.old (s := 4) rfl (by decide)).trans c.t4) (h.cell c.ca0) (h.cell c.ca1))

set_option maxRecDepth 100000 in
set_option maxHeartbeats 1000000 in
theorem bitsB_s21 {gA gB a b : Nat} {k j : Int} {WB w : World} {T l : List Value} {L : Array Bool} (Q : Exit → Act → World → Prop) (c : bitsBC gA gB a b k j WB T) (h : VT Tryd.prog bitsBO.1 34 156 bitsBD WB (bitsBK gA gB a b k j) T L l w 21) : wpOp Tryd.prog bitsBO.1 Q 21 (SJ (vaR WB (bitsBK gA gB a b k j)) 34 bitsBD T (L.setIfInBounds 21 true)) (frm2 bitsBD T l) w := by
  obtain ⟨o, ho, hd, hg, hop⟩ := bitsBO21
  obtain ⟨oj, hj, hdj, -, -⟩ := bitsBO16
  have hw := wanted2_go (T := T) (l := l) hg hj hdj (show slotOf bitsBD 66 = some 16 from rfl) (by rw [h.tl]; decide) (h.rw.gotK 16 (dep_of (a := 16) (by kernel_rfl) h.dep) rfl)
  exact h.same (v := numV (b)) ho hd rfl hw rfl (ex_load_n hop ((h.old (s := 5) rfl (by decide)).trans c.t5) (h.cell c.cb0) (h.cell c.cb1))

set_option maxRecDepth 100000 in
set_option maxHeartbeats 1000000 in
theorem bitsB_s22 {gA gB a b : Nat} {k j : Int} {WB w : World} {T l : List Value} {L : Array Bool} (Q : Exit → Act → World → Prop) (c : bitsBC gA gB a b k j WB T) (h : VT Tryd.prog bitsBO.1 34 156 bitsBD WB (bitsBK gA gB a b k j) T L l w 22) : wpOp Tryd.prog bitsBO.1 Q 22 (SJ (vaR WB (bitsBK gA gB a b k j)) 34 bitsBD T (L.setIfInBounds 22 true)) (frm2 bitsBD T l) w := by
  obtain ⟨o, ho, hd, hg, hop⟩ := bitsBO22
  obtain ⟨oj, hj, hdj, -, -⟩ := bitsBO16
  have hw := wanted2_go (T := T) (l := l) hg hj hdj (show slotOf bitsBD 66 = some 16 from rfl) (by rw [h.tl]; decide) (h.rw.gotK 16 (dep_of (a := 16) (by kernel_rfl) h.dep) rfl)
  have x70 := ((h.new (s := 70) (j := 20) rfl (by decide)).trans (h.rw.gotK 20 (dep_of (a := 20) (by kernel_rfl) h.dep) rfl))
  have x71 := ((h.new (s := 71) (j := 21) rfl (by decide)).trans (h.rw.gotK 21 (dep_of (a := 21) (by kernel_rfl) h.dep) rfl))
  exact h.call (v := numV (a ^^^ b)) ho hd rfl hw rfl (ex_call hop rfl rfl (args := #[numV (a), numV (b)]) (all := #[numV (a), numV (b)]) (by simp only [List.map_toArray, List.map_cons, List.map_nil]; rw [x70, x71]) (by simp) (fun av W => by kernel_rfl)) (refXor_any a b c.la c.lb w)

set_option maxRecDepth 100000 in
set_option maxHeartbeats 1000000 in
theorem bitsB_s23 {gA gB a b : Nat} {k j : Int} {WB w : World} {T l : List Value} {L : Array Bool} (Q : Exit → Act → World → Prop) (c : bitsBC gA gB a b k j WB T) (h : VT Tryd.prog bitsBO.1 34 156 bitsBD WB (bitsBK gA gB a b k j) T L l w 23) : wpOp Tryd.prog bitsBO.1 Q 23 (SJ (vaR WB (bitsBK gA gB a b k j)) 34 bitsBD T (L.setIfInBounds 23 true)) (frm2 bitsBD T l) w := by
  obtain ⟨o, ho, hd, hg, hop⟩ := bitsBO23
  obtain ⟨oj, hj, hdj, -, -⟩ := bitsBO16
  have hw := wanted2_go (T := T) (l := l) hg hj hdj (show slotOf bitsBD 66 = some 16 from rfl) (by rw [h.tl]; decide) (h.rw.gotK 16 (dep_of (a := 16) (by kernel_rfl) h.dep) rfl)
  exact h.same (v := .bool false) ho hd rfl hw rfl (ex_neqN hop ((h.new (s := 69) (j := 19) rfl (by decide)).trans (h.rw.gotK 19 (dep_of (a := 19) (by kernel_rfl) h.dep) rfl)) ((h.new (s := 72) (j := 22) rfl (by decide)).trans (h.rw.gotK 22 (dep_of (a := 22) (by kernel_rfl) h.dep) rfl)) (rfl))

set_option maxRecDepth 100000 in
set_option maxHeartbeats 1000000 in
theorem bitsB_s24 {gA gB a b : Nat} {k j : Int} {WB w : World} {T l : List Value} {L : Array Bool} (Q : Exit → Act → World → Prop) (c : bitsBC gA gB a b k j WB T) (h : VT Tryd.prog bitsBO.1 34 156 bitsBD WB (bitsBK gA gB a b k j) T L l w 24) : wpOp Tryd.prog bitsBO.1 Q 24 (SJ (vaR WB (bitsBK gA gB a b k j)) 34 bitsBD T (L.setIfInBounds 24 true)) (frm2 bitsBD T l) w := by
  obtain ⟨o, ho, hd, hg, hop⟩ := bitsBO24
  have hw := wanted_un (ops := bitsBO.1) (t := (frm2 bitsBD T l).tmps) hg
  exact h.same (v := .bool false) ho hd rfl hw rfl (ex_pick hop ((h.new (s := 66) (j := 16) rfl (by decide)).trans (h.rw.gotK 16 (dep_of (a := 16) (by kernel_rfl) h.dep) rfl)) ((h.new (s := 73) (j := 23) rfl (by decide)).trans (h.rw.gotK 23 (dep_of (a := 23) (by kernel_rfl) h.dep) rfl)))

set_option maxRecDepth 100000 in
set_option maxHeartbeats 1000000 in
theorem bitsB_s25 {gA gB a b : Nat} {k j : Int} {WB w : World} {T l : List Value} {L : Array Bool} (Q : Exit → Act → World → Prop) (c : bitsBC gA gB a b k j WB T) (h : VT Tryd.prog bitsBO.1 34 156 bitsBD WB (bitsBK gA gB a b k j) T L l w 25) : wpOp Tryd.prog bitsBO.1 Q 25 (SJ (vaR WB (bitsBK gA gB a b k j)) 34 bitsBD T (L.setIfInBounds 25 true)) (frm2 bitsBD T l) w := by
  obtain ⟨o, ho, hd, hg, hop⟩ := bitsBO25
  have hw := wanted_un (ops := bitsBO.1) (t := (frm2 bitsBD T l).tmps) hg
  exact h.same (v := .bool false) ho hd rfl hw rfl (ex_move hop ((h.new (s := 74) (j := 24) rfl (by decide)).trans (h.rw.gotK 24 (dep_of (a := 24) (by kernel_rfl) h.dep) rfl)))

set_option maxRecDepth 100000 in
set_option maxHeartbeats 1000000 in
theorem bitsB_s26 {gA gB a b : Nat} {k j : Int} {WB w : World} {T l : List Value} {L : Array Bool} (Q : Exit → Act → World → Prop) (c : bitsBC gA gB a b k j WB T) (h : VT Tryd.prog bitsBO.1 34 156 bitsBD WB (bitsBK gA gB a b k j) T L l w 26) : wpOp Tryd.prog bitsBO.1 Q 26 (SJ (vaR WB (bitsBK gA gB a b k j)) 34 bitsBD T (L.setIfInBounds 26 true)) (frm2 bitsBD T l) w := by
  obtain ⟨o, ho, hd, hg, hop⟩ := bitsBO26
  obtain ⟨oj, hj, hdj, -, -⟩ := bitsBO25
  have hw := wanted2_go (T := T) (l := l) hg hj hdj (show slotOf bitsBD 75 = some 25 from rfl) (by rw [h.tl]; decide) (h.rw.gotK 25 (dep_of (a := 25) (by kernel_rfl) h.dep) rfl)
  exact h.same (v := numV (a)) ho hd rfl hw rfl (ex_load_n hop ((h.old (s := 4) rfl (by decide)).trans c.t4) (h.cell c.ca0) (h.cell c.ca1))

set_option maxRecDepth 100000 in
set_option maxHeartbeats 1000000 in
theorem bitsB_s27 {gA gB a b : Nat} {k j : Int} {WB w : World} {T l : List Value} {L : Array Bool} (Q : Exit → Act → World → Prop) (c : bitsBC gA gB a b k j WB T) (h : VT Tryd.prog bitsBO.1 34 156 bitsBD WB (bitsBK gA gB a b k j) T L l w 27) : wpOp Tryd.prog bitsBO.1 Q 27 (SJ (vaR WB (bitsBK gA gB a b k j)) 34 bitsBD T (L.setIfInBounds 27 true)) (frm2 bitsBD T l) w := by
  obtain ⟨o, ho, hd, hg, hop⟩ := bitsBO27
  obtain ⟨oj, hj, hdj, -, -⟩ := bitsBO25
  have hw := wanted2_go (T := T) (l := l) hg hj hdj (show slotOf bitsBD 75 = some 25 from rfl) (by rw [h.tl]; decide) (h.rw.gotK 25 (dep_of (a := 25) (by kernel_rfl) h.dep) rfl)
  exact h.same (v := .int .i64 k) ho hd rfl hw rfl (ex_move hop ((h.old (s := 2) rfl (by decide)).trans c.t2))

set_option maxRecDepth 100000 in
set_option maxHeartbeats 1000000 in
theorem bitsB_s28 {gA gB a b : Nat} {k j : Int} {WB w : World} {T l : List Value} {L : Array Bool} (Q : Exit → Act → World → Prop) (c : bitsBC gA gB a b k j WB T) (h : VT Tryd.prog bitsBO.1 34 156 bitsBD WB (bitsBK gA gB a b k j) T L l w 28) : wpOp Tryd.prog bitsBO.1 Q 28 (SJ (vaR WB (bitsBK gA gB a b k j)) 34 bitsBD T (L.setIfInBounds 28 true)) (frm2 bitsBD T l) w := by
  obtain ⟨o, ho, hd, hg, hop⟩ := bitsBO28
  obtain ⟨oj, hj, hdj, -, -⟩ := bitsBO25
  have hw := wanted2_go (T := T) (l := l) hg hj hdj (show slotOf bitsBD 75 = some 25 from rfl) (by rw [h.tl]; decide) (h.rw.gotK 25 (dep_of (a := 25) (by kernel_rfl) h.dep) rfl)
  have x76 := ((h.new (s := 76) (j := 26) rfl (by decide)).trans (h.rw.gotK 26 (dep_of (a := 26) (by kernel_rfl) h.dep) rfl))
  have x77 := ((h.new (s := 77) (j := 27) rfl (by decide)).trans (h.rw.gotK 27 (dep_of (a := 27) (by kernel_rfl) h.dep) rfl))
  exact h.call (v := numV ((a % 2 ^ sh k) ^^^ (2 ^ sh k - 1))) ho hd rfl hw rfl (ex_call hop rfl rfl (args := #[numV (a), .int .i64 k]) (all := #[numV (a), .int .i64 k]) (by simp only [List.map_toArray, List.map_cons, List.map_nil]; rw [x76, x77]) (by simp) (fun av W => by kernel_rfl)) (numNot_any a k w c.la)

set_option maxRecDepth 100000 in
set_option maxHeartbeats 1000000 in
theorem bitsB_s29 {gA gB a b : Nat} {k j : Int} {WB w : World} {T l : List Value} {L : Array Bool} (Q : Exit → Act → World → Prop) (c : bitsBC gA gB a b k j WB T) (h : VT Tryd.prog bitsBO.1 34 156 bitsBD WB (bitsBK gA gB a b k j) T L l w 29) : wpOp Tryd.prog bitsBO.1 Q 29 (SJ (vaR WB (bitsBK gA gB a b k j)) 34 bitsBD T (L.setIfInBounds 29 true)) (frm2 bitsBD T l) w := by
  obtain ⟨o, ho, hd, hg, hop⟩ := bitsBO29
  obtain ⟨oj, hj, hdj, -, -⟩ := bitsBO25
  have hw := wanted2_go (T := T) (l := l) hg hj hdj (show slotOf bitsBD 75 = some 25 from rfl) (by rw [h.tl]; decide) (h.rw.gotK 25 (dep_of (a := 25) (by kernel_rfl) h.dep) rfl)
  exact h.same (v := numV (a)) ho hd rfl hw rfl (ex_load_n hop ((h.old (s := 4) rfl (by decide)).trans c.t4) (h.cell c.ca0) (h.cell c.ca1))

set_option maxRecDepth 100000 in
set_option maxHeartbeats 1000000 in
theorem bitsB_s30 {gA gB a b : Nat} {k j : Int} {WB w : World} {T l : List Value} {L : Array Bool} (Q : Exit → Act → World → Prop) (c : bitsBC gA gB a b k j WB T) (h : VT Tryd.prog bitsBO.1 34 156 bitsBD WB (bitsBK gA gB a b k j) T L l w 30) : wpOp Tryd.prog bitsBO.1 Q 30 (SJ (vaR WB (bitsBK gA gB a b k j)) 34 bitsBD T (L.setIfInBounds 30 true)) (frm2 bitsBD T l) w := by
  obtain ⟨o, ho, hd, hg, hop⟩ := bitsBO30
  obtain ⟨oj, hj, hdj, -, -⟩ := bitsBO25
  have hw := wanted2_go (T := T) (l := l) hg hj hdj (show slotOf bitsBD 75 = some 25 from rfl) (by rw [h.tl]; decide) (h.rw.gotK 25 (dep_of (a := 25) (by kernel_rfl) h.dep) rfl)
  exact h.same (v := .int .i64 k) ho hd rfl hw rfl (ex_move hop ((h.old (s := 2) rfl (by decide)).trans c.t2))

set_option maxRecDepth 100000 in
set_option maxHeartbeats 1000000 in
theorem bitsB_s31 {gA gB a b : Nat} {k j : Int} {WB w : World} {T l : List Value} {L : Array Bool} (Q : Exit → Act → World → Prop) (c : bitsBC gA gB a b k j WB T) (h : VT Tryd.prog bitsBO.1 34 156 bitsBD WB (bitsBK gA gB a b k j) T L l w 31) : wpOp Tryd.prog bitsBO.1 Q 31 (SJ (vaR WB (bitsBK gA gB a b k j)) 34 bitsBD T (L.setIfInBounds 31 true)) (frm2 bitsBD T l) w := by
  obtain ⟨o, ho, hd, hg, hop⟩ := bitsBO31
  obtain ⟨oj, hj, hdj, -, -⟩ := bitsBO25
  have hw := wanted2_go (T := T) (l := l) hg hj hdj (show slotOf bitsBD 75 = some 25 from rfl) (by rw [h.tl]; decide) (h.rw.gotK 25 (dep_of (a := 25) (by kernel_rfl) h.dep) rfl)
  have x79 := ((h.new (s := 79) (j := 29) rfl (by decide)).trans (h.rw.gotK 29 (dep_of (a := 29) (by kernel_rfl) h.dep) rfl))
  have x80 := ((h.new (s := 80) (j := 30) rfl (by decide)).trans (h.rw.gotK 30 (dep_of (a := 30) (by kernel_rfl) h.dep) rfl))
  exact h.call (v := numV ((a % 2 ^ sh k) ^^^ (2 ^ sh k - 1))) ho hd rfl hw rfl (ex_call hop rfl rfl (args := #[numV (a), .int .i64 k]) (all := #[numV (a), .int .i64 k]) (by simp only [List.map_toArray, List.map_cons, List.map_nil]; rw [x79, x80]) (by simp) (fun av W => by kernel_rfl)) (refNot_any a k c.la w)

set_option maxRecDepth 100000 in
set_option maxHeartbeats 1000000 in
theorem bitsB_s32 {gA gB a b : Nat} {k j : Int} {WB w : World} {T l : List Value} {L : Array Bool} (Q : Exit → Act → World → Prop) (c : bitsBC gA gB a b k j WB T) (h : VT Tryd.prog bitsBO.1 34 156 bitsBD WB (bitsBK gA gB a b k j) T L l w 32) : wpOp Tryd.prog bitsBO.1 Q 32 (SJ (vaR WB (bitsBK gA gB a b k j)) 34 bitsBD T (L.setIfInBounds 32 true)) (frm2 bitsBD T l) w := by
  obtain ⟨o, ho, hd, hg, hop⟩ := bitsBO32
  obtain ⟨oj, hj, hdj, -, -⟩ := bitsBO25
  have hw := wanted2_go (T := T) (l := l) hg hj hdj (show slotOf bitsBD 75 = some 25 from rfl) (by rw [h.tl]; decide) (h.rw.gotK 25 (dep_of (a := 25) (by kernel_rfl) h.dep) rfl)
  exact h.same (v := .bool false) ho hd rfl hw rfl (ex_neqN hop ((h.new (s := 78) (j := 28) rfl (by decide)).trans (h.rw.gotK 28 (dep_of (a := 28) (by kernel_rfl) h.dep) rfl)) ((h.new (s := 81) (j := 31) rfl (by decide)).trans (h.rw.gotK 31 (dep_of (a := 31) (by kernel_rfl) h.dep) rfl)) (rfl))

set_option maxRecDepth 100000 in
set_option maxHeartbeats 1000000 in
theorem bitsB_s33 {gA gB a b : Nat} {k j : Int} {WB w : World} {T l : List Value} {L : Array Bool} (Q : Exit → Act → World → Prop) (c : bitsBC gA gB a b k j WB T) (h : VT Tryd.prog bitsBO.1 34 156 bitsBD WB (bitsBK gA gB a b k j) T L l w 33) : wpOp Tryd.prog bitsBO.1 Q 33 (SJ (vaR WB (bitsBK gA gB a b k j)) 34 bitsBD T (L.setIfInBounds 33 true)) (frm2 bitsBD T l) w := by
  obtain ⟨o, ho, hd, hg, hop⟩ := bitsBO33
  have hw := wanted_un (ops := bitsBO.1) (t := (frm2 bitsBD T l).tmps) hg
  exact h.same (v := .bool false) ho hd rfl hw rfl (ex_pick hop ((h.new (s := 75) (j := 25) rfl (by decide)).trans (h.rw.gotK 25 (dep_of (a := 25) (by kernel_rfl) h.dep) rfl)) ((h.new (s := 82) (j := 32) rfl (by decide)).trans (h.rw.gotK 32 (dep_of (a := 32) (by kernel_rfl) h.dep) rfl)))

set_option maxRecDepth 100000 in
set_option maxHeartbeats 4000000 in
theorem bitsB (gA gB a b : Nat) (k j : Int) (WB : World)
    (ca0 : Hid (WB.cell? ⟨gA, 0, none⟩ = some (.int .u64 ((a / B : Nat) : Int))))
    (ca1 : Hid (WB.cell? ⟨gA, 1, none⟩ = some (.int .u64 ((a % B : Nat) : Int))))
    (cb0 : Hid (WB.cell? ⟨gB, 0, none⟩ = some (.int .u64 ((b / B : Nat) : Int))))
    (cb1 : Hid (WB.cell? ⟨gB, 1, none⟩ = some (.int .u64 ((b % B : Nat) : Int))))
    (la : Hid (a < B * B))
    (lb : Hid (b < B * B))
    (lj : Hid (j ≤ 9223372036854775807))
    (s0 s1 s6 s7 s8 s9 s10 s11 s12 s13 s14 s15 s16 s17 s18 s19 s20 s21 s22 s23 s24 s25 s26 s27 s28 s29 s30 s31 s32 s33 s34 s35 s36 s37 s38 s39 s40 s41 s42 s43 s44 s45 s46 s47 s48 s49 s50 s51 s52 s53 s54 s55 s56 s57 s58 s59 s60 s61 s62 s63 s64 s65 s66 s67 s68 s69 s70 s71 s72 s73 s74 s75 s76 s77 s78 s79 s80 s81 s82 s83 s84 s85 s86 s87 s88 s89 s90 s91 s92 s93 s94 s95 s96 s97 s98 s99 s100 s101 s102 s103 s104 s105 s106 s107 s108 s109 s110 s111 s112 s113 s114 s115 s116 s117 s118 s119 s120 s121 s122 s123 s124 s125 s126 s127 s128 s129 s130 s131 s132 s133 s134 s135 s136 s137 s138 s139 s140 s141 s142 s143 s144 s145 s146 s147 s148 s149 s150 s151 s152 s153 s154 s155 : Value) (Q : Exit → Act → World → Prop)
    (hexit : ∀ (w' : World), Below WB.heap.size WB w' → Q .normal ⟨#[s0, s1, .int .i64 k, .int .i64 j, .pointer (some ⟨gA, 0, none⟩), .pointer (some ⟨gB, 0, none⟩), s6, s7, s8, s9, s10, s11, s12, s13, s14, s15, s16, s17, s18, s19, s20, s21, s22, s23, s24, s25, s26, s27, s28, s29, s30, s31, s32, s33, s34, s35, s36, s37, s38, s39, s40, s41, s42, s43, s44, s45, s46, s47, s48, s49, numV (a), numV (b), numV (a &&& b), numV (a), numV (b), numV (a &&& b), .bool false, .bool false, numV (a), numV (b), numV (a ||| b), numV (a), numV (b), numV (a ||| b), .bool false, .bool false, .bool false, numV (a), numV (b), numV (a ^^^ b), numV (a), numV (b), numV (a ^^^ b), .bool false, .bool false, .bool false, numV (a), .int .i64 k, numV ((a % 2 ^ sh k) ^^^ (2 ^ sh k - 1)), numV (a), .int .i64 k, numV ((a % 2 ^ sh k) ^^^ (2 ^ sh k - 1)), .bool false, .bool false, s84, s85, s86, s87, s88, s89, s90, s91, s92, s93, s94, s95, s96, s97, s98, s99, s100, s101, s102, s103, s104, s105, s106, s107, s108, s109, s110, s111, s112, s113, s114, s115, s116, s117, s118, s119, s120, s121, s122, s123, s124, s125, s126, s127, s128, s129, s130, s131, s132, s133, s134, s135, s136, s137, s138, s139, s140, s141, s142, s143, s144, s145, s146, s147, s148, s149, s150, s151, s152, s153, s154, s155], []⟩ w') :
    Code.wp Tryd.prog ((Tryd.f5.body.bind (findRegion 3)).getD .skip) Q ⟨#[s0, s1, .int .i64 k, .int .i64 j, .pointer (some ⟨gA, 0, none⟩), .pointer (some ⟨gB, 0, none⟩), s6, s7, s8, s9, s10, s11, s12, s13, s14, s15, s16, s17, s18, s19, s20, s21, s22, s23, s24, s25, s26, s27, s28, s29, s30, s31, s32, s33, s34, s35, s36, s37, s38, s39, s40, s41, s42, s43, s44, s45, s46, s47, s48, s49, s50, s51, s52, s53, s54, s55, s56, s57, s58, s59, s60, s61, s62, s63, s64, s65, s66, s67, s68, s69, s70, s71, s72, s73, s74, s75, s76, s77, s78, s79, s80, s81, s82, s83, s84, s85, s86, s87, s88, s89, s90, s91, s92, s93, s94, s95, s96, s97, s98, s99, s100, s101, s102, s103, s104, s105, s106, s107, s108, s109, s110, s111, s112, s113, s114, s115, s116, s117, s118, s119, s120, s121, s122, s123, s124, s125, s126, s127, s128, s129, s130, s131, s132, s133, s134, s135, s136, s137, s138, s139, s140, s141, s142, s143, s144, s145, s146, s147, s148, s149, s150, s151, s152, s153, s154, s155], []⟩ WB := by
  have c : bitsBC gA gB a b k j WB [s0, s1, .int .i64 k, .int .i64 j, .pointer (some ⟨gA, 0, none⟩), .pointer (some ⟨gB, 0, none⟩), s6, s7, s8, s9, s10, s11, s12, s13, s14, s15, s16, s17, s18, s19, s20, s21, s22, s23, s24, s25, s26, s27, s28, s29, s30, s31, s32, s33, s34, s35, s36, s37, s38, s39, s40, s41, s42, s43, s44, s45, s46, s47, s48, s49, s50, s51, s52, s53, s54, s55, s56, s57, s58, s59, s60, s61, s62, s63, s64, s65, s66, s67, s68, s69, s70, s71, s72, s73, s74, s75, s76, s77, s78, s79, s80, s81, s82, s83, s84, s85, s86, s87, s88, s89, s90, s91, s92, s93, s94, s95, s96, s97, s98, s99, s100, s101, s102, s103, s104, s105, s106, s107, s108, s109, s110, s111, s112, s113, s114, s115, s116, s117, s118, s119, s120, s121, s122, s123, s124, s125, s126, s127, s128, s129, s130, s131, s132, s133, s134, s135, s136, s137, s138, s139, s140, s141, s142, s143, s144, s145, s146, s147, s148, s149, s150, s151, s152, s153, s154, s155] := { tl := rfl, t2 := rfl, t3 := rfl, t4 := rfl, t5 := rfl, ca0 := ca0.out, ca1 := ca1.out, cb0 := cb0.out, cb1 := cb1.out, la := la.out, lb := lb.out, lj := lj.out }
  have h0 : (⟨#[s0, s1, .int .i64 k, .int .i64 j, .pointer (some ⟨gA, 0, none⟩), .pointer (some ⟨gB, 0, none⟩), s6, s7, s8, s9, s10, s11, s12, s13, s14, s15, s16, s17, s18, s19, s20, s21, s22, s23, s24, s25, s26, s27, s28, s29, s30, s31, s32, s33, s34, s35, s36, s37, s38, s39, s40, s41, s42, s43, s44, s45, s46, s47, s48, s49, s50, s51, s52, s53, s54, s55, s56, s57, s58, s59, s60, s61, s62, s63, s64, s65, s66, s67, s68, s69, s70, s71, s72, s73, s74, s75, s76, s77, s78, s79, s80, s81, s82, s83, s84, s85, s86, s87, s88, s89, s90, s91, s92, s93, s94, s95, s96, s97, s98, s99, s100, s101, s102, s103, s104, s105, s106, s107, s108, s109, s110, s111, s112, s113, s114, s115, s116, s117, s118, s119, s120, s121, s122, s123, s124, s125, s126, s127, s128, s129, s130, s131, s132, s133, s134, s135, s136, s137, s138, s139, s140, s141, s142, s143, s144, s145, s146, s147, s148, s149, s150, s151, s152, s153, s154, s155], []⟩ : Act) = frm2 bitsBD [s0, s1, .int .i64 k, .int .i64 j, .pointer (some ⟨gA, 0, none⟩), .pointer (some ⟨gB, 0, none⟩), s6, s7, s8, s9, s10, s11, s12, s13, s14, s15, s16, s17, s18, s19, s20, s21, s22, s23, s24, s25, s26, s27, s28, s29, s30, s31, s32, s33, s34, s35, s36, s37, s38, s39, s40, s41, s42, s43, s44, s45, s46, s47, s48, s49, s50, s51, s52, s53, s54, s55, s56, s57, s58, s59, s60, s61, s62, s63, s64, s65, s66, s67, s68, s69, s70, s71, s72, s73, s74, s75, s76, s77, s78, s79, s80, s81, s82, s83, s84, s85, s86, s87, s88, s89, s90, s91, s92, s93, s94, s95, s96, s97, s98, s99, s100, s101, s102, s103, s104, s105, s106, s107, s108, s109, s110, s111, s112, s113, s114, s115, s116, s117, s118, s119, s120, s121, s122, s123, s124, s125, s126, s127, s128, s129, s130, s131, s132, s133, s134, s135, s136, s137, s138, s139, s140, s141, s142, s143, s144, s145, s146, s147, s148, s149, s150, s151, s152, s153, s154, s155] [s50, s51, s52, s53, s54, s55, s56, s57, s58, s59, s60, s61, s62, s63, s64, s65, s66, s67, s68, s69, s70, s71, s72, s73, s74, s75, s76, s77, s78, s79, s80, s81, s82, s83] := rfl
  have hend : ∀ f : Nat → Value, frm2 bitsBD [s0, s1, .int .i64 k, .int .i64 j, .pointer (some ⟨gA, 0, none⟩), .pointer (some ⟨gB, 0, none⟩), s6, s7, s8, s9, s10, s11, s12, s13, s14, s15, s16, s17, s18, s19, s20, s21, s22, s23, s24, s25, s26, s27, s28, s29, s30, s31, s32, s33, s34, s35, s36, s37, s38, s39, s40, s41, s42, s43, s44, s45, s46, s47, s48, s49, s50, s51, s52, s53, s54, s55, s56, s57, s58, s59, s60, s61, s62, s63, s64, s65, s66, s67, s68, s69, s70, s71, s72, s73, s74, s75, s76, s77, s78, s79, s80, s81, s82, s83, s84, s85, s86, s87, s88, s89, s90, s91, s92, s93, s94, s95, s96, s97, s98, s99, s100, s101, s102, s103, s104, s105, s106, s107, s108, s109, s110, s111, s112, s113, s114, s115, s116, s117, s118, s119, s120, s121, s122, s123, s124, s125, s126, s127, s128, s129, s130, s131, s132, s133, s134, s135, s136, s137, s138, s139, s140, s141, s142, s143, s144, s145, s146, s147, s148, s149, s150, s151, s152, s153, s154, s155] ((List.range 34).map f) = ⟨#[s0, s1, .int .i64 k, .int .i64 j, .pointer (some ⟨gA, 0, none⟩), .pointer (some ⟨gB, 0, none⟩), s6, s7, s8, s9, s10, s11, s12, s13, s14, s15, s16, s17, s18, s19, s20, s21, s22, s23, s24, s25, s26, s27, s28, s29, s30, s31, s32, s33, s34, s35, s36, s37, s38, s39, s40, s41, s42, s43, s44, s45, s46, s47, s48, s49, f 0, f 1, f 2, f 3, f 4, f 5, f 6, f 7, f 8, f 9, f 10, f 11, f 12, f 13, f 14, f 15, f 16, f 17, f 18, f 19, f 20, f 21, f 22, f 23, f 24, f 25, f 26, f 27, f 28, f 29, f 30, f 31, f 32, f 33, s84, s85, s86, s87, s88, s89, s90, s91, s92, s93, s94, s95, s96, s97, s98, s99, s100, s101, s102, s103, s104, s105, s106, s107, s108, s109, s110, s111, s112, s113, s114, s115, s116, s117, s118, s119, s120, s121, s122, s123, s124, s125, s126, s127, s128, s129, s130, s131, s132, s133, s134, s135, s136, s137, s138, s139, s140, s141, s142, s143, s144, s145, s146, s147, s148, s149, s150, s151, s152, s153, s154, s155], []⟩ := fun f => rfl
  rw [h0]
  clear h0
  have hex : ∀ (f : Nat → Value) (w' : World), f 0 = numV (a) → f 1 = numV (b) → f 2 = numV (a &&& b) → f 3 = numV (a) → f 4 = numV (b) → f 5 = numV (a &&& b) → f 6 = .bool false → f 7 = .bool false → f 8 = numV (a) → f 9 = numV (b) → f 10 = numV (a ||| b) → f 11 = numV (a) → f 12 = numV (b) → f 13 = numV (a ||| b) → f 14 = .bool false → f 15 = .bool false → f 16 = .bool false → f 17 = numV (a) → f 18 = numV (b) → f 19 = numV (a ^^^ b) → f 20 = numV (a) → f 21 = numV (b) → f 22 = numV (a ^^^ b) → f 23 = .bool false → f 24 = .bool false → f 25 = .bool false → f 26 = numV (a) → f 27 = .int .i64 k → f 28 = numV ((a % 2 ^ sh k) ^^^ (2 ^ sh k - 1)) → f 29 = numV (a) → f 30 = .int .i64 k → f 31 = numV ((a % 2 ^ sh k) ^^^ (2 ^ sh k - 1)) → f 32 = .bool false → f 33 = .bool false → Below WB.heap.size WB w' → Q .normal ⟨#[s0, s1, .int .i64 k, .int .i64 j, .pointer (some ⟨gA, 0, none⟩), .pointer (some ⟨gB, 0, none⟩), s6, s7, s8, s9, s10, s11, s12, s13, s14, s15, s16, s17, s18, s19, s20, s21, s22, s23, s24, s25, s26, s27, s28, s29, s30, s31, s32, s33, s34, s35, s36, s37, s38, s39, s40, s41, s42, s43, s44, s45, s46, s47, s48, s49, f 0, f 1, f 2, f 3, f 4, f 5, f 6, f 7, f 8, f 9, f 10, f 11, f 12, f 13, f 14, f 15, f 16, f 17, f 18, f 19, f 20, f 21, f 22, f 23, f 24, f 25, f 26, f 27, f 28, f 29, f 30, f 31, f 32, f 33, s84, s85, s86, s87, s88, s89, s90, s91, s92, s93, s94, s95, s96, s97, s98, s99, s100, s101, s102, s103, s104, s105, s106, s107, s108, s109, s110, s111, s112, s113, s114, s115, s116, s117, s118, s119, s120, s121, s122, s123, s124, s125, s126, s127, s128, s129, s130, s131, s132, s133, s134, s135, s136, s137, s138, s139, s140, s141, s142, s143, s144, s145, s146, s147, s148, s149, s150, s151, s152, s153, s154, s155], []⟩ w' := by
    intro f w' e0 e1 e2 e3 e4 e5 e6 e7 e8 e9 e10 e11 e12 e13 e14 e15 e16 e17 e18 e19 e20 e21 e22 e23 e24 e25 e26 e27 e28 e29 e30 e31 e32 e33 a
    rw [e0, e1, e2, e3, e4, e5, e6, e7, e8, e9, e10, e11, e12, e13, e14, e15, e16, e17, e18, e19, e20, e21, e22, e23, e24, e25, e26, e27, e28, e29, e30, e31, e32, e33]
    exact hexit w' a
  clear hexit
  generalize [s0, s1, .int .i64 k, .int .i64 j, .pointer (some ⟨gA, 0, none⟩), .pointer (some ⟨gB, 0, none⟩), s6, s7, s8, s9, s10, s11, s12, s13, s14, s15, s16, s17, s18, s19, s20, s21, s22, s23, s24, s25, s26, s27, s28, s29, s30, s31, s32, s33, s34, s35, s36, s37, s38, s39, s40, s41, s42, s43, s44, s45, s46, s47, s48, s49, s50, s51, s52, s53, s54, s55, s56, s57, s58, s59, s60, s61, s62, s63, s64, s65, s66, s67, s68, s69, s70, s71, s72, s73, s74, s75, s76, s77, s78, s79, s80, s81, s82, s83, s84, s85, s86, s87, s88, s89, s90, s91, s92, s93, s94, s95, s96, s97, s98, s99, s100, s101, s102, s103, s104, s105, s106, s107, s108, s109, s110, s111, s112, s113, s114, s115, s116, s117, s118, s119, s120, s121, s122, s123, s124, s125, s126, s127, s128, s129, s130, s131, s132, s133, s134, s135, s136, s137, s138, s139, s140, s141, s142, s143, s144, s145, s146, s147, s148, s149, s150, s151, s152, s153, s154, s155] = T at *
  rw [bitsBO.2]
  show Code.wp Tryd.prog (.region 3 bitsBO.1 true) Q _ WB
  refine wp_region_inv2 (by kernel_rfl) (SJ (vaR WB (bitsBK gA gB a b k j)) 34 bitsBD T) ?_ ?_ ?_ ?_
  · exact ⟨_, rfl, by rw [bitsBO_size]; simp, rfl, RW.init (fun i => did_none _ _) (Nat.le_refl _) (below_drewN (Below.refl _ _) 1)⟩
  · rintro L a w i hL hi hnd hdep ⟨l, hl, hLn, rfl, hI⟩
    have ht : VT Tryd.prog bitsBO.1 34 156 bitsBD WB (bitsBK gA gB a b k j) T L l w i := ⟨c.tl, bitsBK_free, hl, hLn, hi, hnd, hI, hdep⟩
    match i, hi with
    | 0, _ => exact bitsB_s0 Q c ht
    | 1, _ => exact bitsB_s1 Q c ht
    | 2, _ => exact bitsB_s2 Q c ht
    | 3, _ => exact bitsB_s3 Q c ht
    | 4, _ => exact bitsB_s4 Q c ht
    | 5, _ => exact bitsB_s5 Q c ht
    | 6, _ => exact bitsB_s6 Q c ht
    | 7, _ => exact bitsB_s7 Q c ht
    | 8, _ => exact bitsB_s8 Q c ht
    | 9, _ => exact bitsB_s9 Q c ht
    | 10, _ => exact bitsB_s10 Q c ht
    | 11, _ => exact bitsB_s11 Q c ht
    | 12, _ => exact bitsB_s12 Q c ht
    | 13, _ => exact bitsB_s13 Q c ht
    | 14, _ => exact bitsB_s14 Q c ht
    | 15, _ => exact bitsB_s15 Q c ht
    | 16, _ => exact bitsB_s16 Q c ht
    | 17, _ => exact bitsB_s17 Q c ht
    | 18, _ => exact bitsB_s18 Q c ht
    | 19, _ => exact bitsB_s19 Q c ht
    | 20, _ => exact bitsB_s20 Q c ht
    | 21, _ => exact bitsB_s21 Q c ht
    | 22, _ => exact bitsB_s22 Q c ht
    | 23, _ => exact bitsB_s23 Q c ht
    | 24, _ => exact bitsB_s24 Q c ht
    | 25, _ => exact bitsB_s25 Q c ht
    | 26, _ => exact bitsB_s26 Q c ht
    | 27, _ => exact bitsB_s27 Q c ht
    | 28, _ => exact bitsB_s28 Q c ht
    | 29, _ => exact bitsB_s29 Q c ht
    | 30, _ => exact bitsB_s30 Q c ht
    | 31, _ => exact bitsB_s31 Q c ht
    | 32, _ => exact bitsB_s32 Q c ht
    | 33, _ => exact bitsB_s33 Q c ht
    | i + 34, hi => exact absurd hi (by rw [bitsBO_size]; omega)
  · exact bitsBO_back
  · rintro L a w hall ⟨l, hl, hLn, rfl, hI⟩
    have h1 := hend (nth l)
    rw [list_nth hl] at h1
    rw [h1]
    exact hex (nth l) w (hI.gotK 0 (hall 0 (by rw [bitsBO_size]; decide)) rfl) (hI.gotK 1 (hall 1 (by rw [bitsBO_size]; decide)) rfl) (hI.gotK 2 (hall 2 (by rw [bitsBO_size]; decide)) rfl) (hI.gotK 3 (hall 3 (by rw [bitsBO_size]; decide)) rfl) (hI.gotK 4 (hall 4 (by rw [bitsBO_size]; decide)) rfl) (hI.gotK 5 (hall 5 (by rw [bitsBO_size]; decide)) rfl) (hI.gotK 6 (hall 6 (by rw [bitsBO_size]; decide)) rfl) (hI.gotK 7 (hall 7 (by rw [bitsBO_size]; decide)) rfl) (hI.gotK 8 (hall 8 (by rw [bitsBO_size]; decide)) rfl) (hI.gotK 9 (hall 9 (by rw [bitsBO_size]; decide)) rfl) (hI.gotK 10 (hall 10 (by rw [bitsBO_size]; decide)) rfl) (hI.gotK 11 (hall 11 (by rw [bitsBO_size]; decide)) rfl) (hI.gotK 12 (hall 12 (by rw [bitsBO_size]; decide)) rfl) (hI.gotK 13 (hall 13 (by rw [bitsBO_size]; decide)) rfl) (hI.gotK 14 (hall 14 (by rw [bitsBO_size]; decide)) rfl) (hI.gotK 15 (hall 15 (by rw [bitsBO_size]; decide)) rfl) (hI.gotK 16 (hall 16 (by rw [bitsBO_size]; decide)) rfl) (hI.gotK 17 (hall 17 (by rw [bitsBO_size]; decide)) rfl) (hI.gotK 18 (hall 18 (by rw [bitsBO_size]; decide)) rfl) (hI.gotK 19 (hall 19 (by rw [bitsBO_size]; decide)) rfl) (hI.gotK 20 (hall 20 (by rw [bitsBO_size]; decide)) rfl) (hI.gotK 21 (hall 21 (by rw [bitsBO_size]; decide)) rfl) (hI.gotK 22 (hall 22 (by rw [bitsBO_size]; decide)) rfl) (hI.gotK 23 (hall 23 (by rw [bitsBO_size]; decide)) rfl) (hI.gotK 24 (hall 24 (by rw [bitsBO_size]; decide)) rfl) (hI.gotK 25 (hall 25 (by rw [bitsBO_size]; decide)) rfl) (hI.gotK 26 (hall 26 (by rw [bitsBO_size]; decide)) rfl) (hI.gotK 27 (hall 27 (by rw [bitsBO_size]; decide)) rfl) (hI.gotK 28 (hall 28 (by rw [bitsBO_size]; decide)) rfl) (hI.gotK 29 (hall 29 (by rw [bitsBO_size]; decide)) rfl) (hI.gotK 30 (hall 30 (by rw [bitsBO_size]; decide)) rfl) (hI.gotK 31 (hall 31 (by rw [bitsBO_size]; decide)) rfl) (hI.gotK 32 (hall 32 (by rw [bitsBO_size]; decide)) rfl) (hI.gotK 33 (hall 33 (by rw [bitsBO_size]; decide)) rfl) hI.glob

end Go.Proofs.YtfalhemeiengcaaDoor
