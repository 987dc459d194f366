/-
  The drawn regions of the law NumBits.
-/
import Derived.Test.YtfalhemeiengcaaDoorBitsY
namespace Go.Proofs.YtfalhemeiengcaaDoor
open Go.RowKit Go.Maps

abbrev bitsCD : List (Option Nat) := [some 84, some 85, some 86, some 87, some 88, some 89, some 90, some 91, some 92, some 93, some 94, some 95, some 96, some 97, some 98, some 99, some 100, some 101, some 102, some 103, some 104, some 105, some 106, some 107, some 108, some 109, some 110, some 111, some 112, some 113, some 114, some 115, some 116, some 117, some 118, some 119, some 120, some 121, some 122, some 123]
noncomputable def bitsCO : { c : Array Oper // (Tryd.f5.body.bind (findRegion 5)) = some (.region 5 c true) } := ⟨_, rfl⟩
theorem bitsCO_size : bitsCO.1.size = 40 := rfl
theorem bitsCO0 : ∃ o, bitsCO.1[0]? = some o ∧ o.dst = some 84 ∧ o.guard = none ∧ o.op = Go.Op.load 24 (Go.Operand.tmp 4) := ⟨_, rfl, rfl, rfl, rfl⟩
theorem bitsCO1 : ∃ o, bitsCO.1[1]? = some o ∧ o.dst = some 85 ∧ o.guard = none ∧ o.op = Go.Op.load 24 (Go.Operand.tmp 5) := ⟨_, rfl, rfl, rfl, rfl⟩
theorem bitsCO2 : ∃ o, bitsCO.1[2]? = some o ∧ o.dst = some 86 ∧ o.guard = none ∧ o.op = Go.Op.move (Go.Operand.tmp 2) := ⟨_, rfl, rfl, rfl, rfl⟩
theorem bitsCO3 : ∃ o, bitsCO.1[3]? = some o ∧ o.dst = some 87 ∧ o.guard = none ∧ o.op = Go.Op.call { callee := Go.Callee.value (Go.Operand.func 12), args := #[Go.Operand.tmp 84, Go.Operand.tmp 85, Go.Operand.tmp 86], argTypes := #[24, 24, 3] } := ⟨_, rfl, rfl, rfl, rfl⟩
theorem bitsCO4 : ∃ o, bitsCO.1[4]? = some o ∧ o.dst = some 88 ∧ o.guard = none ∧ o.op = Go.Op.load 24 (Go.Operand.tmp 4) := ⟨_, rfl, rfl, rfl, rfl⟩
theorem bitsCO5 : ∃ o, bitsCO.1[5]? = some o ∧ o.dst = some 89 ∧ o.guard = none ∧ o.op = Go.Op.load 24 (Go.Operand.tmp 5) := ⟨_, rfl, rfl, rfl, rfl⟩
theorem bitsCO6 : ∃ o, bitsCO.1[6]? = some o ∧ o.dst = some 90 ∧ o.guard = none ∧ o.op = Go.Op.move (Go.Operand.tmp 2) := ⟨_, rfl, rfl, rfl, rfl⟩
theorem bitsCO7 : ∃ o, bitsCO.1[7]? = some o ∧ o.dst = some 91 ∧ o.guard = none ∧ o.op = Go.Op.call { callee := Go.Callee.value (Go.Operand.func 33), args := #[Go.Operand.tmp 88, Go.Operand.tmp 89, Go.Operand.tmp 90], argTypes := #[24, 24, 3] } := ⟨_, rfl, rfl, rfl, rfl⟩
theorem bitsCO8 : ∃ o, bitsCO.1[8]? = some o ∧ o.dst = some 92 ∧ o.guard = none ∧ o.op = Go.Op.binOp Go.BinOp.neq 24 (Go.Operand.tmp 87) (Go.Operand.tmp 91) 24 := ⟨_, rfl, rfl, rfl, rfl⟩
theorem bitsCO9 : ∃ o, bitsCO.1[9]? = some o ∧ o.dst = some 93 ∧ o.guard = none ∧ o.op = Go.Op.move (Go.Operand.tmp 92) := ⟨_, rfl, rfl, rfl, rfl⟩
theorem bitsCO10 : ∃ o, bitsCO.1[10]? = some o ∧ o.dst = some 94 ∧ o.guard = some (9, false) ∧ o.op = Go.Op.load 24 (Go.Operand.tmp 4) := ⟨_, rfl, rfl, rfl, rfl⟩
theorem bitsCO11 : ∃ o, bitsCO.1[11]? = some o ∧ o.dst = some 95 ∧ o.guard = some (9, false) ∧ o.op = Go.Op.load 24 (Go.Operand.tmp 5) := ⟨_, rfl, rfl, rfl, rfl⟩
theorem bitsCO12 : ∃ o, bitsCO.1[12]? = some o ∧ o.dst = some 96 ∧ o.guard = some (9, false) ∧ o.op = Go.Op.move (Go.Operand.tmp 2) := ⟨_, rfl, rfl, rfl, rfl⟩
theorem bitsCO13 : ∃ o, bitsCO.1[13]? = some o ∧ o.dst = some 97 ∧ o.guard = some (9, false) ∧ o.op = Go.Op.call { callee := Go.Callee.value (Go.Operand.func 13), args := #[Go.Operand.tmp 94, Go.Operand.tmp 95, Go.Operand.tmp 96], argTypes := #[24, 24, 3] } := ⟨_, rfl, rfl, rfl, rfl⟩
theorem bitsCO14 : ∃ o, bitsCO.1[14]? = some o ∧ o.dst = some 98 ∧ o.guard = some (9, false) ∧ o.op = Go.Op.load 24 (Go.Operand.tmp 4) := ⟨_, rfl, rfl, rfl, rfl⟩
theorem bitsCO15 : ∃ o, bitsCO.1[15]? = some o ∧ o.dst = some 99 ∧ o.guard = some (9, false) ∧ o.op = Go.Op.load 24 (Go.Operand.tmp 5) := ⟨_, rfl, rfl, rfl, rfl⟩
theorem bitsCO16 : ∃ o, bitsCO.1[16]? = some o ∧ o.dst = some 100 ∧ o.guard = some (9, false) ∧ o.op = Go.Op.move (Go.Operand.tmp 2) := ⟨_, rfl, rfl, rfl, rfl⟩
theorem bitsCO17 : ∃ o, bitsCO.1[17]? = some o ∧ o.dst = some 101 ∧ o.guard = some (9, false) ∧ o.op = Go.Op.call { callee := Go.Callee.value (Go.Operand.func 34), args := #[Go.Operand.tmp 98, Go.Operand.tmp 99, Go.Operand.tmp 100], argTypes := #[24, 24, 3] } := ⟨_, rfl, rfl, rfl, rfl⟩
theorem bitsCO18 : ∃ o, bitsCO.1[18]? = some o ∧ o.dst = some 102 ∧ o.guard = some (9, false) ∧ o.op = Go.Op.binOp Go.BinOp.neq 24 (Go.Operand.tmp 97) (Go.Operand.tmp 101) 24 := ⟨_, rfl, rfl, rfl, rfl⟩
theorem bitsCO19 : ∃ o, bitsCO.1[19]? = some o ∧ o.dst = some 103 ∧ o.guard = none ∧ o.op = Go.Op.pick (Go.Operand.tmp 93) (Go.Operand.const (Go.Value.bool true)) (Go.Operand.tmp 102) := ⟨_, rfl, rfl, rfl, rfl⟩
theorem bitsCO20 : ∃ o, bitsCO.1[20]? = some o ∧ o.dst = some 104 ∧ o.guard = none ∧ o.op = Go.Op.move (Go.Operand.tmp 103) := ⟨_, rfl, rfl, rfl, rfl⟩
theorem bitsCO21 : ∃ o, bitsCO.1[21]? = some o ∧ o.dst = some 105 ∧ o.guard = some (20, false) ∧ o.op = Go.Op.load 24 (Go.Operand.tmp 4) := ⟨_, rfl, rfl, rfl, rfl⟩
theorem bitsCO22 : ∃ o, bitsCO.1[22]? = some o ∧ o.dst = some 106 ∧ o.guard = some (20, false) ∧ o.op = Go.Op.move (Go.Operand.tmp 3) := ⟨_, rfl, rfl, rfl, rfl⟩
theorem bitsCO23 : ∃ o, bitsCO.1[23]? = some o ∧ o.dst = some 107 ∧ o.guard = some (20, false) ∧ o.op = Go.Op.move (Go.Operand.tmp 2) := ⟨_, rfl, rfl, rfl, rfl⟩
theorem bitsCO24 : ∃ o, bitsCO.1[24]? = some o ∧ o.dst = some 108 ∧ o.guard = some (20, false) ∧ o.op = Go.Op.call { callee := Go.Callee.value (Go.Operand.func 35), args := #[Go.Operand.tmp 105, Go.Operand.tmp 106, Go.Operand.tmp 107], argTypes := #[24, 3, 3] } := ⟨_, rfl, rfl, rfl, rfl⟩
theorem bitsCO25 : ∃ o, bitsCO.1[25]? = some o ∧ o.dst = some 109 ∧ o.guard = some (20, false) ∧ o.op = Go.Op.load 24 (Go.Operand.tmp 4) := ⟨_, rfl, rfl, rfl, rfl⟩
theorem bitsCO26 : ∃ o, bitsCO.1[26]? = some o ∧ o.dst = some 110 ∧ o.guard = some (20, false) ∧ o.op = Go.Op.move (Go.Operand.tmp 3) := ⟨_, rfl, rfl, rfl, rfl⟩
theorem bitsCO27 : ∃ o, bitsCO.1[27]? = some o ∧ o.dst = some 111 ∧ o.guard = some (20, false) ∧ o.op = Go.Op.move (Go.Operand.tmp 2) := ⟨_, rfl, rfl, rfl, rfl⟩
theorem bitsCO28 : ∃ o, bitsCO.1[28]? = some o ∧ o.dst = some 112 ∧ o.guard = some (20, false) ∧ o.op = Go.Op.call { callee := Go.Callee.value (Go.Operand.func 36), args := #[Go.Operand.tmp 109, Go.Operand.tmp 110, Go.Operand.tmp 111], argTypes := #[24, 3, 3] } := ⟨_, rfl, rfl, rfl, rfl⟩
theorem bitsCO29 : ∃ o, bitsCO.1[29]? = some o ∧ o.dst = some 113 ∧ o.guard = some (20, false) ∧ o.op = Go.Op.binOp Go.BinOp.neq 24 (Go.Operand.tmp 108) (Go.Operand.tmp 112) 24 := ⟨_, rfl, rfl, rfl, rfl⟩
theorem bitsCO30 : ∃ o, bitsCO.1[30]? = some o ∧ o.dst = some 114 ∧ o.guard = none ∧ o.op = Go.Op.pick (Go.Operand.tmp 104) (Go.Operand.const (Go.Value.bool true)) (Go.Operand.tmp 113) := ⟨_, rfl, rfl, rfl, rfl⟩
theorem bitsCO31 : ∃ o, bitsCO.1[31]? = some o ∧ o.dst = some 115 ∧ o.guard = none ∧ o.op = Go.Op.move (Go.Operand.tmp 114) := ⟨_, rfl, rfl, rfl, rfl⟩
theorem bitsCO32 : ∃ o, bitsCO.1[32]? = some o ∧ o.dst = some 116 ∧ o.guard = some (31, false) ∧ o.op = Go.Op.load 24 (Go.Operand.tmp 4) := ⟨_, rfl, rfl, rfl, rfl⟩
theorem bitsCO33 : ∃ o, bitsCO.1[33]? = some o ∧ o.dst = some 117 ∧ o.guard = some (31, false) ∧ o.op = Go.Op.move (Go.Operand.tmp 3) := ⟨_, rfl, rfl, rfl, rfl⟩
theorem bitsCO34 : ∃ o, bitsCO.1[34]? = some o ∧ o.dst = some 118 ∧ o.guard = some (31, false) ∧ o.op = Go.Op.call { callee := Go.Callee.value (Go.Operand.func 37), args := #[Go.Operand.tmp 116, Go.Operand.tmp 117], argTypes := #[24, 3] } := ⟨_, rfl, rfl, rfl, rfl⟩
theorem bitsCO35 : ∃ o, bitsCO.1[35]? = some o ∧ o.dst = some 119 ∧ o.guard = some (31, false) ∧ o.op = Go.Op.load 24 (Go.Operand.tmp 4) := ⟨_, rfl, rfl, rfl, rfl⟩
theorem bitsCO36 : ∃ o, bitsCO.1[36]? = some o ∧ o.dst = some 120 ∧ o.guard = some (31, false) ∧ o.op = Go.Op.move (Go.Operand.tmp 3) := ⟨_, rfl, rfl, rfl, rfl⟩
theorem bitsCO37 : ∃ o, bitsCO.1[37]? = some o ∧ o.dst = some 121 ∧ o.guard = some (31, false) ∧ o.op = Go.Op.call { callee := Go.Callee.value (Go.Operand.func 38), args := #[Go.Operand.tmp 119, Go.Operand.tmp 120], argTypes := #[24, 3] } := ⟨_, rfl, rfl, rfl, rfl⟩
theorem bitsCO38 : ∃ o, bitsCO.1[38]? = some o ∧ o.dst = some 122 ∧ o.guard = some (31, false) ∧ o.op = Go.Op.binOp Go.BinOp.neq 24 (Go.Operand.tmp 118) (Go.Operand.tmp 121) 24 := ⟨_, rfl, rfl, rfl, rfl⟩
theorem bitsCO39 : ∃ o, bitsCO.1[39]? = some o ∧ o.dst = some 123 ∧ o.guard = none ∧ o.op = Go.Op.pick (Go.Operand.tmp 115) (Go.Operand.const (Go.Value.bool true)) (Go.Operand.tmp 122) := ⟨_, rfl, rfl, rfl, rfl⟩
theorem bitsCO_back : ∀ (i : Nat) (o : Oper), bitsCO.1[i]? = some o → ∀ e ∈ o.after, Region.binds .any e = true → e.on < i := by
  have h : ((List.range 40).all fun i => (bitsCO.1[i]?.map fun o => o.after.all fun e => !Region.binds .any e || decide (e.on < i)).getD false) = true := by kernel_rfl
  intro i o ho e he hb
  have hi : i < 40 := by
    by_cases q : i < 40
    · exact q
    · rw [Array.getElem?_eq_none (by rw [bitsCO_size]; omega)] at ho; cases ho
  have h2 := List.all_eq_true.1 h i (List.mem_range.2 hi)
  rw [ho] at h2
  simp only [Option.map_some, Option.getD_some, Array.all_eq_true'] at h2
  have h3 := h2 e he
  rw [hb] at h3
  simpa using h3
def bitsCK (gA gB a b : Nat) (k j : Int) : List (List Nat × Tw) := [isJ [] (numV (a)), isJ [] (numV (b)), isJ [] (.int .i64 k), isJ [] (numV ((a + b) % (B * B) % 2 ^ sh k)), isJ [] (numV (a)), isJ [] (numV (b)), isJ [] (.int .i64 k), isJ [] (numV ((a + b) % 2 ^ 128 % 2 ^ sh k)), isJ [] (.bool false), isJ [] (.bool false), isJ [] (numV (a)), isJ [] (numV (b)), isJ [] (.int .i64 k), isJ [] (numV ((a + (B * B - b)) % (B * B) % 2 ^ sh k)), isJ [] (numV (a)), isJ [] (numV (b)), isJ [] (.int .i64 k), isJ [] (numV (subN a b k)), isJ [] (.bool false), isJ [] (.bool false), isJ [] (.bool false), isJ [] (numV (a)), isJ [] (.int .i64 j), isJ [] (.int .i64 k), isJ [] (numV (a * 2 ^ sh j % (B * B) % 2 ^ sh k)), isJ [] (numV (a)), isJ [] (.int .i64 j), isJ [] (.int .i64 k), isJ [] (numV (a * 2 ^ sh j % (B * B) % 2 ^ sh k)), isJ [] (.bool false), isJ [] (.bool false), isJ [] (.bool false), isJ [] (numV (a)), isJ [] (.int .i64 j), isJ [] (numV (a / 2 ^ sh j)), isJ [] (numV (a)), isJ [] (.int .i64 j), isJ [] (numV (a / 2 ^ sh j)), isJ [] (.bool false), isJ [] (.bool false)]
theorem bitsCK_free {gA gB a b : Nat} {k j : Int} : KdFree (bitsCK gA gB a b k j) := fun i js P hk B w w' ls v hp => by
  match i, hk with
  | 0, hk => cases hk; exact hp
  | 1, hk => cases hk; exact hp
  | 2, hk => cases hk; exact hp
  | 3, hk => cases hk; exact hp
  | 4, hk => cases hk; exact hp
  | 5, hk => cases hk; exact hp
  | 6, hk => cases hk; exact hp
  | 7, hk => cases hk; exact hp
  | 8, hk => cases hk; exact hp
  | 9, hk => cases hk; exact hp
  | 10, hk => cases hk; exact hp
  | 11, hk => cases hk; exact hp
  | 12, hk => cases hk; exact hp
  | 13, hk => cases hk; exact hp
  | 14, hk => cases hk; exact hp
  | 15, hk => cases hk; exact hp
  | 16, hk => cases hk; exact hp
  | 17, hk => cases hk; exact hp
  | 18, hk => cases hk; exact hp
  | 19, hk => cases hk; exact hp
  | 20, hk => cases hk; exact hp
  | 21, hk => cases hk; exact hp
  | 22, hk => cases hk; exact hp
  | 23, hk => cases hk; exact hp
  | 24, hk => cases hk; exact hp
  | 25, hk => cases hk; exact hp
  | 26, hk => cases hk; exact hp
  | 27, hk => cases hk; exact hp
  | 28, hk => cases hk; exact hp
  | 29, hk => cases hk; exact hp
  | 30, hk => cases hk; exact hp
  | 31, hk => cases hk; exact hp
  | 32, hk => cases hk; exact hp
  | 33, hk => cases hk; exact hp
  | 34, hk => cases hk; exact hp
  | 35, hk => cases hk; exact hp
  | 36, hk => cases hk; exact hp
  | 37, hk => cases hk; exact hp
  | 38, hk => cases hk; exact hp
  | 39, hk => cases hk; exact hp
  | i + 40, hk => simp [bitsCK] at hk
structure bitsCC (gA gB a b : Nat) (k j : Int) (WB : World) (T : List Value) : Prop where
  tl : T.length = 156
  t2 : nth T 2 = .int .i64 k
  t3 : nth T 3 = .int .i64 j
  t4 : nth T 4 = .pointer (some ⟨gA, 0, none⟩)
  t5 : nth T 5 = .pointer (some ⟨gB, 0, none⟩)
  ca0 : WB.cell? ⟨gA, 0, none⟩ = some (.int .u64 ((a / B : Nat) : Int))
  ca1 : WB.cell? ⟨gA, 1, none⟩ = some (.int .u64 ((a % B : Nat) : Int))
  cb0 : WB.cell? ⟨gB, 0, none⟩ = some (.int .u64 ((b / B : Nat) : Int))
  cb1 : WB.cell? ⟨gB, 1, none⟩ = some (.int .u64 ((b % B : Nat) : Int))
  la : a < B * B
  lb : b < B * B
  lj : j ≤ 9223372036854775807
set_option maxRecDepth 100000 in
set_option maxHeartbeats 1000000 in
theorem bitsC_s0 {gA gB a b : Nat} {k j : Int} {WB w : World} {T l : List Value} {L : Array Bool} (Q : Exit → Act → World → Prop) (c : bitsCC gA gB a b k j WB T) (h : VT Tryd.prog bitsCO.1 40 156 bitsCD WB (bitsCK gA gB a b k j) T L l w 0) : wpOp Tryd.prog bitsCO.1 Q 0 (SJ (vaR WB (bitsCK gA gB a b k j)) 40 bitsCD T (L.setIfInBounds 0 true)) (frm2 bitsCD T l) w := by
  obtain ⟨o, ho, hd, hg, hop⟩ := bitsCO0
  have hw := wanted_un (ops := bitsCO.1) (t := (frm2 bitsCD T l).tmps) hg
  exact h.same (v := numV (a)) ho hd rfl hw rfl (ex_load_n hop ((h.old (s := 4) rfl (by decide)).trans c.t4) (h.cell c.ca0) (h.cell c.ca1))

set_option maxRecDepth 100000 in
set_option maxHeartbeats 1000000 in
theorem bitsC_s1 {gA gB a b : Nat} {k j : Int} {WB w : World} {T l : List Value} {L : Array Bool} (Q : Exit → Act → World → Prop) (c : bitsCC gA gB a b k j WB T) (h : VT Tryd.prog bitsCO.1 40 156 bitsCD WB (bitsCK gA gB a b k j) T L l w 1) : wpOp Tryd.prog bitsCO.1 Q 1 (SJ (vaR WB (bitsCK gA gB a b k j)) 40 bitsCD T (L.setIfInBounds 1 true)) (frm2 bitsCD T l) w := by
  obtain ⟨o, ho, hd, hg, hop⟩ := bitsCO1
  have hw := wanted_un (ops := bitsCO.1) (t := (frm2 bitsCD T l).tmps) hg
  exact h.same (v := numV (b)) ho hd rfl hw rfl (ex_load_n hop ((h.old (s := 5) rfl (by decide)).trans c.t5) (h.cell c.cb0) (h.cell c.cb1))

set_option maxRecDepth 100000 in
set_option maxHeartbeats 1000000 in
theorem bitsC_s2 {gA gB a b : Nat} {k j : Int} {WB w : World} {T l : List Value} {L : Array Bool} (Q : Exit → Act → World → Prop) (c : bitsCC gA gB a b k j WB T) (h : VT Tryd.prog bitsCO.1 40 156 bitsCD WB (bitsCK gA gB a b k j) T L l w 2) : wpOp Tryd.prog bitsCO.1 Q 2 (SJ (vaR WB (bitsCK gA gB a b k j)) 40 bitsCD T (L.setIfInBounds 2 true)) (frm2 bitsCD T l) w := by
  obtain ⟨o, ho, hd, hg, hop⟩ := bitsCO2
  have hw := wanted_un (ops := bitsCO.1) (t := (frm2 bitsCD T l).tmps) hg
  exact h.same (v := .int .i64 k) ho hd rfl hw rfl (ex_move hop ((h.old (s := 2) rfl (by decide)).trans c.t2))

set_option maxRecDepth 100000 in
set_option maxHeartbeats 1000000 in
theorem bitsC_s3 {gA gB a b : Nat} {k j : Int} {WB w : World} {T l : List Value} {L : Array Bool} (Q : Exit → Act → World → Prop) (c : bitsCC gA gB a b k j WB T) (h : VT Tryd.prog bitsCO.1 40 156 bitsCD WB (bitsCK gA gB a b k j) T L l w 3) : wpOp Tryd.prog bitsCO.1 Q 3 (SJ (vaR WB (bitsCK gA gB a b k j)) 40 bitsCD T (L.setIfInBounds 3 true)) (frm2 bitsCD T l) w := by
  obtain ⟨o, ho, hd, hg, hop⟩ := bitsCO3
  have hw := wanted_un (ops := bitsCO.1) (t := (frm2 bitsCD T l).tmps) hg
  have x84 := ((h.new (s := 84) (j := 0) rfl (by decide)).trans (h.rw.gotK 0 (dep_of (a := 0) (by kernel_rfl) h.dep) rfl))
  have x85 := ((h.new (s := 85) (j := 1) rfl (by decide)).trans (h.rw.gotK 1 (dep_of (a := 1) (by kernel_rfl) h.dep) rfl))
  have x86 := ((h.new (s := 86) (j := 2) rfl (by decide)).trans (h.rw.gotK 2 (dep_of (a := 2) (by kernel_rfl) h.dep) rfl))
  exact h.call (v := numV ((a + b) % (B * B) % 2 ^ sh k)) ho hd rfl hw rfl (ex_call hop rfl rfl (args := #[numV (a), numV (b), .int .i64 k]) (all := #[numV (a), numV (b), .int .i64 k]) (by simp only [List.map_toArray, List.map_cons, List.map_nil]; rw [x84, x85, x86]) (by simp) (fun av W => by kernel_rfl)) (numAdd_any a b k w c.la c.lb)

set_option maxRecDepth 100000 in
set_option maxHeartbeats 1000000 in
theorem bitsC_s4 {gA gB a b : Nat} {k j : Int} {WB w : World} {T l : List Value} {L : Array Bool} (Q : Exit → Act → World → Prop) (c : bitsCC gA gB a b k j WB T) (h : VT Tryd.prog bitsCO.1 40 156 bitsCD WB (bitsCK gA gB a b k j) T L l w 4) : wpOp Tryd.prog bitsCO.1 Q 4 (SJ (vaR WB (bitsCK gA gB a b k j)) 40 bitsCD T (L.setIfInBounds 4 true)) (frm2 bitsCD T l) w := by
  obtain ⟨o, ho, hd, hg, hop⟩ := bitsCO4
  have hw := wanted_un (ops := bitsCO.1) (t := (frm2 bitsCD T l).tmps) hg
  exact h.same (v := numV (a)) ho hd rfl hw rfl (ex_load_n hop ((h.old (s := 4) rfl (by decide)).trans c.t4) (h.cell c.ca0) (h.cell c.ca1))

set_option maxRecDepth 100000 in
set_option maxHeartbeats 1000000 in
theorem bitsC_s5 {gA gB a b : Nat} {k j : Int} {WB w : World} {T l : List Value} {L : Array Bool} (Q : Exit → Act → World → Prop) (c : bitsCC gA gB a b k j WB T) (h : VT Tryd.prog bitsCO.1 40 156 bitsCD WB (bitsCK gA gB a b k j) T L l w 5) : wpOp Tryd.prog bitsCO.1 Q 5 (SJ (vaR WB (bitsCK gA gB a b k j)) 40 bitsCD T (L.setIfInBounds 5 true)) (frm2 bitsCD T l) w := by
  obtain ⟨o, ho, hd, hg, hop⟩ := bitsCO5
  have hw := wanted_un (ops := bitsCO.1) (t := (frm2 bitsCD T l).tmps) hg
  exact h.same (v := numV (b)) ho hd rfl hw rfl (ex_load_n hop ((h.old (s := 5) rfl (by decide)).trans c.t5) (h.cell c.cb0) (h.cell c.cb1))

set_option maxRecDepth 100000 in
set_option maxHeartbeats 1000000 in
theorem bitsC_s6 {gA gB a b : Nat} {k j : Int} {WB w : World} {T l : List Value} {L : Array Bool} (Q : Exit → Act → World → Prop) (c : bitsCC gA gB a b k j WB T) (h : VT Tryd.prog bitsCO.1 40 156 bitsCD WB (bitsCK gA gB a b k j) T L l w 6) : wpOp Tryd.prog bitsCO.1 Q 6 (SJ (vaR WB (bitsCK gA gB a b k j)) 40 bitsCD T (L.setIfInBounds 6 true)) (frm2 bitsCD T l) w := by
  obtain ⟨o, ho, hd, hg, hop⟩ := bitsCO6
  have hw := wanted_un (ops := bitsCO.1) (t := (frm2 bitsCD T l).tmps) hg
  exact h.same (v := .int .i64 k) ho hd rfl hw rfl (ex_move hop ((h.old (s := 2) rfl (by decide)).trans c.t2))

set_option maxRecDepth 100000 in
set_option maxHeartbeats 1000000 in
theorem bitsC_s7 {gA gB a b : Nat} {k j : Int} {WB w : World} {T l : List Value} {L : Array Bool} (Q : Exit → Act → World → Prop) (c : bitsCC gA gB a b k j WB T) (h : VT Tryd.prog bitsCO.1 40 156 bitsCD WB (bitsCK gA gB a b k j) T L l w 7) : wpOp Tryd.prog bitsCO.1 Q 7 (SJ (vaR WB (bitsCK gA gB a b k j)) 40 bitsCD T (L.setIfInBounds 7 true)) (frm2 bitsCD T l) w := by
  obtain ⟨o, ho, hd, hg, hop⟩ := bitsCO7
  have hw := wanted_un (ops := bitsCO.1) (t := (frm2 bitsCD T l).tmps) hg
  have x88 := ((h.new (s := 88) (j := 4) rfl (by decide)).trans (h.rw.gotK 4 (dep_of (a := 4) (by kernel_rfl) h.dep) rfl))
  have x89 := ((h.new (s := 89) (j := 5) rfl (by decide)).trans (h.rw.gotK 5 (dep_of (a := 5) (by kernel_rfl) h.dep) rfl))
  have x90 := ((h.new (s := 90) (j := 6) rfl (by decide)).trans (h.rw.gotK 6 (dep_of (a := 6) (by kernel_rfl) h.dep) rfl))
  exact h.call (v := numV ((a + b) % 2 ^ 128 % 2 ^ sh k)) ho hd rfl hw rfl (ex_call hop rfl rfl (args := #[numV (a), numV (b), .int .i64 k]) (all := #[numV (a), numV (b), .int .i64 k]) (by simp only [List.map_toArray, List.map_cons, List.map_nil]; rw [x88, x89, x90]) (by simp) (fun av W => by kernel_rfl)) (refAdd_any a b k c.la c.lb w)

set_option maxRecDepth 100000 in
set_option maxHeartbeats 1000000 in
theorem bitsC_s8 {gA gB a b : Nat} {k j : Int} {WB w : World} {T l : List Value} {L : Array Bool} (Q : Exit → Act → World → Prop) (c : bitsCC gA gB a b k j WB T) (h : VT Tryd.prog bitsCO.1 40 156 bitsCD WB (bitsCK gA gB a b k j) T L l w 8) : wpOp Tryd.prog bitsCO.1 Q 8 (SJ (vaR WB (bitsCK gA gB a b k j)) 40 bitsCD T (L.setIfInBounds 8 true)) (frm2 bitsCD T l) w := by
  obtain ⟨o, ho, hd, hg, hop⟩ := bitsCO8
  have hw := wanted_un (ops := bitsCO.1) (t := (frm2 bitsCD T l).tmps) hg
  exact h.same (v := .bool false) ho hd rfl hw rfl (ex_neqN hop ((h.new (s := 87) (j := 3) rfl (by decide)).trans (h.rw.gotK 3 (dep_of (a := 3) (by kernel_rfl) h.dep) rfl)) ((h.new (s := 91) (j := 7) rfl (by decide)).trans (h.rw.gotK 7 (dep_of (a := 7) (by kernel_rfl) h.dep) rfl)) (by rw [BB_pow2]))

set_option maxRecDepth 100000 in
set_option maxHeartbeats 1000000 in
theorem bitsC_s9 {gA gB a b : Nat} {k j : Int} {WB w : World} {T l : List Value} {L : Array Bool} (Q : Exit → Act → World → Prop) (c : bitsCC gA gB a b k j WB T) (h : VT Tryd.prog bitsCO.1 40 156 bitsCD WB (bitsCK gA gB a b k j) T L l w 9) : wpOp Tryd.prog bitsCO.1 Q 9 (SJ (vaR WB (bitsCK gA gB a b k j)) 40 bitsCD T (L.setIfInBounds 9 true)) (frm2 bitsCD T l) w := by
  obtain ⟨o, ho, hd, hg, hop⟩ := bitsCO9
  have hw := wanted_un (ops := bitsCO.1) (t := (frm2 bitsCD T l).tmps) hg
  exact h.same (v := .bool false) ho hd rfl hw rfl (ex_move hop ((h.new (s := 92) (j := 8) rfl (by decide)).trans (h.rw.gotK 8 (dep_of (a := 8) (by kernel_rfl) h.dep) rfl)))

set_option maxRecDepth 100000 in
set_option maxHeartbeats 1000000 in
theorem bitsC_s10 {gA gB a b : Nat} {k j : Int} {WB w : World} {T l : List Value} {L : Array Bool} (Q : Exit → Act → World → Prop) (c : bitsCC gA gB a b k j WB T) (h : VT Tryd.prog bitsCO.1 40 156 bitsCD WB (bitsCK gA gB a b k j) T L l w 10) : wpOp Tryd.prog bitsCO.1 Q 10 (SJ (vaR WB (bitsCK gA gB a b k j)) 40 bitsCD T (L.setIfInBounds 10 true)) (frm2 bitsCD T l) w := by
  obtain ⟨o, ho, hd, hg, hop⟩ := bitsCO10
  obtain ⟨oj, hj, hdj, -, -⟩ := bitsCO9
  have hw := wanted2_go (T := T) (l := l) hg hj hdj (show slotOf bitsCD 93 = some 9 from rfl) (by rw [h.tl]; decide) (h.rw.gotK 9 (dep_of (a := 9) (by kernel_rfl) h.dep) rfl)
  exact h.same (v := numV (a)) ho hd rfl hw rfl (ex_load_n hop ((h.old (s := 4) rfl (by decide)).trans c.t4) (h.cell c.ca0) (h.cell c.ca1))

set_option maxRecDepth 100000 in
set_option maxHeartbeats 1000000 in
theorem bitsC_s11 {gA gB a b : Nat} {k j : Int} {WB w : World} {T l : List Value} {L : Array Bool} (Q : Exit → Act → World → Prop) (c : bitsCC gA gB a b k j WB T) (h : VT Tryd.prog bitsCO.1 40 156 bitsCD WB (bitsCK gA gB a b k j) T L l w 11) : wpOp Tryd.prog bitsCO.1 Q 11 (SJ (vaR WB (bitsCK gA gB a b k j)) 40 bitsCD T (L.setIfInBounds 11 true)) (frm2 bitsCD T l) w := by
  obtain ⟨o, ho, hd, hg, hop⟩ := bitsCO11
  obtain ⟨oj, hj, hdj, -, -⟩ := bitsCO9
  have hw := wanted2_go (T := T) (l := l) hg hj hdj (show slotOf bitsCD 93 = some 9 from rfl) (by rw [h.tl]; decide) (h.rw.gotK 9 (dep_of (a := 9) (by kernel_rfl) h.dep) rfl)
  exact h.same (v := numV (b)) ho hd rfl hw rfl (ex_load_n hop ((h.old (s := 5) rfl (by decide)).trans c.t5) (h.cell c.cb0) (h.cell c.cb1))

set_option maxRecDepth 100000 in
set_option maxHeartbeats 1000000 in
theorem bitsC_s12 {gA gB a b : Nat} {k j : Int} {WB w : World} {T l : List Value} {L : Array Bool} (Q : Exit → Act → World → Prop) (c : bitsCC gA gB a b k j WB T) (h : VT Tryd.prog bitsCO.1 40 156 bitsCD WB (bitsCK gA gB a b k j) T L l w 12) : wpOp Tryd.prog bitsCO.1 Q 12 (SJ (vaR WB (bitsCK gA gB a b k j)) 40 bitsCD T (L.setIfInBounds 12 true)) (frm2 bitsCD T l) w := by
  obtain ⟨o, ho, hd, hg, hop⟩ := bitsCO12
  obtain ⟨oj, hj, hdj, -, -⟩ := bitsCO9
  have hw := wanted2_go (T := T) (l := l) hg hj hdj (show slotOf bitsCD 93 = some 9 from rfl) (by rw [h.tl]; decide) (h.rw.gotK 9 (dep_of (a := 9) (by kernel_rfl) h.dep) rfl)
  exact h.same (v := .int .i64 k) ho hd rfl hw rfl (ex_move hop ((h.old (s := 2) rfl (by decide)).trans c.t2))

set_option maxRecDepth 100000 in
set_option maxHeartbeats 1000000 in
theorem bitsC_s13 {gA gB a b : Nat} {k j : Int} {WB w : World} {T l : List Value} {L : Array Bool} (Q : Exit → Act → World → Prop) (c : bitsCC gA gB a b k j WB T) (h : VT Tryd.prog bitsCO.1 40 156 bitsCD WB (bitsCK gA gB a b k j) T L l w 13) : wpOp Tryd.prog bitsCO.1 Q 13 (SJ (vaR WB (bitsCK gA gB a b k j)) 40 bitsCD T (L.setIfInBounds 13 true)) (frm2 bitsCD T l) w := by
  obtain ⟨o, ho, hd, hg, hop⟩ := bitsCO13
  obtain ⟨oj, hj, hdj, -, -⟩ := bitsCO9
  have hw := wanted2_go (T := T) (l := l) hg hj hdj (show slotOf bitsCD 93 = some 9 from rfl) (by rw [h.tl]; decide) (h.rw.gotK 9 (dep_of (a := 9) (by kernel_rfl) h.dep) rfl)
  have x94 := ((h.new (s := 94) (j := 10) rfl (by decide)).trans (h.rw.gotK 10 (dep_of (a := 10) (by kernel_rfl) h.dep) rfl))
  have x95 := ((h.new (s := 95) (j := 11) rfl (by decide)).trans (h.rw.gotK 11 (dep_of (a := 11) (by kernel_rfl) h.dep) rfl))
  have x96 := ((h.new (s := 96) (j := 12) rfl (by decide)).trans (h.rw.gotK 12 (dep_of (a := 12) (by kernel_rfl) h.dep) rfl))
  exact h.call (v := numV ((a + (B * B - b)) % (B * B) % 2 ^ sh k)) ho hd rfl hw rfl (ex_call hop rfl rfl (args := #[numV (a), numV (b), .int .i64 k]) (all := #[numV (a), numV (b), .int .i64 k]) (by simp only [List.map_toArray, List.map_cons, List.map_nil]; rw [x94, x95, x96]) (by simp) (fun av W => by kernel_rfl)) (numSub_any a b k w c.la c.lb)

set_option maxRecDepth 100000 in
set_option maxHeartbeats 1000000 in
theorem bitsC_s14 {gA gB a b : Nat} {k j : Int} {WB w : World} {T l : List Value} {L : Array Bool} (Q : Exit → Act → World → Prop) (c : bitsCC gA gB a b k j WB T) (h : VT Tryd.prog bitsCO.1 40 156 bitsCD WB (bitsCK gA gB a b k j) T L l w 14) : wpOp Tryd.prog bitsCO.1 Q 14 (SJ (vaR WB (bitsCK gA gB a b k j)) 40 bitsCD T (L.setIfInBounds 14 true)) (frm2 bitsCD T l) w := by
  obtain ⟨o, ho, hd, hg, hop⟩ := bitsCO14
  obtain ⟨oj, hj, hdj, -, -⟩ := bitsCO9
  have hw := wanted2_go (T := T) (l := l) hg hj hdj (show slotOf bitsCD 93 = some 9 from rfl) (by rw [h.tl]; decide) (h.rw.gotK 9 (dep_of (a := 9) (by kernel_rfl) h.dep) rfl)
  exact h.same (v := numV (a)) ho hd rfl hw rfl (ex_load_n hop ((h.old (s := 4) rfl (by decide)).trans c.t4) (h.cell c.ca0) (h.cell c.ca1))

set_option maxRecDepth 100000 in
set_option maxHeartbeats 1000000 in
theorem bitsC_s15 {gA gB a b : Nat} {k j : Int} {WB w : World} {T l : List Value} {L : Array Bool} (Q : Exit → Act → World → Prop) (c : bitsCC gA gB a b k j WB T) (h : VT Tryd.prog bitsCO.1 40 156 bitsCD WB (bitsCK gA gB a b k j) T L l w 15) : wpOp Tryd.prog bitsCO.1 Q 15 (SJ (vaR WB (bitsCK gA gB a b k j)) 40 bitsCD T (L.setIfInBounds 15 true)) (frm2 bitsCD T l) w := by
  obtain ⟨o, ho, hd, hg, hop⟩ := bitsCO15
  obtain ⟨oj, hj, hdj, -, -⟩ := bitsCO9
  have hw := wanted2_go (T := T) (l := l) hg hj hdj (show slotOf bitsCD 93 = some 9 from rfl) (by rw [h.tl]; decide) (h.rw.gotK 9 (dep_of (a := 9) (by kernel_rfl) h.dep) rfl)
  exact h.same (v := numV (b)) ho hd rfl hw rfl (ex_load_n hop ((h.old (s := 5) rfl (by decide)).trans c.t5) (h.cell c.cb0) (h.cell c.cb1))

set_option maxRecDepth 100000 in
set_option maxHeartbeats 1000000 in
theorem bitsC_s16 {gA gB a b : Nat} {k j : Int} {WB w : World} {T l : List Value} {L : Array Bool} (Q : Exit → Act → World → Prop) (c : bitsCC gA gB a b k j WB T) (h : VT Tryd.prog bitsCO.1 40 156 bitsCD WB (bitsCK gA gB a b k j) T L l w 16) : wpOp Tryd.prog bitsCO.1 Q 16 (SJ (vaR WB (bitsCK gA gB a b k j)) 40 bitsCD T (L.setIfInBounds 16 true)) (frm2 bitsCD T l) w := by
  obtain ⟨o, ho, hd, hg, hop⟩ := bitsCO16
  obtain ⟨oj, hj, hdj, -, -⟩ := bitsCO9
  have hw := wanted2_go (T := T) (l := l) hg hj hdj (show slotOf bitsCD 93 = some 9 from rfl) (by rw [h.tl]; decide) (h.rw.gotK 9 (dep_of (a := 9) (by kernel_rfl) h.dep) rfl)
  exact h.same (v := .int .i64 k) ho hd rfl hw rfl (ex_move hop ((h.old (s := 2) rfl (by decide)).trans c.t2))

set_option maxRecDepth 100000 in
set_option maxHeartbeats 1000000 in
theorem bitsC_s17 {gA gB a b : Nat} {k j : Int} {WB w : World} {T l : List Value} {L : Array Bool} (Q : Exit → Act → World → Prop) (c : bitsCC gA gB a b k j WB T) (h : VT Tryd.prog bitsCO.1 40 156 bitsCD WB (bitsCK gA gB a b k j) T L l w 17) : wpOp Tryd.prog bitsCO.1 Q 17 (SJ (vaR WB (bitsCK gA gB a b k j)) 40 bitsCD T (L.setIfInBounds 17 true)) (frm2 bitsCD T l) w := by
  obtain ⟨o, ho, hd, hg, hop⟩ := bitsCO17
  obtain ⟨oj, hj, hdj, -, -⟩ := bitsCO9
  have hw := wanted2_go (T := T) (l := l) hg hj hdj (show slotOf bitsCD 93 = some 9 from rfl) (by rw [h.tl]; decide) (h.rw.gotK 9 (dep_of (a := 9) (by kernel_rfl) h.dep) rfl)
  have x98 := ((h.new (s := 98) (j := 14) rfl (by decide)).trans (h.rw.gotK 14 (dep_of (a := 14) (by kernel_rfl) h.dep) rfl))
  have x99 := ((h.new (s := 99) (j := 15) rfl (by decide)).trans (h.rw.gotK 15 (dep_of (a := 15) (by kernel_rfl) h.dep) rfl))
  have x100 := ((h.new (s := 100) (j := 16) rfl (by decide)).trans (h.rw.gotK 16 (dep_of (a := 16) (by kernel_rfl) h.dep) rfl))
  exact h.call (v := numV (subN a b k)) ho hd rfl hw rfl (ex_call hop rfl rfl (args := #[numV (a), numV (b), .int .i64 k]) (all := #[numV (a), numV (b), .int .i64 k]) (by simp only [List.map_toArray, List.map_cons, List.map_nil]; rw [x98, x99, x100]) (by simp) (fun av W => by kernel_rfl)) (refSub_any a b k c.la c.lb w)

set_option maxRecDepth 100000 in
set_option maxHeartbeats 1000000 in
theorem bitsC_s18 {gA gB a b : Nat} {k j : Int} {WB w : World} {T l : List Value} {L : Array Bool} (Q : Exit → Act → World → Prop) (c : bitsCC gA gB a b k j WB T) (h : VT Tryd.prog bitsCO.1 40 156 bitsCD WB (bitsCK gA gB a b k j) T L l w 18) : wpOp Tryd.prog bitsCO.1 Q 18 (SJ (vaR WB (bitsCK gA gB a b k j)) 40 bitsCD T (L.setIfInBounds 18 true)) (frm2 bitsCD T l) w := by
  obtain ⟨o, ho, hd, hg, hop⟩ := bitsCO18
  obtain ⟨oj, hj, hdj, -, -⟩ := bitsCO9
  have hw := wanted2_go (T := T) (l := l) hg hj hdj (show slotOf bitsCD 93 = some 9 from rfl) (by rw [h.tl]; decide) (h.rw.gotK 9 (dep_of (a := 9) (by kernel_rfl) h.dep) rfl)
  exact h.same (v := .bool false) ho hd rfl hw rfl (ex_neqN hop ((h.new (s := 97) (j := 13) rfl (by decide)).trans (h.rw.gotK 13 (dep_of (a := 13) (by kernel_rfl) h.dep) rfl)) ((h.new (s := 101) (j := 17) rfl (by decide)).trans (h.rw.gotK 17 (dep_of (a := 17) (by kernel_rfl) h.dep) rfl)) (by unfold subN; rw [BB_pow2]))

set_option maxRecDepth 100000 in
set_option maxHeartbeats 1000000 in
theorem bitsC_s19 {gA gB a b : Nat} {k j : Int} {WB w : World} {T l : List Value} {L : Array Bool} (Q : Exit → Act → World → Prop) (c : bitsCC gA gB a b k j WB T) (h : VT Tryd.prog bitsCO.1 40 156 bitsCD WB (bitsCK gA gB a b k j) T L l w 19) : wpOp Tryd.prog bitsCO.1 Q 19 (SJ (vaR WB (bitsCK gA gB a b k j)) 40 bitsCD T (L.setIfInBounds 19 true)) (frm2 bitsCD T l) w := by
  obtain ⟨o, ho, hd, hg, hop⟩ := bitsCO19
  have hw := wanted_un (ops := bitsCO.1) (t := (frm2 bitsCD T l).tmps) hg
  exact h.same (v := .bool false) ho hd rfl hw rfl (ex_pick hop ((h.new (s := 93) (j := 9) rfl (by decide)).trans (h.rw.gotK 9 (dep_of (a := 9) (by kernel_rfl) h.dep) rfl)) ((h.new (s := 102) (j := 18) rfl (by decide)).trans (h.rw.gotK 18 (dep_of (a := 18) (by kernel_rfl) h.dep) rfl)))

set_option maxRecDepth 100000 in
set_option maxHeartbeats 1000000 in
theorem bitsC_s20 {gA gB a b : Nat} {k j : Int} {WB w : World} {T l : List Value} {L : Array Bool} (Q : Exit → Act → World → Prop) (c : bitsCC gA gB a b k j WB T) (h : VT Tryd.prog bitsCO.1 40 156 bitsCD WB (bitsCK gA gB a b k j) T L l w 20) : wpOp Tryd.prog bitsCO.1 Q 20 (SJ (vaR WB (bitsCK gA gB a b k j)) 40 bitsCD T (L.setIfInBounds 20 true)) (frm2 bitsCD T l) w := by
  obtain ⟨o, ho, hd, hg, hop⟩ := bitsCO20
  have hw := wanted_un (ops := bitsCO.1) (t := (frm2 bitsCD T l).tmps) hg
  exact h.same (v := .bool false) ho hd rfl hw rfl (ex_move hop ((h.new (s := 103) (j := 19) rfl (by decide)).trans (h.rw.gotK 19 (dep_of (a := 19) (by kernel_rfl) h.dep) rfl)))

set_option maxRecDepth 100000 in
set_option maxHeartbeats 1000000 in
theorem bitsC_s21 {gA gB a b : Nat} {k j : Int} {WB w : World} {T l : List Value} {L : Array Bool} (Q : Exit → Act → World → Prop) (c : bitsCC gA gB a b k j WB T) (h : VT Tryd.prog bitsCO.1 40 156 bitsCD WB (bitsCK gA gB a b k j) T L l w 21) : wpOp Tryd.prog bitsCO.1 Q 21 (SJ (vaR WB (bitsCK gA gB a b k j)) 40 bitsCD T (L.setIfInBounds 21 true)) (frm2 bitsCD T l) w := by
  obtain ⟨o, ho, hd, hg, hop⟩ := bitsCO21
  obtain ⟨oj, hj, hdj, -, -⟩ := bitsCO20
  have hw := wanted2_go (T := T) (l := l) hg hj hdj (show slotOf bitsCD 104 = some 20 from rfl) (by rw [h.tl]; decide) (h.rw.gotK 20 (dep_of (a := 20) (by kernel_rfl) h.dep) rfl)
  exact h.same (v := numV (a)) ho hd rfl hw rfl (ex_load_n hop ((h.old (s := 4) rfl (by decide)).trans c.t4) (h.cell c.ca0) (h.cell c.ca1))

set_option maxRecDepth 100000 in
set_option maxHeartbeats 1000000 in
theorem bitsC_s22 {gA gB a b : Nat} {k j : Int} {WB w : World} {T l : List Value} {L : Array Bool} (Q : Exit → Act → World → Prop) (c : bitsCC gA gB a b k j WB T) (h : VT Tryd.prog bitsCO.1 40 156 bitsCD WB (bitsCK gA gB a b k j) T L l w 22) : wpOp Tryd.prog bitsCO.1 Q 22 (SJ (vaR WB (bitsCK gA gB a b k j)) 40 bitsCD T (L.setIfInBounds 22 true)) (frm2 bitsCD T l) w := by
  obtain ⟨o, ho, hd, hg, hop⟩ := bitsCO22
  obtain ⟨oj, hj, hdj, -, -⟩ := bitsCO20
  have hw := wanted2_go (T := T) (l := l) hg hj hdj (show slotOf bitsCD 104 = some 20 from rfl) (by rw [h.tl]; decide) (h.rw.gotK 20 (dep_of (a := 20) (by kernel_rfl) h.dep) rfl)
  exact h.same (v := .int .i64 j) ho hd rfl hw rfl (ex_move hop ((h.old (s := 3) rfl (by decide)).trans c.t3))

set_option maxRecDepth 100000 in
set_option maxHeartbeats 1000000 in
theorem bitsC_s23 {gA gB a b : Nat} {k j : Int} {WB w : World} {T l : List Value} {L : Array Bool} (Q : Exit → Act → World → Prop) (c : bitsCC gA gB a b k j WB T) (h : VT Tryd.prog bitsCO.1 40 156 bitsCD WB (bitsCK gA gB a b k j) T L l w 23) : wpOp Tryd.prog bitsCO.1 Q 23 (SJ (vaR WB (bitsCK gA gB a b k j)) 40 bitsCD T (L.setIfInBounds 23 true)) (frm2 bitsCD T l) w := by
  obtain ⟨o, ho, hd, hg, hop⟩ := bitsCO23
  obtain ⟨oj, hj, hdj, -, -⟩ := bitsCO20
  have hw := wanted2_go (T := T) (l := l) hg hj hdj (show slotOf bitsCD 104 = some 20 from rfl) (by rw [h.tl]; decide) (h.rw.gotK 20 (dep_of (a := 20) (by kernel_rfl) h.dep) rfl)
  exact h.same (v := .int .i64 k) ho hd rfl hw rfl (ex_move hop ((h.old (s := 2) rfl (by decide)).trans c.t2))

set_option maxRecDepth 100000 in
set_option maxHeartbeats 1000000 in
theorem bitsC_s24 {gA gB a b : Nat} {k j : Int} {WB w : World} {T l : List Value} {L : Array Bool} (Q : Exit → Act → World → Prop) (c : bitsCC gA gB a b k j WB T) (h : VT Tryd.prog bitsCO.1 40 156 bitsCD WB (bitsCK gA gB a b k j) T L l w 24) : wpOp Tryd.prog bitsCO.1 Q 24 (SJ (vaR WB (bitsCK gA gB a b k j)) 40 bitsCD T (L.setIfInBounds 24 true)) (frm2 bitsCD T l) w := by
  obtain ⟨o, ho, hd, hg, hop⟩ := bitsCO24
  obtain ⟨oj, hj, hdj, -, -⟩ := bitsCO20
  have hw := wanted2_go (T := T) (l := l) hg hj hdj (show slotOf bitsCD 104 = some 20 from rfl) (by rw [h.tl]; decide) (h.rw.gotK 20 (dep_of (a := 20) (by kernel_rfl) h.dep) rfl)
  have x105 := ((h.new (s := 105) (j := 21) rfl (by decide)).trans (h.rw.gotK 21 (dep_of (a := 21) (by kernel_rfl) h.dep) rfl))
  have x106 := ((h.new (s := 106) (j := 22) rfl (by decide)).trans (h.rw.gotK 22 (dep_of (a := 22) (by kernel_rfl) h.dep) rfl))
  have x107 := ((h.new (s := 107) (j := 23) rfl (by decide)).trans (h.rw.gotK 23 (dep_of (a := 23) (by kernel_rfl) h.dep) rfl))
  exact h.call (v := numV (a * 2 ^ sh j % (B * B) % 2 ^ sh k)) ho hd rfl hw rfl (ex_call hop rfl rfl (args := #[numV (a), .int .i64 j, .int .i64 k]) (all := #[numV (a), .int .i64 j, .int .i64 k]) (by simp only [List.map_toArray, List.map_cons, List.map_nil]; rw [x105, x106, x107]) (by simp) (fun av W => by kernel_rfl)) (numShl_any a j k w c.la)

set_option maxRecDepth 100000 in
set_option maxHeartbeats 1000000 in
theorem bitsC_s25 {gA gB a b : Nat} {k j : Int} {WB w : World} {T l : List Value} {L : Array Bool} (Q : Exit → Act → World → Prop) (c : bitsCC gA gB a b k j WB T) (h : VT Tryd.prog bitsCO.1 40 156 bitsCD WB (bitsCK gA gB a b k j) T L l w 25) : wpOp Tryd.prog bitsCO.1 Q 25 (SJ (vaR WB (bitsCK gA gB a b k j)) 40 bitsCD T (L.setIfInBounds 25 true)) (frm2 bitsCD T l) w := by
  obtain ⟨o, ho, hd, hg, hop⟩ := bitsCO25
  obtain ⟨oj, hj, hdj, -, -⟩ := bitsCO20
  have hw := wanted2_go (T := T) (l := l) hg hj hdj (show slotOf bitsCD 104 = some 20 from rfl) (by rw [h.tl]; decide) (h.rw.gotK 20 (dep_of (a := 20) (by kernel_rfl) h.dep) rfl)
  exact h.same (v := numV (a)) ho hd rfl hw rfl (ex_load_n hop ((h.old (s := 4) rfl (by decide)).trans c.t4) (h.cell c.ca0) (h.cell c.ca1))

set_option maxRecDepth 100000 in
set_option maxHeartbeats 1000000 in
theorem bitsC_s26 {gA gB a b : Nat} {k j : Int} {WB w : World} {T l : List Value} {L : Array Bool} (Q : Exit → Act → World → Prop) (c : bitsCC gA gB a b k j WB T) (h : VT Tryd.prog bitsCO.1 40 156 bitsCD WB (bitsCK gA gB a b k j) T L l w 26) : wpOp Tryd.prog bitsCO.1 Q 26 (SJ (vaR WB (bitsCK gA gB a b k j)) 40 bitsCD T (L.setIfInBounds 26 true)) (frm2 bitsCD T l) w := by
  obtain ⟨o, ho, hd, hg, hop⟩ := bitsCO26
  obtain ⟨oj, hj, hdj, -, -⟩ := bitsCO20
  have hw := wanted2_go (T := T) (l := l) hg hj hdj (show slotOf bitsCD 104 = some 20 from rfl) (by rw [h.tl]; decide) (h.rw.gotK 20 (dep_of (a := 20) (by kernel_rfl) h.dep) rfl)
  exact h.same (v := .int .i64 j) ho hd rfl hw rfl (ex_move hop ((h.old (s := 3) rfl (by decide)).trans c.t3))

set_option maxRecDepth 100000 in
set_option maxHeartbeats 1000000 in
theorem bitsC_s27 {gA gB a b : Nat} {k j : Int} {WB w : World} {T l : List Value} {L : Array Bool} (Q : Exit → Act → World → Prop) (c : bitsCC gA gB a b k j WB T) (h : VT Tryd.prog bitsCO.1 40 156 bitsCD WB (bitsCK gA gB a b k j) T L l w 27) : wpOp Tryd.prog bitsCO.1 Q 27 (SJ (vaR WB (bitsCK gA gB a b k j)) 40 bitsCD T (L.setIfInBounds 27 true)) (frm2 bitsCD T l) w := by
  obtain ⟨o, ho, hd, hg, hop⟩ := bitsCO27
  obtain ⟨oj, hj, hdj, -, -⟩ := bitsCO20
  have hw := wanted2_go (T := T) (l := l) hg hj hdj (show slotOf bitsCD 104 = some 20 from rfl) (by rw [h.tl]; decide) (h.rw.gotK 20 (dep_of (a := 20) (by kernel_rfl) h.dep) rfl)
  exact h.same (v := .int .i64 k) ho hd rfl hw rfl (ex_move hop ((h.old (s := 2) rfl (by decide)).trans c.t2))

set_option maxRecDepth 100000 in
set_option maxHeartbeats 1000000 in
theorem bitsC_s28 {gA gB a b : Nat} {k j : Int} {WB w : World} {T l : List Value} {L : Array Bool} (Q : Exit → Act → World → Prop) (c : bitsCC gA gB a b k j WB T) (h : VT Tryd.prog bitsCO.1 40 156 bitsCD WB (bitsCK gA gB a b k j) T L l w 28) : wpOp Tryd.prog bitsCO.1 Q 28 (SJ (vaR WB (bitsCK gA gB a b k j)) 40 bitsCD T (L.setIfInBounds 28 true)) (frm2 bitsCD T l) w := by
  obtain ⟨o, ho, hd, hg, hop⟩ := bitsCO28
  obtain ⟨oj, hj, hdj, -, -⟩ := bitsCO20
  have hw := wanted2_go (T := T) (l := l) hg hj hdj (show slotOf bitsCD 104 = some 20 from rfl) (by rw [h.tl]; decide) (h.rw.gotK 20 (dep_of (a := 20) (by kernel_rfl) h.dep) rfl)
  have x109 := ((h.new (s := 109) (j := 25) rfl (by decide)).trans (h.rw.gotK 25 (dep_of (a := 25) (by kernel_rfl) h.dep) rfl))
  have x110 := ((h.new (s := 110) (j := 26) rfl (by decide)).trans (h.rw.gotK 26 (dep_of (a := 26) (by kernel_rfl) h.dep) rfl))
  have x111 := ((h.new (s := 111) (j := 27) rfl (by decide)).trans (h.rw.gotK 27 (dep_of (a := 27) (by kernel_rfl) h.dep) rfl))
  exact h.call (v := numV (a * 2 ^ sh j % (B * B) % 2 ^ sh k)) ho hd rfl hw rfl (ex_call hop rfl rfl (args := #[numV (a), .int .i64 j, .int .i64 k]) (all := #[numV (a), .int .i64 j, .int .i64 k]) (by simp only [List.map_toArray, List.map_cons, List.map_nil]; rw [x109, x110, x111]) (by simp) (fun av W => by kernel_rfl)) (refShl_any a j k c.la w)

set_option maxRecDepth 100000 in
set_option maxHeartbeats 1000000 in
theorem bitsC_s29 {gA gB a b : Nat} {k j : Int} {WB w : World} {T l : List Value} {L : Array Bool} (Q : Exit → Act → World → Prop) (c : bitsCC gA gB a b k j WB T) (h : VT Tryd.prog bitsCO.1 40 156 bitsCD WB (bitsCK gA gB a b k j) T L l w 29) : wpOp Tryd.prog bitsCO.1 Q 29 (SJ (vaR WB (bitsCK gA gB a b k j)) 40 bitsCD T (L.setIfInBounds 29 true)) (frm2 bitsCD T l) w := by
  obtain ⟨o, ho, hd, hg, hop⟩ := bitsCO29
  obtain ⟨oj, hj, hdj, -, -⟩ := bitsCO20
  have hw := wanted2_go (T := T) (l := l) hg hj hdj (show slotOf bitsCD 104 = some 20 from rfl) (by rw [h.tl]; decide) (h.rw.gotK 20 (dep_of (a := 20) (by kernel_rfl) h.dep) rfl)
  exact h.same (v := .bool false) ho hd rfl hw rfl (ex_neqN hop ((h.new (s := 108) (j := 24) rfl (by decide)).trans (h.rw.gotK 24 (dep_of (a := 24) (by kernel_rfl) h.dep) rfl)) ((h.new (s := 112) (j := 28) rfl (by decide)).trans (h.rw.gotK 28 (dep_of (a := 28) (by kernel_rfl) h.dep) rfl)) (rfl))

set_option maxRecDepth 100000 in
set_option maxHeartbeats 1000000 in
theorem bitsC_s30 {gA gB a b : Nat} {k j : Int} {WB w : World} {T l : List Value} {L : Array Bool} (Q : Exit → Act → World → Prop) (c : bitsCC gA gB a b k j WB T) (h : VT Tryd.prog bitsCO.1 40 156 bitsCD WB (bitsCK gA gB a b k j) T L l w 30) : wpOp Tryd.prog bitsCO.1 Q 30 (SJ (vaR WB (bitsCK gA gB a b k j)) 40 bitsCD T (L.setIfInBounds 30 true)) (frm2 bitsCD T l) w := by
  obtain ⟨o, ho, hd, hg, hop⟩ := bitsCO30
  have hw := wanted_un (ops := bitsCO.1) (t := (frm2 bitsCD T l).tmps) hg
  exact h.same (v := .bool false) ho hd rfl hw rfl (ex_pick hop ((h.new (s := 104) (j := 20) rfl (by decide)).trans (h.rw.gotK 20 (dep_of (a := 20) (by kernel_rfl) h.dep) rfl)) ((h.new (s := 113) (j := 29) rfl (by decide)).trans (h.rw.gotK 29 (dep_of (a := 29) (by kernel_rfl) h.dep) rfl)))

set_option maxRecDepth 100000 in
set_option maxHeartbeats 1000000 in
theorem bitsC_s31 {gA gB a b : Nat} {k j : Int} {WB w : World} {T l : List Value} {L : Array Bool} (Q : Exit → Act → World → Prop) (c : bitsCC gA gB a b k j WB T) (h : VT Tryd.prog bitsCO.1 40 156 bitsCD WB (bitsCK gA gB a b k j) T L l w 31) : wpOp Tryd.prog bitsCO.1 Q 31 (SJ (vaR WB (bitsCK gA gB a b k j)) 40 bitsCD T (L.setIfInBounds 31 true)) (frm2 bitsCD T l) w := by
  obtain ⟨o, ho, hd, hg, hop⟩ := bitsCO31
  have hw := wanted_un (ops := bitsCO.1) (t := (frm2 bitsCD T l).tmps) hg
  exact h.same (v := .bool false) ho hd rfl hw rfl (ex_move hop ((h.new (s := 114) (j := 30) rfl (by decide)).trans (h.rw.gotK 30 (dep_of (a := 30) (by kernel_rfl) h.dep) rfl)))

set_option maxRecDepth 100000 in
set_option maxHeartbeats 1000000 in
theorem bitsC_s32 {gA gB a b : Nat} {k j : Int} {WB w : World} {T l : List Value} {L : Array Bool} (Q : Exit → Act → World → Prop) (c : bitsCC gA gB a b k j WB T) (h : VT Tryd.prog bitsCO.1 40 156 bitsCD WB (bitsCK gA gB a b k j) T L l w 32) : wpOp Tryd.prog bitsCO.1 Q 32 (SJ (vaR WB (bitsCK gA gB a b k j)) 40 bitsCD T (L.setIfInBounds 32 true)) (frm2 bitsCD T l) w := by
  obtain ⟨o, ho, hd, hg, hop⟩ := bitsCO32
  obtain ⟨oj, hj, hdj, -, -⟩ := bitsCO31
  have hw := wanted2_go (T := T) (l := l) hg hj hdj (show slotOf bitsCD 115 = some 31 from rfl) (by rw [h.tl]; decide) (h.rw.gotK 31 (dep_of (a := 31) (by kernel_rfl) h.dep) rfl)
  exact h.same (v := numV (a)) ho hd rfl hw rfl (ex_load_n hop ((h.old (s := 4) rfl (by decide)).trans c.t4) (h.cell c.ca0) (h.cell c.ca1))

set_option maxRecDepth 100000 in
set_option maxHeartbeats 1000000 in
theorem bitsC_s33 {gA gB a b : Nat} {k j : Int} {WB w : World} {T l : List Value} {L : Array Bool} (Q : Exit → Act → World → Prop) (c : bitsCC gA gB a b k j WB T) (h : VT Tryd.prog bitsCO.1 40 156 bitsCD WB (bitsCK gA gB a b k j) T L l w 33) : wpOp Tryd.prog bitsCO.1 Q 33 (SJ (vaR WB (bitsCK gA gB a b k j)) 40 bitsCD T (L.setIfInBounds 33 true)) (frm2 bitsCD T l) w := by
  obtain ⟨o, ho, hd, hg, hop⟩ := bitsCO33
  obtain ⟨oj, hj, hdj, -, -⟩ := bitsCO31
  have hw := wanted2_go (T := T) (l := l) hg hj hdj (show slotOf bitsCD 115 = some 31 from rfl) (by rw [h.tl]; decide) (h.rw.gotK 31 (dep_of (a := 31) (by kernel_rfl) h.dep) rfl)
  exact h.same (v := .int .i64 j) ho hd rfl hw rfl (ex_move hop ((h.old (s := 3) rfl (by decide)).trans c.t3))

set_option maxRecDepth 100000 in
set_option maxHeartbeats 1000000 in
theorem bitsC_s34 {gA gB a b : Nat} {k j : Int} {WB w : World} {T l : List Value} {L : Array Bool} (Q : Exit → Act → World → Prop) (c : bitsCC gA gB a b k j WB T) (h : VT Tryd.prog bitsCO.1 40 156 bitsCD WB (bitsCK gA gB a b k j) T L l w 34) : wpOp Tryd.prog bitsCO.1 Q 34 (SJ (vaR WB (bitsCK gA gB a b k j)) 40 bitsCD T (L.setIfInBounds 34 true)) (frm2 bitsCD T l) w := by
  obtain ⟨o, ho, hd, hg, hop⟩ := bitsCO34
  obtain ⟨oj, hj, hdj, -, -⟩ := bitsCO31
  have hw := wanted2_go (T := T) (l := l) hg hj hdj (show slotOf bitsCD 115 = some 31 from rfl) (by rw [h.tl]; decide) (h.rw.gotK 31 (dep_of (a := 31) (by kernel_rfl) h.dep) rfl)
  have x116 := ((h.new (s := 116) (j := 32) rfl (by decide)).trans (h.rw.gotK 32 (dep_of (a := 32) (by kernel_rfl) h.dep) rfl))
  have x117 := ((h.new (s := 117) (j := 33) rfl (by decide)).trans (h.rw.gotK 33 (dep_of (a := 33) (by kernel_rfl) h.dep) rfl))
  exact h.call (v := numV (a / 2 ^ sh j)) ho hd rfl hw rfl (ex_call hop rfl rfl (args := #[numV (a), .int .i64 j]) (all := #[numV (a), .int .i64 j]) (by simp only [List.map_toArray, List.map_cons, List.map_nil]; rw [x116, x117]) (by simp) (fun av W => by kernel_rfl)) (numShr_any a j w c.la)

set_option maxRecDepth 100000 in
set_option maxHeartbeats 1000000 in
theorem bitsC_s35 {gA gB a b : Nat} {k j : Int} {WB w : World} {T l : List Value} {L : Array Bool} (Q : Exit → Act → World → Prop) (c : bitsCC gA gB a b k j WB T) (h : VT Tryd.prog bitsCO.1 40 156 bitsCD WB (bitsCK gA gB a b k j) T L l w 35) : wpOp Tryd.prog bitsCO.1 Q 35 (SJ (vaR WB (bitsCK gA gB a b k j)) 40 bitsCD T (L.setIfInBounds 35 true)) (frm2 bitsCD T l) w := by
  obtain ⟨o, ho, hd, hg, hop⟩ := bitsCO35
  obtain ⟨oj, hj, hdj, -, -⟩ := bitsCO31
  have hw := wanted2_go (T := T) (l := l) hg hj hdj (show slotOf bitsCD 115 = some 31 from rfl) (by rw [h.tl]; decide) (h.rw.gotK 31 (dep_of (a := 31) (by kernel_rfl) h.dep) rfl)
  exact h.same (v := numV (a)) ho hd rfl hw rfl (ex_load_n hop ((h.old (s := 4) rfl (by decide)).trans c.t4) (h.cell c.ca0) (h.cell c.ca1))

set_option maxRecDepth 100000 in
set_option maxHeartbeats 1000000 in
theorem bitsC_s36 {gA gB a b : Nat} {k j : Int} {WB w : World} {T l : List Value} {L : Array Bool} (Q : Exit → Act → World → Prop) (c : bitsCC gA gB a b k j WB T) (h : VT Tryd.prog bitsCO.1 40 156 bitsCD WB (bitsCK gA gB a b k j) T L l w 36) : wpOp Tryd.prog bitsCO.1 Q 36 (SJ (vaR WB (bitsCK gA gB a b k j)) 40 bitsCD T (L.setIfInBounds 36 true)) (frm2 bitsCD T l) w := by
  obtain ⟨o, ho, hd, hg, hop⟩ := bitsCO36
  obtain ⟨oj, hj, hdj, -, -⟩ := bitsCO31
  have hw := wanted2_go (T := T) (l := l) hg hj hdj (show slotOf bitsCD 115 = some 31 from rfl) (by rw [h.tl]; decide) (h.rw.gotK 31 (dep_of (a := 31) (by kernel_rfl) h.dep) rfl)
  exact h.same (v := .int .i64 j) ho hd rfl hw rfl (ex_move hop ((h.old (s := 3) rfl (by decide)).trans c.t3))

set_option maxRecDepth 100000 in
set_option maxHeartbeats 1000000 in
theorem bitsC_s37 {gA gB a b : Nat} {k j : Int} {WB w : World} {T l : List Value} {L : Array Bool} (Q : Exit → Act → World → Prop) (c : bitsCC gA gB a b k j WB T) (h : VT Tryd.prog bitsCO.1 40 156 bitsCD WB (bitsCK gA gB a b k j) T L l w 37) : wpOp Tryd.prog bitsCO.1 Q 37 (SJ (vaR WB (bitsCK gA gB a b k j)) 40 bitsCD T (L.setIfInBounds 37 true)) (frm2 bitsCD T l) w := by
  obtain ⟨o, ho, hd, hg, hop⟩ := bitsCO37
  obtain ⟨oj, hj, hdj, -, -⟩ := bitsCO31
  have hw := wanted2_go (T := T) (l := l) hg hj hdj (show slotOf bitsCD 115 = some 31 from rfl) (by rw [h.tl]; decide) (h.rw.gotK 31 (dep_of (a := 31) (by kernel_rfl) h.dep) rfl)
  have x119 := ((h.new (s := 119) (j := 35) rfl (by decide)).trans (h.rw.gotK 35 (dep_of (a := 35) (by kernel_rfl) h.dep) rfl))
  have x120 := ((h.new (s := 120) (j := 36) rfl (by decide)).trans (h.rw.gotK 36 (dep_of (a := 36) (by kernel_rfl) h.dep) rfl))
  exact h.call (v := numV (a / 2 ^ sh j)) ho hd rfl hw rfl (ex_call hop rfl rfl (args := #[numV (a), .int .i64 j]) (all := #[numV (a), .int .i64 j]) (by simp only [List.map_toArray, List.map_cons, List.map_nil]; rw [x119, x120]) (by simp) (fun av W => by kernel_rfl)) (refShr_any a j c.la w)

set_option maxRecDepth 100000 in
set_option maxHeartbeats 1000000 in
theorem bitsC_s38 {gA gB a b : Nat} {k j : Int} {WB w : World} {T l : List Value} {L : Array Bool} (Q : Exit → Act → World → Prop) (c : bitsCC gA gB a b k j WB T) (h : VT Tryd.prog bitsCO.1 40 156 bitsCD WB (bitsCK gA gB a b k j) T L l w 38) : wpOp Tryd.prog bitsCO.1 Q 38 (SJ (vaR WB (bitsCK gA gB a b k j)) 40 bitsCD T (L.setIfInBounds 38 true)) (frm2 bitsCD T l) w := by
  obtain ⟨o, ho, hd, hg, hop⟩ := bitsCO38
  obtain ⟨oj, hj, hdj, -, -⟩ := bitsCO31
  have hw := wanted2_go (T := T) (l := l) hg hj hdj (show slotOf bitsCD 115 = some 31 from rfl) (by rw [h.tl]; decide) (h.rw.gotK 31 (dep_of (a := 31) (by kernel_rfl) h.dep) rfl)
  exact h.same (v := .bool false) ho hd rfl hw rfl (ex_neqN hop ((h.new (s := 118) (j := 34) rfl (by decide)).trans (h.rw.gotK 34 (dep_of (a := 34) (by kernel_rfl) h.dep) rfl)) ((h.new (s := 121) (j := 37) rfl (by decide)).trans (h.rw.gotK 37 (dep_of (a := 37) (by kernel_rfl) h.dep) rfl)) (rfl))

set_option maxRecDepth 100000 in
set_option maxHeartbeats 1000000 in
theorem bitsC_s39 {gA gB a b : Nat} {k j : Int} {WB w : World} {T l : List Value} {L : Array Bool} (Q : Exit → Act → World → Prop) (c : bitsCC gA gB a b k j WB T) (h : VT Tryd.prog bitsCO.1 40 156 bitsCD WB (bitsCK gA gB a b k j) T L l w 39) : wpOp Tryd.prog bitsCO.1 Q 39 (SJ (vaR WB (bitsCK gA gB a b k j)) 40 bitsCD T (L.setIfInBounds 39 true)) (frm2 bitsCD T l) w := by
  obtain ⟨o, ho, hd, hg, hop⟩ := bitsCO39
  have hw := wanted_un (ops := bitsCO.1) (t := (frm2 bitsCD T l).tmps) hg
  exact h.same (v := .bool false) ho hd rfl hw rfl (ex_pick hop ((h.new (s := 115) (j := 31) rfl (by decide)).trans (h.rw.gotK 31 (dep_of (a := 31) (by kernel_rfl) h.dep) rfl)) ((h.new (s := 122) (j := 38) rfl (by decide)).trans (h.rw.gotK 38 (dep_of (a := 38) (by kernel_rfl) h.dep) rfl)))

set_option maxRecDepth 100000 in
set_option maxHeartbeats 4000000 in
theorem bitsC (gA gB a b : Nat) (k j : Int) (WB : World)
    (ca0 : Hid (WB.cell? ⟨gA, 0, none⟩ = some (.int .u64 ((a / B : Nat) : Int))))
    (ca1 : Hid (WB.cell? ⟨gA, 1, none⟩ = some (.int .u64 ((a % B : Nat) : Int))))
    (cb0 : Hid (WB.cell? ⟨gB, 0, none⟩ = some (.int .u64 ((b / B : Nat) : Int))))
    (cb1 : Hid (WB.cell? ⟨gB, 1, none⟩ = some (.int .u64 ((b % B : Nat) : Int))))
    (la : Hid (a < B * B))
    (lb : Hid (b < B * B))
    (lj : Hid (j ≤ 9223372036854775807))
    (s0 s1 s6 s7 s8 s9 s10 s11 s12 s13 s14 s15 s16 s17 s18 s19 s20 s21 s22 s23 s24 s25 s26 s27 s28 s29 s30 s31 s32 s33 s34 s35 s36 s37 s38 s39 s40 s41 s42 s43 s44 s45 s46 s47 s48 s49 s50 s51 s52 s53 s54 s55 s56 s57 s58 s59 s60 s61 s62 s63 s64 s65 s66 s67 s68 s69 s70 s71 s72 s73 s74 s75 s76 s77 s78 s79 s80 s81 s82 s83 s84 s85 s86 s87 s88 s89 s90 s91 s92 s93 s94 s95 s96 s97 s98 s99 s100 s101 s102 s103 s104 s105 s106 s107 s108 s109 s110 s111 s112 s113 s114 s115 s116 s117 s118 s119 s120 s121 s122 s123 s124 s125 s126 s127 s128 s129 s130 s131 s132 s133 s134 s135 s136 s137 s138 s139 s140 s141 s142 s143 s144 s145 s146 s147 s148 s149 s150 s151 s152 s153 s154 s155 : Value) (Q : Exit → Act → World → Prop)
    (hexit : ∀ (w' : World), Below WB.heap.size WB w' → Q .normal ⟨#[s0, s1, .int .i64 k, .int .i64 j, .pointer (some ⟨gA, 0, none⟩), .pointer (some ⟨gB, 0, none⟩), s6, s7, s8, s9, s10, s11, s12, s13, s14, s15, s16, s17, s18, s19, s20, s21, s22, s23, s24, s25, s26, s27, s28, s29, s30, s31, s32, s33, s34, s35, s36, s37, s38, s39, s40, s41, s42, s43, s44, s45, s46, s47, s48, s49, s50, s51, s52, s53, s54, s55, s56, s57, s58, s59, s60, s61, s62, s63, s64, s65, s66, s67, s68, s69, s70, s71, s72, s73, s74, s75, s76, s77, s78, s79, s80, s81, s82, s83, numV (a), numV (b), .int .i64 k, numV ((a + b) % (B * B) % 2 ^ sh k), numV (a), numV (b), .int .i64 k, numV ((a + b) % 2 ^ 128 % 2 ^ sh k), .bool false, .bool false, numV (a), numV (b), .int .i64 k, numV ((a + (B * B - b)) % (B * B) % 2 ^ sh k), numV (a), numV (b), .int .i64 k, numV (subN a b k), .bool false, .bool false, .bool false, numV (a), .int .i64 j, .int .i64 k, numV (a * 2 ^ sh j % (B * B) % 2 ^ sh k), numV (a), .int .i64 j, .int .i64 k, numV (a * 2 ^ sh j % (B * B) % 2 ^ sh k), .bool false, .bool false, .bool false, numV (a), .int .i64 j, numV (a / 2 ^ sh j), numV (a), .int .i64 j, numV (a / 2 ^ sh j), .bool false, .bool false, s124, s125, s126, s127, s128, s129, s130, s131, s132, s133, s134, s135, s136, s137, s138, s139, s140, s141, s142, s143, s144, s145, s146, s147, s148, s149, s150, s151, s152, s153, s154, s155], []⟩ w') :
    Code.wp Tryd.prog ((Tryd.f5.body.bind (findRegion 5)).getD .skip) Q ⟨#[s0, s1, .int .i64 k, .int .i64 j, .pointer (some ⟨gA, 0, none⟩), .pointer (some ⟨gB, 0, none⟩), s6, s7, s8, s9, s10, s11, s12, s13, s14, s15, s16, s17, s18, s19, s20, s21, s22, s23, s24, s25, s26, s27, s28, s29, s30, s31, s32, s33, s34, s35, s36, s37, s38, s39, s40, s41, s42, s43, s44, s45, s46, s47, s48, s49, s50, s51, s52, s53, s54, s55, s56, s57, s58, s59, s60, s61, s62, s63, s64, s65, s66, s67, s68, s69, s70, s71, s72, s73, s74, s75, s76, s77, s78, s79, s80, s81, s82, s83, s84, s85, s86, s87, s88, s89, s90, s91, s92, s93, s94, s95, s96, s97, s98, s99, s100, s101, s102, s103, s104, s105, s106, s107, s108, s109, s110, s111, s112, s113, s114, s115, s116, s117, s118, s119, s120, s121, s122, s123, s124, s125, s126, s127, s128, s129, s130, s131, s132, s133, s134, s135, s136, s137, s138, s139, s140, s141, s142, s143, s144, s145, s146, s147, s148, s149, s150, s151, s152, s153, s154, s155], []⟩ WB := by
  have c : bitsCC gA gB a b k j WB [s0, s1, .int .i64 k, .int .i64 j, .pointer (some ⟨gA, 0, none⟩), .pointer (some ⟨gB, 0, none⟩), s6, s7, s8, s9, s10, s11, s12, s13, s14, s15, s16, s17, s18, s19, s20, s21, s22, s23, s24, s25, s26, s27, s28, s29, s30, s31, s32, s33, s34, s35, s36, s37, s38, s39, s40, s41, s42, s43, s44, s45, s46, s47, s48, s49, s50, s51, s52, s53, s54, s55, s56, s57, s58, s59, s60, s61, s62, s63, s64, s65, s66, s67, s68, s69, s70, s71, s72, s73, s74, s75, s76, s77, s78, s79, s80, s81, s82, s83, s84, s85, s86, s87, s88, s89, s90, s91, s92, s93, s94, s95, s96, s97, s98, s99, s100, s101, s102, s103, s104, s105, s106, s107, s108, s109, s110, s111, s112, s113, s114, s115, s116, s117, s118, s119, s120, s121, s122, s123, s124, s125, s126, s127, s128, s129, s130, s131, s132, s133, s134, s135, s136, s137, s138, s139, s140, s141, s142, s143, s144, s145, s146, s147, s148, s149, s150, s151, s152, s153, s154, s155] := { tl := rfl, t2 := rfl, t3 := rfl, t4 := rfl, t5 := rfl, ca0 := ca0.out, ca1 := ca1.out, cb0 := cb0.out, cb1 := cb1.out, la := la.out, lb := lb.out, lj := lj.out }
  have h0 : (⟨#[s0, s1, .int .i64 k, .int .i64 j, .pointer (some ⟨gA, 0, none⟩), .pointer (some ⟨gB, 0, none⟩), s6, s7, s8, s9, s10, s11, s12, s13, s14, s15, s16, s17, s18, s19, s20, s21, s22, s23, s24, s25, s26, s27, s28, s29, s30, s31, s32, s33, s34, s35, s36, s37, s38, s39, s40, s41, s42, s43, s44, s45, s46, s47, s48, s49, s50, s51, s52, s53, s54, s55, s56, s57, s58, s59, s60, s61, s62, s63, s64, s65, s66, s67, s68, s69, s70, s71, s72, s73, s74, s75, s76, s77, s78, s79, s80, s81, s82, s83, s84, s85, s86, s87, s88, s89, s90, s91, s92, s93, s94, s95, s96, s97, s98, s99, s100, s101, s102, s103, s104, s105, s106, s107, s108, s109, s110, s111, s112, s113, s114, s115, s116, s117, s118, s119, s120, s121, s122, s123, s124, s125, s126, s127, s128, s129, s130, s131, s132, s133, s134, s135, s136, s137, s138, s139, s140, s141, s142, s143, s144, s145, s146, s147, s148, s149, s150, s151, s152, s153, s154, s155], []⟩ : Act) = frm2 bitsCD [s0, s1, .int .i64 k, .int .i64 j, .pointer (some ⟨gA, 0, none⟩), .pointer (some ⟨gB, 0, none⟩), s6, s7, s8, s9, s10, s11, s12, s13, s14, s15, s16, s17, s18, s19, s20, s21, s22, s23, s24, s25, s26, s27, s28, s29, s30, s31, s32, s33, s34, s35, s36, s37, s38, s39, s40, s41, s42, s43, s44, s45, s46, s47, s48, s49, s50, s51, s52, s53, s54, s55, s56, s57, s58, s59, s60, s61, s62, s63, s64, s65, s66, s67, s68, s69, s70, s71, s72, s73, s74, s75, s76, s77, s78, s79, s80, s81, s82, s83, s84, s85, s86, s87, s88, s89, s90, s91, s92, s93, s94, s95, s96, s97, s98, s99, s100, s101, s102, s103, s104, s105, s106, s107, s108, s109, s110, s111, s112, s113, s114, s115, s116, s117, s118, s119, s120, s121, s122, s123, s124, s125, s126, s127, s128, s129, s130, s131, s132, s133, s134, s135, s136, s137, s138, s139, s140, s141, s142, s143, s144, s145, s146, s147, s148, s149, s150, s151, s152, s153, s154, s155] [s84, s85, s86, s87, s88, s89, s90, s91, s92, s93, s94, s95, s96, s97, s98, s99, s100, s101, s102, s103, s104, s105, s106, s107, s108, s109, s110, s111, s112, s113, s114, s115, s116, s117, s118, s119, s120, s121, s122, s123] := rfl
  have hend : ∀ f : Nat → Value, frm2 bitsCD [s0, s1, .int .i64 k, .int .i64 j, .pointer (some ⟨gA, 0, none⟩), .pointer (some ⟨gB, 0, none⟩), s6, s7, s8, s9, s10, s11, s12, s13, s14, s15, s16, s17, s18, s19, s20, s21, s22, s23, s24, s25, s26, s27, s28, s29, s30, s31, s32, s33, s34, s35, s36, s37, s38, s39, s40, s41, s42, s43, s44, s45, s46, s47, s48, s49, s50, s51, s52, s53, s54, s55, s56, s57, s58, s59, s60, s61, s62, s63, s64, s65, s66, s67, s68, s69, s70, s71, s72, s73, s74, s75, s76, s77, s78, s79, s80, s81, s82, s83, s84, s85, s86, s87, s88, s89, s90, s91, s92, s93, s94, s95, s96, s97, s98, s99, s100, s101, s102, s103, s104, s105, s106, s107, s108, s109, s110, s111, s112, s113, s114, s115, s116, s117, s118, s119, s120, s121, s122, s123, s124, s125, s126, s127, s128, s129, s130, s131, s132, s133, s134, s135, s136, s137, s138, s139, s140, s141, s142, s143, s144, s145, s146, s147, s148, s149, s150, s151, s152, s153, s154, s155] ((List.range 40).map f) = ⟨#[s0, s1, .int .i64 k, .int .i64 j, .pointer (some ⟨gA, 0, none⟩), .pointer (some ⟨gB, 0, none⟩), s6, s7, s8, s9, s10, s11, s12, s13, s14, s15, s16, s17, s18, s19, s20, s21, s22, s23, s24, s25, s26, s27, s28, s29, s30, s31, s32, s33, s34, s35, s36, s37, s38, s39, s40, s41, s42, s43, s44, s45, s46, s47, s48, s49, s50, s51, s52, s53, s54, s55, s56, s57, s58, s59, s60, s61, s62, s63, s64, s65, s66, s67, s68, s69, s70, s71, s72, s73, s74, s75, s76, s77, s78, s79, s80, s81, s82, s83, f 0, f 1, f 2, f 3, f 4, f 5, f 6, f 7, f 8, f 9, f 10, f 11, f 12, f 13, f 14, f 15, f 16, f 17, f 18, f 19, f 20, f 21, f 22, f 23, f 24, f 25, f 26, f 27, f 28, f 29, f 30, f 31, f 32, f 33, f 34, f 35, f 36, f 37, f 38, f 39, s124, s125, s126, s127, s128, s129, s130, s131, s132, s133, s134, s135, s136, s137, s138, s139, s140, s141, s142, s143, s144, s145, s146, s147, s148, s149, s150, s151, s152, s153, s154, s155], []⟩ := fun f => rfl
  rw [h0]
  clear h0
  have hex : ∀ (f : Nat → Value) (w' : World), f 0 = numV (a) → f 1 = numV (b) → f 2 = .int .i64 k → f 3 = numV ((a + b) % (B * B) % 2 ^ sh k) → f 4 = numV (a) → f 5 = numV (b) → f 6 = .int .i64 k → f 7 = numV ((a + b) % 2 ^ 128 % 2 ^ sh k) → f 8 = .bool false → f 9 = .bool false → f 10 = numV (a) → f 11 = numV (b) → f 12 = .int .i64 k → f 13 = numV ((a + (B * B - b)) % (B * B) % 2 ^ sh k) → f 14 = numV (a) → f 15 = numV (b) → f 16 = .int .i64 k → f 17 = numV (subN a b k) → f 18 = .bool false → f 19 = .bool false → f 20 = .bool false → f 21 = numV (a) → f 22 = .int .i64 j → f 23 = .int .i64 k → f 24 = numV (a * 2 ^ sh j % (B * B) % 2 ^ sh k) → f 25 = numV (a) → f 26 = .int .i64 j → f 27 = .int .i64 k → f 28 = numV (a * 2 ^ sh j % (B * B) % 2 ^ sh k) → f 29 = .bool false → f 30 = .bool false → f 31 = .bool false → f 32 = numV (a) → f 33 = .int .i64 j → f 34 = numV (a / 2 ^ sh j) → f 35 = numV (a) → f 36 = .int .i64 j → f 37 = numV (a / 2 ^ sh j) → f 38 = .bool false → f 39 = .bool false → Below WB.heap.size WB w' → Q .normal ⟨#[s0, s1, .int .i64 k, .int .i64 j, .pointer (some ⟨gA, 0, none⟩), .pointer (some ⟨gB, 0, none⟩), s6, s7, s8, s9, s10, s11, s12, s13, s14, s15, s16, s17, s18, s19, s20, s21, s22, s23, s24, s25, s26, s27, s28, s29, s30, s31, s32, s33, s34, s35, s36, s37, s38, s39, s40, s41, s42, s43, s44, s45, s46, s47, s48, s49, s50, s51, s52, s53, s54, s55, s56, s57, s58, s59, s60, s61, s62, s63, s64, s65, s66, s67, s68, s69, s70, s71, s72, s73, s74, s75, s76, s77, s78, s79, s80, s81, s82, s83, f 0, f 1, f 2, f 3, f 4, f 5, f 6, f 7, f 8, f 9, f 10, f 11, f 12, f 13, f 14, f 15, f 16, f 17, f 18, f 19, f 20, f 21, f 22, f 23, f 24, f 25, f 26, f 27, f 28, f 29, f 30, f 31, f 32, f 33, f 34, f 35, f 36, f 37, f 38, f 39, s124, s125, s126, s127, s128, s129, s130, s131, s132, s133, s134, s135, s136, s137, s138, s139, s140, s141, s142, s143, s144, s145, s146, s147, s148, s149, s150, s151, s152, s153, s154, s155], []⟩ w' := by
    intro f w' e0 e1 e2 e3 e4 e5 e6 e7 e8 e9 e10 e11 e12 e13 e14 e15 e16 e17 e18 e19 e20 e21 e22 e23 e24 e25 e26 e27 e28 e29 e30 e31 e32 e33 e34 e35 e36 e37 e38 e39 a
    rw [e0, e1, e2, e3, e4, e5, e6, e7, e8, e9, e10, e11, e12, e13, e14, e15, e16, e17, e18, e19, e20, e21, e22, e23, e24, e25, e26, e27, e28, e29, e30, e31, e32, e33, e34, e35, e36, e37, e38, e39]
    exact hexit w' a
  clear hexit
  generalize [s0, s1, .int .i64 k, .int .i64 j, .pointer (some ⟨gA, 0, none⟩), .pointer (some ⟨gB, 0, none⟩), s6, s7, s8, s9, s10, s11, s12, s13, s14, s15, s16, s17, s18, s19, s20, s21, s22, s23, s24, s25, s26, s27, s28, s29, s30, s31, s32, s33, s34, s35, s36, s37, s38, s39, s40, s41, s42, s43, s44, s45, s46, s47, s48, s49, s50, s51, s52, s53, s54, s55, s56, s57, s58, s59, s60, s61, s62, s63, s64, s65, s66, s67, s68, s69, s70, s71, s72, s73, s74, s75, s76, s77, s78, s79, s80, s81, s82, s83, s84, s85, s86, s87, s88, s89, s90, s91, s92, s93, s94, s95, s96, s97, s98, s99, s100, s101, s102, s103, s104, s105, s106, s107, s108, s109, s110, s111, s112, s113, s114, s115, s116, s117, s118, s119, s120, s121, s122, s123, s124, s125, s126, s127, s128, s129, s130, s131, s132, s133, s134, s135, s136, s137, s138, s139, s140, s141, s142, s143, s144, s145, s146, s147, s148, s149, s150, s151, s152, s153, s154, s155] = T at *
  rw [bitsCO.2]
  show Code.wp Tryd.prog (.region 5 bitsCO.1 true) Q _ WB
  refine wp_region_inv2 (by kernel_rfl) (SJ (vaR WB (bitsCK gA gB a b k j)) 40 bitsCD T) ?_ ?_ ?_ ?_
  · exact ⟨_, rfl, by rw [bitsCO_size]; simp, rfl, RW.init (fun i => did_none _ _) (Nat.le_refl _) (below_drewN (Below.refl _ _) 1)⟩
  · rintro L a w i hL hi hnd hdep ⟨l, hl, hLn, rfl, hI⟩
    have ht : VT Tryd.prog bitsCO.1 40 156 bitsCD WB (bitsCK gA gB a b k j) T L l w i := ⟨c.tl, bitsCK_free, hl, hLn, hi, hnd, hI, hdep⟩
    match i, hi with
    | 0, _ => exact bitsC_s0 Q c ht
    | 1, _ => exact bitsC_s1 Q c ht
    | 2, _ => exact bitsC_s2 Q c ht
    | 3, _ => exact bitsC_s3 Q c ht
    | 4, _ => exact bitsC_s4 Q c ht
    | 5, _ => exact bitsC_s5 Q c ht
    | 6, _ => exact bitsC_s6 Q c ht
    | 7, _ => exact bitsC_s7 Q c ht
    | 8, _ => exact bitsC_s8 Q c ht
    | 9, _ => exact bitsC_s9 Q c ht
    | 10, _ => exact bitsC_s10 Q c ht
    | 11, _ => exact bitsC_s11 Q c ht
    | 12, _ => exact bitsC_s12 Q c ht
    | 13, _ => exact bitsC_s13 Q c ht
    | 14, _ => exact bitsC_s14 Q c ht
    | 15, _ => exact bitsC_s15 Q c ht
    | 16, _ => exact bitsC_s16 Q c ht
    | 17, _ => exact bitsC_s17 Q c ht
    | 18, _ => exact bitsC_s18 Q c ht
    | 19, _ => exact bitsC_s19 Q c ht
    | 20, _ => exact bitsC_s20 Q c ht
    | 21, _ => exact bitsC_s21 Q c ht
    | 22, _ => exact bitsC_s22 Q c ht
    | 23, _ => exact bitsC_s23 Q c ht
    | 24, _ => exact bitsC_s24 Q c ht
    | 25, _ => exact bitsC_s25 Q c ht
    | 26, _ => exact bitsC_s26 Q c ht
    | 27, _ => exact bitsC_s27 Q c ht
    | 28, _ => exact bitsC_s28 Q c ht
    | 29, _ => exact bitsC_s29 Q c ht
    | 30, _ => exact bitsC_s30 Q c ht
    | 31, _ => exact bitsC_s31 Q c ht
    | 32, _ => exact bitsC_s32 Q c ht
    | 33, _ => exact bitsC_s33 Q c ht
    | 34, _ => exact bitsC_s34 Q c ht
    | 35, _ => exact bitsC_s35 Q c ht
    | 36, _ => exact bitsC_s36 Q c ht
    | 37, _ => exact bitsC_s37 Q c ht
    | 38, _ => exact bitsC_s38 Q c ht
    | 39, _ => exact bitsC_s39 Q c ht
    | i + 40, hi => exact absurd hi (by rw [bitsCO_size]; omega)
  · exact bitsCO_back
  · rintro L a w hall ⟨l, hl, hLn, rfl, hI⟩
    have h1 := hend (nth l)
    rw [list_nth hl] at h1
    rw [h1]
    exact hex (nth l) w (hI.gotK 0 (hall 0 (by rw [bitsCO_size]; decide)) rfl) (hI.gotK 1 (hall 1 (by rw [bitsCO_size]; decide)) rfl) (hI.gotK 2 (hall 2 (by rw [bitsCO_size]; decide)) rfl) (hI.gotK 3 (hall 3 (by rw [bitsCO_size]; decide)) rfl) (hI.gotK 4 (hall 4 (by rw [bitsCO_size]; decide)) rfl) (hI.gotK 5 (hall 5 (by rw [bitsCO_size]; decide)) rfl) (hI.gotK 6 (hall 6 (by rw [bitsCO_size]; decide)) rfl) (hI.gotK 7 (hall 7 (by rw [bitsCO_size]; decide)) rfl) (hI.gotK 8 (hall 8 (by rw [bitsCO_size]; decide)) rfl) (hI.gotK 9 (hall 9 (by rw [bitsCO_size]; decide)) rfl) (hI.gotK 10 (hall 10 (by rw [bitsCO_size]; decide)) rfl) (hI.gotK 11 (hall 11 (by rw [bitsCO_size]; decide)) rfl) (hI.gotK 12 (hall 12 (by rw [bitsCO_size]; decide)) rfl) (hI.gotK 13 (hall 13 (by rw [bitsCO_size]; decide)) rfl) (hI.gotK 14 (hall 14 (by rw [bitsCO_size]; decide)) rfl) (hI.gotK 15 (hall 15 (by rw [bitsCO_size]; decide)) rfl) (hI.gotK 16 (hall 16 (by rw [bitsCO_size]; decide)) rfl) (hI.gotK 17 (hall 17 (by rw [bitsCO_size]; decide)) rfl) (hI.gotK 18 (hall 18 (by rw [bitsCO_size]; decide)) rfl) (hI.gotK 19 (hall 19 (by rw [bitsCO_size]; decide)) rfl) (hI.gotK 20 (hall 20 (by rw [bitsCO_size]; decide)) rfl) (hI.gotK 21 (hall 21 (by rw [bitsCO_size]; decide)) rfl) (hI.gotK 22 (hall 22 (by rw [bitsCO_size]; decide)) rfl) (hI.gotK 23 (hall 23 (by rw [bitsCO_size]; decide)) rfl) (hI.gotK 24 (hall 24 (by rw [bitsCO_size]; decide)) rfl) (hI.gotK 25 (hall 25 (by rw [bitsCO_size]; decide)) rfl) (hI.gotK 26 (hall 26 (by rw [bitsCO_size]; decide)) rfl) (hI.gotK 27 (hall 27 (by rw [bitsCO_size]; decide)) rfl) (hI.gotK 28 (hall 28 (by rw [bitsCO_size]; decide)) rfl) (hI.gotK 29 (hall 29 (by rw [bitsCO_size]; decide)) rfl) (hI.gotK 30 (hall 30 (by rw [bitsCO_size]; decide)) rfl) (hI.gotK 31 (hall 31 (by rw [bitsCO_size]; decide)) rfl) (hI.gotK 32 (hall 32 (by rw [bitsCO_size]; decide)) rfl) (hI.gotK 33 (hall 33 (by rw [bitsCO_size]; decide)) rfl) (hI.gotK 34 (hall 34 (by rw [bitsCO_size]; decide)) rfl) (hI.gotK 35 (hall 35 (by rw [bitsCO_size]; decide)) rfl) (hI.gotK 36 (hall 36 (by rw [bitsCO_size]; decide)) rfl) (hI.gotK 37 (hall 37 (by rw [bitsCO_size]; decide)) rfl) (hI.gotK 38 (hall 38 (by rw [bitsCO_size]; decide)) rfl) (hI.gotK 39 (hall 39 (by rw [bitsCO_size]; decide)) rfl) hI.glob

end Go.Proofs.YtfalhemeiengcaaDoor
