/-
  The drawn regions of the law NumBits.
-/
import Derived.Test.YtfalhemeiengcaaDoorBitsY
import Derived.Test.YtfalhemeiengcaaDoorKnown01
namespace Go.Proofs.YtfalhemeiengcaaDoor
open Go.RowKit Go.Maps

abbrev bitsDD : List (Option Nat) := [some 124, some 125, some 126, some 127, some 128, some 129, some 130, some 131, some 132, some 133, some 134, some 135, some 136, some 137, some 138, some 139, some 140, some 141, some 142, some 143, some 144, some 145, some 146, some 147, some 148, some 149, some 150, some 151, some 152, some 153, some 154, some 155, some 8]
noncomputable def bitsDO : { c : Array Oper // (Tryd.f5.body.bind (findRegion 7)) = some (.region 7 c true) } := ⟨_, rfl⟩
theorem bitsDO_size : bitsDO.1.size = 33 := rfl
theorem bitsDO0 : ∃ o, bitsDO.1[0]? = some o ∧ o.dst = some 124 ∧ o.guard = none ∧ o.op = Go.Op.load 24 (Go.Operand.tmp 4) := ⟨_, rfl, rfl, rfl, rfl⟩
theorem bitsDO1 : ∃ o, bitsDO.1[1]? = some o ∧ o.dst = some 125 ∧ o.guard = none ∧ o.op = Go.Op.move (Go.Operand.tmp 3) := ⟨_, rfl, rfl, rfl, rfl⟩
theorem bitsDO2 : ∃ o, bitsDO.1[2]? = some o ∧ o.dst = some 126 ∧ o.guard = none ∧ o.op = Go.Op.call { callee := Go.Callee.value (Go.Operand.func 39), args := #[Go.Operand.tmp 124, Go.Operand.tmp 125], argTypes := #[24, 3] } := ⟨_, rfl, rfl, rfl, rfl⟩
theorem bitsDO3 : ∃ o, bitsDO.1[3]? = some o ∧ o.dst = some 127 ∧ o.guard = none ∧ o.op = Go.Op.load 24 (Go.Operand.tmp 4) := ⟨_, rfl, rfl, rfl, rfl⟩
theorem bitsDO4 : ∃ o, bitsDO.1[4]? = some o ∧ o.dst = some 128 ∧ o.guard = none ∧ o.op = Go.Op.move (Go.Operand.tmp 3) := ⟨_, rfl, rfl, rfl, rfl⟩
theorem bitsDO5 : ∃ o, bitsDO.1[5]? = some o ∧ o.dst = some 129 ∧ o.guard = none ∧ o.op = Go.Op.call { callee := Go.Callee.value (Go.Operand.func 40), args := #[Go.Operand.tmp 127, Go.Operand.tmp 128], argTypes := #[24, 3] } := ⟨_, rfl, rfl, rfl, rfl⟩
theorem bitsDO6 : ∃ o, bitsDO.1[6]? = some o ∧ o.dst = some 130 ∧ o.guard = none ∧ o.op = Go.Op.binOp Go.BinOp.eql 4 (Go.Operand.tmp 126) (Go.Operand.tmp 129) 4 := ⟨_, rfl, rfl, rfl, rfl⟩
theorem bitsDO7 : ∃ o, bitsDO.1[7]? = some o ∧ o.dst = some 131 ∧ o.guard = none ∧ o.op = Go.Op.move (Go.Operand.tmp 130) := ⟨_, rfl, rfl, rfl, rfl⟩
theorem bitsDO8 : ∃ o, bitsDO.1[8]? = some o ∧ o.dst = some 132 ∧ o.guard = some (7, true) ∧ o.op = Go.Op.load 24 (Go.Operand.tmp 4) := ⟨_, rfl, rfl, rfl, rfl⟩
theorem bitsDO9 : ∃ o, bitsDO.1[9]? = some o ∧ o.dst = some 133 ∧ o.guard = some (7, true) ∧ o.op = Go.Op.move (Go.Operand.tmp 2) := ⟨_, rfl, rfl, rfl, rfl⟩
theorem bitsDO10 : ∃ o, bitsDO.1[10]? = some o ∧ o.dst = some 134 ∧ o.guard = some (7, true) ∧ o.op = Go.Op.move (Go.Operand.tmp 3) := ⟨_, rfl, rfl, rfl, rfl⟩
theorem bitsDO11 : ∃ o, bitsDO.1[11]? = some o ∧ o.dst = some 135 ∧ o.guard = some (7, true) ∧ o.op = Go.Op.call { callee := Go.Callee.value (Go.Operand.func 19), args := #[Go.Operand.tmp 132, Go.Operand.tmp 133, Go.Operand.tmp 134], argTypes := #[24, 3, 3] } := ⟨_, rfl, rfl, rfl, rfl⟩
theorem bitsDO12 : ∃ o, bitsDO.1[12]? = some o ∧ o.dst = some 136 ∧ o.guard = some (7, true) ∧ o.op = Go.Op.load 24 (Go.Operand.tmp 4) := ⟨_, rfl, rfl, rfl, rfl⟩
theorem bitsDO13 : ∃ o, bitsDO.1[13]? = some o ∧ o.dst = some 137 ∧ o.guard = some (7, true) ∧ o.op = Go.Op.move (Go.Operand.tmp 2) := ⟨_, rfl, rfl, rfl, rfl⟩
theorem bitsDO14 : ∃ o, bitsDO.1[14]? = some o ∧ o.dst = some 138 ∧ o.guard = some (7, true) ∧ o.op = Go.Op.move (Go.Operand.tmp 3) := ⟨_, rfl, rfl, rfl, rfl⟩
theorem bitsDO15 : ∃ o, bitsDO.1[15]? = some o ∧ o.dst = some 139 ∧ o.guard = some (7, true) ∧ o.op = Go.Op.call { callee := Go.Callee.value (Go.Operand.func 41), args := #[Go.Operand.tmp 136, Go.Operand.tmp 137, Go.Operand.tmp 138], argTypes := #[24, 3, 3] } := ⟨_, rfl, rfl, rfl, rfl⟩
theorem bitsDO16 : ∃ o, bitsDO.1[16]? = some o ∧ o.dst = some 140 ∧ o.guard = some (7, true) ∧ o.op = Go.Op.binOp Go.BinOp.eql 24 (Go.Operand.tmp 135) (Go.Operand.tmp 139) 24 := ⟨_, rfl, rfl, rfl, rfl⟩
theorem bitsDO17 : ∃ o, bitsDO.1[17]? = some o ∧ o.dst = some 141 ∧ o.guard = none ∧ o.op = Go.Op.pick (Go.Operand.tmp 131) (Go.Operand.tmp 140) (Go.Operand.const (Go.Value.bool false)) := ⟨_, rfl, rfl, rfl, rfl⟩
theorem bitsDO18 : ∃ o, bitsDO.1[18]? = some o ∧ o.dst = some 142 ∧ o.guard = none ∧ o.op = Go.Op.move (Go.Operand.tmp 141) := ⟨_, rfl, rfl, rfl, rfl⟩
theorem bitsDO19 : ∃ o, bitsDO.1[19]? = some o ∧ o.dst = some 143 ∧ o.guard = some (18, true) ∧ o.op = Go.Op.load 24 (Go.Operand.tmp 4) := ⟨_, rfl, rfl, rfl, rfl⟩
theorem bitsDO20 : ∃ o, bitsDO.1[20]? = some o ∧ o.dst = some 144 ∧ o.guard = some (18, true) ∧ o.op = Go.Op.load 24 (Go.Operand.tmp 5) := ⟨_, rfl, rfl, rfl, rfl⟩
theorem bitsDO21 : ∃ o, bitsDO.1[21]? = some o ∧ o.dst = some 145 ∧ o.guard = some (18, true) ∧ o.op = Go.Op.move (Go.Operand.tmp 2) := ⟨_, rfl, rfl, rfl, rfl⟩
theorem bitsDO22 : ∃ o, bitsDO.1[22]? = some o ∧ o.dst = some 146 ∧ o.guard = some (18, true) ∧ o.op = Go.Op.call { callee := Go.Callee.value (Go.Operand.func 18), args := #[Go.Operand.tmp 143, Go.Operand.tmp 144, Go.Operand.tmp 145], argTypes := #[24, 24, 3] } := ⟨_, rfl, rfl, rfl, rfl⟩
theorem bitsDO23 : ∃ o, bitsDO.1[23]? = some o ∧ o.dst = some 147 ∧ o.guard = some (18, true) ∧ o.op = Go.Op.load 24 (Go.Operand.tmp 4) := ⟨_, rfl, rfl, rfl, rfl⟩
theorem bitsDO24 : ∃ o, bitsDO.1[24]? = some o ∧ o.dst = some 148 ∧ o.guard = some (18, true) ∧ o.op = Go.Op.load 24 (Go.Operand.tmp 5) := ⟨_, rfl, rfl, rfl, rfl⟩
theorem bitsDO25 : ∃ o, bitsDO.1[25]? = some o ∧ o.dst = some 149 ∧ o.guard = some (18, true) ∧ o.op = Go.Op.move (Go.Operand.tmp 2) := ⟨_, rfl, rfl, rfl, rfl⟩
theorem bitsDO26 : ∃ o, bitsDO.1[26]? = some o ∧ o.dst = some 150 ∧ o.guard = some (18, true) ∧ o.op = Go.Op.call { callee := Go.Callee.value (Go.Operand.func 42), args := #[Go.Operand.tmp 147, Go.Operand.tmp 148, Go.Operand.tmp 149], argTypes := #[24, 24, 3] } := ⟨_, rfl, rfl, rfl, rfl⟩
theorem bitsDO27 : ∃ o, bitsDO.1[27]? = some o ∧ o.dst = some 151 ∧ o.guard = some (18, true) ∧ o.op = Go.Op.binOp Go.BinOp.eql 24 (Go.Operand.tmp 146) (Go.Operand.tmp 150) 24 := ⟨_, rfl, rfl, rfl, rfl⟩
theorem bitsDO28 : ∃ o, bitsDO.1[28]? = some o ∧ o.dst = some 152 ∧ o.guard = none ∧ o.op = Go.Op.pick (Go.Operand.tmp 142) (Go.Operand.tmp 151) (Go.Operand.const (Go.Value.bool false)) := ⟨_, rfl, rfl, rfl, rfl⟩
theorem bitsDO29 : ∃ o, bitsDO.1[29]? = some o ∧ o.dst = some 153 ∧ o.guard = none ∧ o.op = Go.Op.move (Go.Operand.tmp 152) := ⟨_, rfl, rfl, rfl, rfl⟩
theorem bitsDO30 : ∃ o, bitsDO.1[30]? = some o ∧ o.dst = some 154 ∧ o.guard = some (29, true) ∧ o.op = Go.Op.call { callee := Go.Callee.value (Go.Operand.func 6), args := #[], argTypes := #[] } := ⟨_, rfl, rfl, rfl, rfl⟩
theorem bitsDO31 : ∃ o, bitsDO.1[31]? = some o ∧ o.dst = some 155 ∧ o.guard = none ∧ o.op = Go.Op.pick (Go.Operand.tmp 153) (Go.Operand.tmp 154) (Go.Operand.const (Go.Value.bool false)) := ⟨_, rfl, rfl, rfl, rfl⟩
theorem bitsDO32 : ∃ o, bitsDO.1[32]? = some o ∧ o.dst = some 8 ∧ o.guard = none ∧ o.op = Go.Op.assign (Go.Operand.tmp 155) := ⟨_, rfl, rfl, rfl, rfl⟩
theorem bitsDO_back : ∀ (i : Nat) (o : Oper), bitsDO.1[i]? = some o → ∀ e ∈ o.after, Region.binds .any e = true → e.on < i := by
  have h : ((List.range 33).all fun i => (bitsDO.1[i]?.map fun o => o.after.all fun e => !Region.binds .any e || decide (e.on < i)).getD false) = true := by kernel_rfl
  intro i o ho e he hb
  have hi : i < 33 := by
    by_cases q : i < 33
    · exact q
    · rw [Array.getElem?_eq_none (by rw [bitsDO_size]; omega)] at ho; cases ho
  have h2 := List.all_eq_true.1 h i (List.mem_range.2 hi)
  rw [ho] at h2
  simp only [Option.map_some, Option.getD_some, Array.all_eq_true'] at h2
  have h3 := h2 e he
  rw [hb] at h3
  simpa using h3
def bitsDK (gA gB a b : Nat) (k j : Int) : List (List Nat × Tw) := [isJ [] (numV (a)), isJ [] (.int .i64 j), isJ [] (.bool (bitB a j)), isJ [] (numV (a)), isJ [] (.int .i64 j), isJ [] (.bool (bitB a j)), isJ [] (.bool true), isJ [] (.bool true), isJ [] (numV (a)), isJ [] (.int .i64 k), isJ [] (.int .i64 j), isJ [] (numV (sliceN a k j)), isJ [] (numV (a)), isJ [] (.int .i64 k), isJ [] (.int .i64 j), isJ [] (numV (sliceN a k j)), isJ [] (.bool true), isJ [] (.bool true), isJ [] (.bool true), isJ [] (numV (a)), isJ [] (numV (b)), isJ [] (.int .i64 k), isJ [] (numV ((a * 2 ^ sh k % (B * B) % 2 ^ sh 128) ||| (b % 2 ^ sh k))), isJ [] (numV (a)), isJ [] (numV (b)), isJ [] (.int .i64 k), isJ [] (numV (catN a b k)), isJ [] (.bool true), isJ [] (.bool true), isJ [] (.bool true), isJ [] (.bool true), isJ [] (.bool true), isJ [] (.bool true)]
theorem bitsDK_free {gA gB a b : Nat} {k j : Int} : KdFree (bitsDK gA gB a b k j) := fun i js P hk B w w' ls v hp => by
  match i, hk with
  | 0, hk => cases hk; exact hp
  | 1, hk => cases hk; exact hp
  | 2, hk => cases hk; exact hp
  | 3, hk => cases hk; exact hp
  | 4, hk => cases hk; exact hp
  | 5, hk => cases hk; exact hp
  | 6, hk => cases hk; exact hp
  | 7, hk => cases hk; exact hp
  | 8, hk => cases hk; exact hp
  | 9, hk => cases hk; exact hp
  | 10, hk => cases hk; exact hp
  | 11, hk => cases hk; exact hp
  | 12, hk => cases hk; exact hp
  | 13, hk => cases hk; exact hp
  | 14, hk => cases hk; exact hp
  | 15, hk => cases hk; exact hp
  | 16, hk => cases hk; exact hp
  | 17, hk => cases hk; exact hp
  | 18, hk => cases hk; exact hp
  | 19, hk => cases hk; exact hp
  | 20, hk => cases hk; exact hp
  | 21, hk => cases hk; exact hp
  | 22, hk => cases hk; exact hp
  | 23, hk => cases hk; exact hp
  | 24, hk => cases hk; exact hp
  | 25, hk => cases hk; exact hp
  | 26, hk => cases hk; exact hp
  | 27, hk => cases hk; exact hp
  | 28, hk => cases hk; exact hp
  | 29, hk => cases hk; exact hp
  | 30, hk => cases hk; exact hp
  | 31, hk => cases hk; exact hp
  | 32, hk => cases hk; exact hp
  | i + 33, hk => simp [bitsDK] at hk
structure bitsDC (gA gB a b : Nat) (k j : Int) (WB : World) (T : List Value) : Prop where
  tl : T.length = 156
  t2 : nth T 2 = .int .i64 k
  t3 : nth T 3 = .int .i64 j
  t4 : nth T 4 = .pointer (some ⟨gA, 0, none⟩)
  t5 : nth T 5 = .pointer (some ⟨gB, 0, none⟩)
  ca0 : WB.cell? ⟨gA, 0, none⟩ = some (.int .u64 ((a / B : Nat) : Int))
  ca1 : WB.cell? ⟨gA, 1, none⟩ = some (.int .u64 ((a % B : Nat) : Int))
  cb0 : WB.cell? ⟨gB, 0, none⟩ = some (.int .u64 ((b / B : Nat) : Int))
  cb1 : WB.cell? ⟨gB, 1, none⟩ = some (.int .u64 ((b % B : Nat) : Int))
  la : a < B * B
  lb : b < B * B
  lj : j ≤ 9223372036854775807
set_option maxRecDepth 100000 in
set_option maxHeartbeats 1000000 in
theorem bitsD_s0 {gA gB a b : Nat} {k j : Int} {WB w : World} {T l : List Value} {L : Array Bool} (Q : Exit → Act → World → Prop) (c : bitsDC gA gB a b k j WB T) (h : VT Tryd.prog bitsDO.1 33 156 bitsDD WB (bitsDK gA gB a b k j) T L l w 0) : wpOp Tryd.prog bitsDO.1 Q 0 (SJ (vaR WB (bitsDK gA gB a b k j)) 33 bitsDD T (L.setIfInBounds 0 true)) (frm2 bitsDD T l) w := by
  obtain ⟨o, ho, hd, hg, hop⟩ := bitsDO0
  have hw := wanted_un (ops := bitsDO.1) (t := (frm2 bitsDD T l).tmps) hg
  exact h.same (v := numV (a)) ho hd rfl hw rfl (ex_load_n hop ((h.old (s := 4) rfl (by decide)).trans c.t4) (h.cell c.ca0) (h.cell c.ca1))

set_option maxRecDepth 100000 in
set_option maxHeartbeats 1000000 in
theorem bitsD_s1 {gA gB a b : Nat} {k j : Int} {WB w : World} {T l : List Value} {L : Array Bool} (Q : Exit → Act → World → Prop) (c : bitsDC gA gB a b k j WB T) (h : VT Tryd.prog bitsDO.1 33 156 bitsDD WB (bitsDK gA gB a b k j) T L l w 1) : wpOp Tryd.prog bitsDO.1 Q 1 (SJ (vaR WB (bitsDK gA gB a b k j)) 33 bitsDD T (L.setIfInBounds 1 true)) (frm2 bitsDD T l) w := by
  obtain ⟨o, ho, hd, hg, hop⟩ := bitsDO1
  have hw := wanted_un (ops := bitsDO.1) (t := (frm2 bitsDD T l).tmps) hg
  exact h.same (v := .int .i64 j) ho hd rfl hw rfl (ex_move hop ((h.old (s := 3) rfl (by decide)).trans c.t3))

set_option maxRecDepth 100000 in
set_option maxHeartbeats 1000000 in
theorem bitsD_s2 {gA gB a b : Nat} {k j : Int} {WB w : World} {T l : List Value} {L : Array Bool} (Q : Exit → Act → World → Prop) (c : bitsDC gA gB a b k j WB T) (h : VT Tryd.prog bitsDO.1 33 156 bitsDD WB (bitsDK gA gB a b k j) T L l w 2) : wpOp Tryd.prog bitsDO.1 Q 2 (SJ (vaR WB (bitsDK gA gB a b k j)) 33 bitsDD T (L.setIfInBounds 2 true)) (frm2 bitsDD T l) w := by
  obtain ⟨o, ho, hd, hg, hop⟩ := bitsDO2
  have hw := wanted_un (ops := bitsDO.1) (t := (frm2 bitsDD T l).tmps) hg
  have x124 := ((h.new (s := 124) (j := 0) rfl (by decide)).trans (h.rw.gotK 0 (dep_of (a := 0) (by kernel_rfl) h.dep) rfl))
  have x125 := ((h.new (s := 125) (j := 1) rfl (by decide)).trans (h.rw.gotK 1 (dep_of (a := 1) (by kernel_rfl) h.dep) rfl))
  exact h.call (v := .bool (bitB a j)) ho hd rfl hw rfl (ex_call hop rfl rfl (args := #[numV (a), .int .i64 j]) (all := #[numV (a), .int .i64 j]) (by simp only [List.map_toArray, List.map_cons, List.map_nil]; rw [x124, x125]) (by simp) (fun av W => by kernel_rfl)) (numBit_any a j w c.la)

set_option maxRecDepth 100000 in
set_option maxHeartbeats 1000000 in
theorem bitsD_s3 {gA gB a b : Nat} {k j : Int} {WB w : World} {T l : List Value} {L : Array Bool} (Q : Exit → Act → World → Prop) (c : bitsDC gA gB a b k j WB T) (h : VT Tryd.prog bitsDO.1 33 156 bitsDD WB (bitsDK gA gB a b k j) T L l w 3) : wpOp Tryd.prog bitsDO.1 Q 3 (SJ (vaR WB (bitsDK gA gB a b k j)) 33 bitsDD T (L.setIfInBounds 3 true)) (frm2 bitsDD T l) w := by
  obtain ⟨o, ho, hd, hg, hop⟩ := bitsDO3
  have hw := wanted_un (ops := bitsDO.1) (t := (frm2 bitsDD T l).tmps) hg
  exact h.same (v := numV (a)) ho hd rfl hw rfl (ex_load_n hop ((h.old (s := 4) rfl (by decide)).trans c.t4) (h.cell c.ca0) (h.cell c.ca1))

set_option maxRecDepth 100000 in
set_option maxHeartbeats 1000000 in
theorem bitsD_s4 {gA gB a b : Nat} {k j : Int} {WB w : World} {T l : List Value} {L : Array Bool} (Q : Exit → Act → World → Prop) (c : bitsDC gA gB a b k j WB T) (h : VT Tryd.prog bitsDO.1 33 156 bitsDD WB (bitsDK gA gB a b k j) T L l w 4) : wpOp Tryd.prog bitsDO.1 Q 4 (SJ (vaR WB (bitsDK gA gB a b k j)) 33 bitsDD T (L.setIfInBounds 4 true)) (frm2 bitsDD T l) w := by
  obtain ⟨o, ho, hd, hg, hop⟩ := bitsDO4
  have hw := wanted_un (ops := bitsDO.1) (t := (frm2 bitsDD T l).tmps) hg
  exact h.same (v := .int .i64 j) ho hd rfl hw rfl (ex_move hop ((h.old (s := 3) rfl (by decide)).trans c.t3))

set_option maxRecDepth 100000 in
set_option maxHeartbeats 1000000 in
theorem bitsD_s5 {gA gB a b : Nat} {k j : Int} {WB w : World} {T l : List Value} {L : Array Bool} (Q : Exit → Act → World → Prop) (c : bitsDC gA gB a b k j WB T) (h : VT Tryd.prog bitsDO.1 33 156 bitsDD WB (bitsDK gA gB a b k j) T L l w 5) : wpOp Tryd.prog bitsDO.1 Q 5 (SJ (vaR WB (bitsDK gA gB a b k j)) 33 bitsDD T (L.setIfInBounds 5 true)) (frm2 bitsDD T l) w := by
  obtain ⟨o, ho, hd, hg, hop⟩ := bitsDO5
  have hw := wanted_un (ops := bitsDO.1) (t := (frm2 bitsDD T l).tmps) hg
  have x127 := ((h.new (s := 127) (j := 3) rfl (by decide)).trans (h.rw.gotK 3 (dep_of (a := 3) (by kernel_rfl) h.dep) rfl))
  have x128 := ((h.new (s := 128) (j := 4) rfl (by decide)).trans (h.rw.gotK 4 (dep_of (a := 4) (by kernel_rfl) h.dep) rfl))
  exact h.call (v := .bool (bitB a j)) ho hd rfl hw rfl (ex_call hop rfl rfl (args := #[numV (a), .int .i64 j]) (all := #[numV (a), .int .i64 j]) (by simp only [List.map_toArray, List.map_cons, List.map_nil]; rw [x127, x128]) (by simp) (fun av W => by kernel_rfl)) (refBit_any a j c.la w)

set_option maxRecDepth 100000 in
set_option maxHeartbeats 1000000 in
theorem bitsD_s6 {gA gB a b : Nat} {k j : Int} {WB w : World} {T l : List Value} {L : Array Bool} (Q : Exit → Act → World → Prop) (c : bitsDC gA gB a b k j WB T) (h : VT Tryd.prog bitsDO.1 33 156 bitsDD WB (bitsDK gA gB a b k j) T L l w 6) : wpOp Tryd.prog bitsDO.1 Q 6 (SJ (vaR WB (bitsDK gA gB a b k j)) 33 bitsDD T (L.setIfInBounds 6 true)) (frm2 bitsDD T l) w := by
  obtain ⟨o, ho, hd, hg, hop⟩ := bitsDO6
  have hw := wanted_un (ops := bitsDO.1) (t := (frm2 bitsDD T l).tmps) hg
  exact h.same (v := .bool true) ho hd rfl hw rfl (ex_eqlB hop ((h.new (s := 126) (j := 2) rfl (by decide)).trans (h.rw.gotK 2 (dep_of (a := 2) (by kernel_rfl) h.dep) rfl)) ((h.new (s := 129) (j := 5) rfl (by decide)).trans (h.rw.gotK 5 (dep_of (a := 5) (by kernel_rfl) h.dep) rfl)))

set_option maxRecDepth 100000 in
set_option maxHeartbeats 1000000 in
theorem bitsD_s7 {gA gB a b : Nat} {k j : Int} {WB w : World} {T l : List Value} {L : Array Bool} (Q : Exit → Act → World → Prop) (c : bitsDC gA gB a b k j WB T) (h : VT Tryd.prog bitsDO.1 33 156 bitsDD WB (bitsDK gA gB a b k j) T L l w 7) : wpOp Tryd.prog bitsDO.1 Q 7 (SJ (vaR WB (bitsDK gA gB a b k j)) 33 bitsDD T (L.setIfInBounds 7 true)) (frm2 bitsDD T l) w := by
  obtain ⟨o, ho, hd, hg, hop⟩ := bitsDO7
  have hw := wanted_un (ops := bitsDO.1) (t := (frm2 bitsDD T l).tmps) hg
  exact h.same (v := .bool true) ho hd rfl hw rfl (ex_move hop ((h.new (s := 130) (j := 6) rfl (by decide)).trans (h.rw.gotK 6 (dep_of (a := 6) (by kernel_rfl) h.dep) rfl)))

set_option maxRecDepth 100000 in
set_option maxHeartbeats 1000000 in
theorem bitsD_s8 {gA gB a b : Nat} {k j : Int} {WB w : World} {T l : List Value} {L : Array Bool} (Q : Exit → Act → World → Prop) (c : bitsDC gA gB a b k j WB T) (h : VT Tryd.prog bitsDO.1 33 156 bitsDD WB (bitsDK gA gB a b k j) T L l w 8) : wpOp Tryd.prog bitsDO.1 Q 8 (SJ (vaR WB (bitsDK gA gB a b k j)) 33 bitsDD T (L.setIfInBounds 8 true)) (frm2 bitsDD T l) w := by
  obtain ⟨o, ho, hd, hg, hop⟩ := bitsDO8
  obtain ⟨oj, hj, hdj, -, -⟩ := bitsDO7
  have hw := wanted2_go (T := T) (l := l) hg hj hdj (show slotOf bitsDD 131 = some 7 from rfl) (by rw [h.tl]; decide) (h.rw.gotK 7 (dep_of (a := 7) (by kernel_rfl) h.dep) rfl)
  exact h.same (v := numV (a)) ho hd rfl hw rfl (ex_load_n hop ((h.old (s := 4) rfl (by decide)).trans c.t4) (h.cell c.ca0) (h.cell c.ca1))

set_option maxRecDepth 100000 in
set_option maxHeartbeats 1000000 in
theorem bitsD_s9 {gA gB a b : Nat} {k j : Int} {WB w : World} {T l : List Value} {L : Array Bool} (Q : Exit → Act → World → Prop) (c : bitsDC gA gB a b k j WB T) (h : VT Tryd.prog bitsDO.1 33 156 bitsDD WB (bitsDK gA gB a b k j) T L l w 9) : wpOp Tryd.prog bitsDO.1 Q 9 (SJ (vaR WB (bitsDK gA gB a b k j)) 33 bitsDD T (L.setIfInBounds 9 true)) (frm2 bitsDD T l) w := by
  obtain ⟨o, ho, hd, hg, hop⟩ := bitsDO9
  obtain ⟨oj, hj, hdj, -, -⟩ := bitsDO7
  have hw := wanted2_go (T := T) (l := l) hg hj hdj (show slotOf bitsDD 131 = some 7 from rfl) (by rw [h.tl]; decide) (h.rw.gotK 7 (dep_of (a := 7) (by kernel_rfl) h.dep) rfl)
  exact h.same (v := .int .i64 k) ho hd rfl hw rfl (ex_move hop ((h.old (s := 2) rfl (by decide)).trans c.t2))

set_option maxRecDepth 100000 in
set_option maxHeartbeats 1000000 in
theorem bitsD_s10 {gA gB a b : Nat} {k j : Int} {WB w : World} {T l : List Value} {L : Array Bool} (Q : Exit → Act → World → Prop) (c : bitsDC gA gB a b k j WB T) (h : VT Tryd.prog bitsDO.1 33 156 bitsDD WB (bitsDK gA gB a b k j) T L l w 10) : wpOp Tryd.prog bitsDO.1 Q 10 (SJ (vaR WB (bitsDK gA gB a b k j)) 33 bitsDD T (L.setIfInBounds 10 true)) (frm2 bitsDD T l) w := by
  obtain ⟨o, ho, hd, hg, hop⟩ := bitsDO10
  obtain ⟨oj, hj, hdj, -, -⟩ := bitsDO7
  have hw := wanted2_go (T := T) (l := l) hg hj hdj (show slotOf bitsDD 131 = some 7 from rfl) (by rw [h.tl]; decide) (h.rw.gotK 7 (dep_of (a := 7) (by kernel_rfl) h.dep) rfl)
  exact h.same (v := .int .i64 j) ho hd rfl hw rfl (ex_move hop ((h.old (s := 3) rfl (by decide)).trans c.t3))

set_option maxRecDepth 100000 in
set_option maxHeartbeats 1000000 in
theorem bitsD_s11 {gA gB a b : Nat} {k j : Int} {WB w : World} {T l : List Value} {L : Array Bool} (Q : Exit → Act → World → Prop) (c : bitsDC gA gB a b k j WB T) (h : VT Tryd.prog bitsDO.1 33 156 bitsDD WB (bitsDK gA gB a b k j) T L l w 11) : wpOp Tryd.prog bitsDO.1 Q 11 (SJ (vaR WB (bitsDK gA gB a b k j)) 33 bitsDD T (L.setIfInBounds 11 true)) (frm2 bitsDD T l) w := by
  obtain ⟨o, ho, hd, hg, hop⟩ := bitsDO11
  obtain ⟨oj, hj, hdj, -, -⟩ := bitsDO7
  have hw := wanted2_go (T := T) (l := l) hg hj hdj (show slotOf bitsDD 131 = some 7 from rfl) (by rw [h.tl]; decide) (h.rw.gotK 7 (dep_of (a := 7) (by kernel_rfl) h.dep) rfl)
  have x132 := ((h.new (s := 132) (j := 8) rfl (by decide)).trans (h.rw.gotK 8 (dep_of (a := 8) (by kernel_rfl) h.dep) rfl))
  have x133 := ((h.new (s := 133) (j := 9) rfl (by decide)).trans (h.rw.gotK 9 (dep_of (a := 9) (by kernel_rfl) h.dep) rfl))
  have x134 := ((h.new (s := 134) (j := 10) rfl (by decide)).trans (h.rw.gotK 10 (dep_of (a := 10) (by kernel_rfl) h.dep) rfl))
  exact h.call (v := numV (sliceN a k j)) ho hd rfl hw rfl (ex_call hop rfl rfl (args := #[numV (a), .int .i64 k, .int .i64 j]) (all := #[numV (a), .int .i64 k, .int .i64 j]) (by simp only [List.map_toArray, List.map_cons, List.map_nil]; rw [x132, x133, x134]) (by simp) (fun av W => by kernel_rfl)) (numSlice_all a k j w c.la c.lj)

set_option maxRecDepth 100000 in
set_option maxHeartbeats 1000000 in
theorem bitsD_s12 {gA gB a b : Nat} {k j : Int} {WB w : World} {T l : List Value} {L : Array Bool} (Q : Exit → Act → World → Prop) (c : bitsDC gA gB a b k j WB T) (h : VT Tryd.prog bitsDO.1 33 156 bitsDD WB (bitsDK gA gB a b k j) T L l w 12) : wpOp Tryd.prog bitsDO.1 Q 12 (SJ (vaR WB (bitsDK gA gB a b k j)) 33 bitsDD T (L.setIfInBounds 12 true)) (frm2 bitsDD T l) w := by
  obtain ⟨o, ho, hd, hg, hop⟩ := bitsDO12
  obtain ⟨oj, hj, hdj, -, -⟩ := bitsDO7
  have hw := wanted2_go (T := T) (l := l) hg hj hdj (show slotOf bitsDD 131 = some 7 from rfl) (by rw [h.tl]; decide) (h.rw.gotK 7 (dep_of (a := 7) (by kernel_rfl) h.dep) rfl)
  exact h.same (v := numV (a)) ho hd rfl hw rfl (ex_load_n hop ((h.old (s := 4) rfl (by decide)).trans c.t4) (h.cell c.ca0) (h.cell c.ca1))

set_option maxRecDepth 100000 in
set_option maxHeartbeats 1000000 in
theorem bitsD_s13 {gA gB a b : Nat} {k j : Int} {WB w : World} {T l : List Value} {L : Array Bool} (Q : Exit → Act → World → Prop) (c : bitsDC gA gB a b k j WB T) (h : VT Tryd.prog bitsDO.1 33 156 bitsDD WB (bitsDK gA gB a b k j) T L l w 13) : wpOp Tryd.prog bitsDO.1 Q 13 (SJ (vaR WB (bitsDK gA gB a b k j)) 33 bitsDD T (L.setIfInBounds 13 true)) (frm2 bitsDD T l) w := by
  obtain ⟨o, ho, hd, hg, hop⟩ := bitsDO13
  obtain ⟨oj, hj, hdj, -, -⟩ := bitsDO7
  have hw := wanted2_go (T := T) (l := l) hg hj hdj (show slotOf bitsDD 131 = some 7 from rfl) (by rw [h.tl]; decide) (h.rw.gotK 7 (dep_of (a := 7) (by kernel_rfl) h.dep) rfl)
  exact h.same (v := .int .i64 k) ho hd rfl hw rfl (ex_move hop ((h.old (s := 2) rfl (by decide)).trans c.t2))

set_option maxRecDepth 100000 in
set_option maxHeartbeats 1000000 in
theorem bitsD_s14 {gA gB a b : Nat} {k j : Int} {WB w : World} {T l : List Value} {L : Array Bool} (Q : Exit → Act → World → Prop) (c : bitsDC gA gB a b k j WB T) (h : VT Tryd.prog bitsDO.1 33 156 bitsDD WB (bitsDK gA gB a b k j) T L l w 14) : wpOp Tryd.prog bitsDO.1 Q 14 (SJ (vaR WB (bitsDK gA gB a b k j)) 33 bitsDD T (L.setIfInBounds 14 true)) (frm2 bitsDD T l) w := by
  obtain ⟨o, ho, hd, hg, hop⟩ := bitsDO14
  obtain ⟨oj, hj, hdj, -, -⟩ := bitsDO7
  have hw := wanted2_go (T := T) (l := l) hg hj hdj (show slotOf bitsDD 131 = some 7 from rfl) (by rw [h.tl]; decide) (h.rw.gotK 7 (dep_of (a := 7) (by kernel_rfl) h.dep) rfl)
  exact h.same (v := .int .i64 j) ho hd rfl hw rfl (ex_move hop ((h.old (s := 3) rfl (by decide)).trans c.t3))

set_option maxRecDepth 100000 in
set_option maxHeartbeats 1000000 in
theorem bitsD_s15 {gA gB a b : Nat} {k j : Int} {WB w : World} {T l : List Value} {L : Array Bool} (Q : Exit → Act → World → Prop) (c : bitsDC gA gB a b k j WB T) (h : VT Tryd.prog bitsDO.1 33 156 bitsDD WB (bitsDK gA gB a b k j) T L l w 15) : wpOp Tryd.prog bitsDO.1 Q 15 (SJ (vaR WB (bitsDK gA gB a b k j)) 33 bitsDD T (L.setIfInBounds 15 true)) (frm2 bitsDD T l) w := by
  obtain ⟨o, ho, hd, hg, hop⟩ := bitsDO15
  obtain ⟨oj, hj, hdj, -, -⟩ := bitsDO7
  have hw := wanted2_go (T := T) (l := l) hg hj hdj (show slotOf bitsDD 131 = some 7 from rfl) (by rw [h.tl]; decide) (h.rw.gotK 7 (dep_of (a := 7) (by kernel_rfl) h.dep) rfl)
  have x136 := ((h.new (s := 136) (j := 12) rfl (by decide)).trans (h.rw.gotK 12 (dep_of (a := 12) (by kernel_rfl) h.dep) rfl))
  have x137 := ((h.new (s := 137) (j := 13) rfl (by decide)).trans (h.rw.gotK 13 (dep_of (a := 13) (by kernel_rfl) h.dep) rfl))
  have x138 := ((h.new (s := 138) (j := 14) rfl (by decide)).trans (h.rw.gotK 14 (dep_of (a := 14) (by kernel_rfl) h.dep) rfl))
  exact h.call (v := numV (sliceN a k j)) ho hd rfl hw rfl (ex_call hop rfl rfl (args := #[numV (a), .int .i64 k, .int .i64 j]) (all := #[numV (a), .int .i64 k, .int .i64 j]) (by simp only [List.map_toArray, List.map_cons, List.map_nil]; rw [x136, x137, x138]) (by simp) (fun av W => by kernel_rfl)) (refSlice_any a k j c.la w)

set_option maxRecDepth 100000 in
set_option maxHeartbeats 1000000 in
theorem bitsD_s16 {gA gB a b : Nat} {k j : Int} {WB w : World} {T l : List Value} {L : Array Bool} (Q : Exit → Act → World → Prop) (c : bitsDC gA gB a b k j WB T) (h : VT Tryd.prog bitsDO.1 33 156 bitsDD WB (bitsDK gA gB a b k j) T L l w 16) : wpOp Tryd.prog bitsDO.1 Q 16 (SJ (vaR WB (bitsDK gA gB a b k j)) 33 bitsDD T (L.setIfInBounds 16 true)) (frm2 bitsDD T l) w := by
  obtain ⟨o, ho, hd, hg, hop⟩ := bitsDO16
  obtain ⟨oj, hj, hdj, -, -⟩ := bitsDO7
  have hw := wanted2_go (T := T) (l := l) hg hj hdj (show slotOf bitsDD 131 = some 7 from rfl) (by rw [h.tl]; decide) (h.rw.gotK 7 (dep_of (a := 7) (by kernel_rfl) h.dep) rfl)
  exact h.same (v := .bool true) ho hd rfl hw rfl (ex_eqlN hop ((h.new (s := 135) (j := 11) rfl (by decide)).trans (h.rw.gotK 11 (dep_of (a := 11) (by kernel_rfl) h.dep) rfl)) ((h.new (s := 139) (j := 15) rfl (by decide)).trans (h.rw.gotK 15 (dep_of (a := 15) (by kernel_rfl) h.dep) rfl)) (rfl))

set_option maxRecDepth 100000 in
set_option maxHeartbeats 1000000 in
theorem bitsD_s17 {gA gB a b : Nat} {k j : Int} {WB w : World} {T l : List Value} {L : Array Bool} (Q : Exit → Act → World → Prop) (c : bitsDC gA gB a b k j WB T) (h : VT Tryd.prog bitsDO.1 33 156 bitsDD WB (bitsDK gA gB a b k j) T L l w 17) : wpOp Tryd.prog bitsDO.1 Q 17 (SJ (vaR WB (bitsDK gA gB a b k j)) 33 bitsDD T (L.setIfInBounds 17 true)) (frm2 bitsDD T l) w := by
  obtain ⟨o, ho, hd, hg, hop⟩ := bitsDO17
  have hw := wanted_un (ops := bitsDO.1) (t := (frm2 bitsDD T l).tmps) hg
  exact h.same (v := .bool true) ho hd rfl hw rfl (ex_pickT hop ((h.new (s := 131) (j := 7) rfl (by decide)).trans (h.rw.gotK 7 (dep_of (a := 7) (by kernel_rfl) h.dep) rfl)) ((h.new (s := 140) (j := 16) rfl (by decide)).trans (h.rw.gotK 16 (dep_of (a := 16) (by kernel_rfl) h.dep) rfl)))

set_option maxRecDepth 100000 in
set_option maxHeartbeats 1000000 in
theorem bitsD_s18 {gA gB a b : Nat} {k j : Int} {WB w : World} {T l : List Value} {L : Array Bool} (Q : Exit → Act → World → Prop) (c : bitsDC gA gB a b k j WB T) (h : VT Tryd.prog bitsDO.1 33 156 bitsDD WB (bitsDK gA gB a b k j) T L l w 18) : wpOp Tryd.prog bitsDO.1 Q 18 (SJ (vaR WB (bitsDK gA gB a b k j)) 33 bitsDD T (L.setIfInBounds 18 true)) (frm2 bitsDD T l) w := by
  obtain ⟨o, ho, hd, hg, hop⟩ := bitsDO18
  have hw := wanted_un (ops := bitsDO.1) (t := (frm2 bitsDD T l).tmps) hg
  exact h.same (v := .bool true) ho hd rfl hw rfl (ex_move hop ((h.new (s := 141) (j := 17) rfl (by decide)).trans (h.rw.gotK 17 (dep_of (a := 17) (by kernel_rfl) h.dep) rfl)))

set_option maxRecDepth 100000 in
set_option maxHeartbeats 1000000 in
theorem bitsD_s19 {gA gB a b : Nat} {k j : Int} {WB w : World} {T l : List Value} {L : Array Bool} (Q : Exit → Act → World → Prop) (c : bitsDC gA gB a b k j WB T) (h : VT Tryd.prog bitsDO.1 33 156 bitsDD WB (bitsDK gA gB a b k j) T L l w 19) : wpOp Tryd.prog bitsDO.1 Q 19 (SJ (vaR WB (bitsDK gA gB a b k j)) 33 bitsDD T (L.setIfInBounds 19 true)) (frm2 bitsDD T l) w := by
  obtain ⟨o, ho, hd, hg, hop⟩ := bitsDO19
  obtain ⟨oj, hj, hdj, -, -⟩ := bitsDO18
  have hw := wanted2_go (T := T) (l := l) hg hj hdj (show slotOf bitsDD 142 = some 18 from rfl) (by rw [h.tl]; decide) (h.rw.gotK 18 (dep_of (a := 18) (by kernel_rfl) h.dep) rfl)
  exact h.same (v := numV (a)) ho hd rfl hw rfl (ex_load_n hop ((h.old (s := 4) rfl (by decide)).trans c.t4) (h.cell c.ca0) (h.cell c.ca1))

set_option maxRecDepth 100000 in
set_option maxHeartbeats 1000000 in
theorem bitsD_s20 {gA gB a b : Nat} {k j : Int} {WB w : World} {T l : List Value} {L : Array Bool} (Q : Exit → Act → World → Prop) (c : bitsDC gA gB a b k j WB T) (h : VT Tryd.prog bitsDO.1 33 156 bitsDD WB (bitsDK gA gB a b k j) T L l w 20) : wpOp Tryd.prog bitsDO.1 Q 20 (SJ (vaR WB (bitsDK gA gB a b k j)) 33 bitsDD T (L.setIfInBounds 20 true)) (frm2 bitsDD T l) w := by
  obtain ⟨o, ho, hd, hg, hop⟩ := bitsDO20
  obtain ⟨oj, hj, hdj, -, -⟩ := bitsDO18
  have hw := wanted2_go (T := T) (l := l) hg hj hdj (show slotOf bitsDD 142 = some 18 from rfl) (by rw [h.tl]; decide) (h.rw.gotK 18 (dep_of (a := 18) (by kernel_rfl) h.dep) rfl)
  exact h.same (v := numV (b)) ho hd rfl hw rfl (ex_load_n hop ((h.old (s := 5) rfl (by decide)).trans c.t5) (h.cell c.cb0) (h.cell c.cb1))

set_option maxRecDepth 100000 in
set_option maxHeartbeats 1000000 in
theorem bitsD_s21 {gA gB a b : Nat} {k j : Int} {WB w : World} {T l : List Value} {L : Array Bool} (Q : Exit → Act → World → Prop) (c : bitsDC gA gB a b k j WB T) (h : VT Tryd.prog bitsDO.1 33 156 bitsDD WB (bitsDK gA gB a b k j) T L l w 21) : wpOp Tryd.prog bitsDO.1 Q 21 (SJ (vaR WB (bitsDK gA gB a b k j)) 33 bitsDD T (L.setIfInBounds 21 true)) (frm2 bitsDD T l) w := by
  obtain ⟨o, ho, hd, hg, hop⟩ := bitsDO21
  obtain ⟨oj, hj, hdj, -, -⟩ := bitsDO18
  have hw := wanted2_go (T := T) (l := l) hg hj hdj (show slotOf bitsDD 142 = some 18 from rfl) (by rw [h.tl]; decide) (h.rw.gotK 18 (dep_of (a := 18) (by kernel_rfl) h.dep) rfl)
  exact h.same (v := .int .i64 k) ho hd rfl hw rfl (ex_move hop ((h.old (s := 2) rfl (by decide)).trans c.t2))

set_option maxRecDepth 100000 in
set_option maxHeartbeats 1000000 in
theorem bitsD_s22 {gA gB a b : Nat} {k j : Int} {WB w : World} {T l : List Value} {L : Array Bool} (Q : Exit → Act → World → Prop) (c : bitsDC gA gB a b k j WB T) (h : VT Tryd.prog bitsDO.1 33 156 bitsDD WB (bitsDK gA gB a b k j) T L l w 22) : wpOp Tryd.prog bitsDO.1 Q 22 (SJ (vaR WB (bitsDK gA gB a b k j)) 33 bitsDD T (L.setIfInBounds 22 true)) (frm2 bitsDD T l) w := by
  obtain ⟨o, ho, hd, hg, hop⟩ := bitsDO22
  obtain ⟨oj, hj, hdj, -, -⟩ := bitsDO18
  have hw := wanted2_go (T := T) (l := l) hg hj hdj (show slotOf bitsDD 142 = some 18 from rfl) (by rw [h.tl]; decide) (h.rw.gotK 18 (dep_of (a := 18) (by kernel_rfl) h.dep) rfl)
  have x143 := ((h.new (s := 143) (j := 19) rfl (by decide)).trans (h.rw.gotK 19 (dep_of (a := 19) (by kernel_rfl) h.dep) rfl))
  have x144 := ((h.new (s := 144) (j := 20) rfl (by decide)).trans (h.rw.gotK 20 (dep_of (a := 20) (by kernel_rfl) h.dep) rfl))
  have x145 := ((h.new (s := 145) (j := 21) rfl (by decide)).trans (h.rw.gotK 21 (dep_of (a := 21) (by kernel_rfl) h.dep) rfl))
  exact h.call (v := numV ((a * 2 ^ sh k % (B * B) % 2 ^ sh 128) ||| (b % 2 ^ sh k))) ho hd rfl hw rfl (ex_call hop rfl rfl (args := #[numV (a), numV (b), .int .i64 k]) (all := #[numV (a), numV (b), .int .i64 k]) (by simp only [List.map_toArray, List.map_cons, List.map_nil]; rw [x143, x144, x145]) (by simp) (fun av W => by kernel_rfl)) (numCat_any a b k w c.la c.lb)

set_option maxRecDepth 100000 in
set_option maxHeartbeats 1000000 in
theorem bitsD_s23 {gA gB a b : Nat} {k j : Int} {WB w : World} {T l : List Value} {L : Array Bool} (Q : Exit → Act → World → Prop) (c : bitsDC gA gB a b k j WB T) (h : VT Tryd.prog bitsDO.1 33 156 bitsDD WB (bitsDK gA gB a b k j) T L l w 23) : wpOp Tryd.prog bitsDO.1 Q 23 (SJ (vaR WB (bitsDK gA gB a b k j)) 33 bitsDD T (L.setIfInBounds 23 true)) (frm2 bitsDD T l) w := by
  obtain ⟨o, ho, hd, hg, hop⟩ := bitsDO23
  obtain ⟨oj, hj, hdj, -, -⟩ := bitsDO18
  have hw := wanted2_go (T := T) (l := l) hg hj hdj (show slotOf bitsDD 142 = some 18 from rfl) (by rw [h.tl]; decide) (h.rw.gotK 18 (dep_of (a := 18) (by kernel_rfl) h.dep) rfl)
  exact h.same (v := numV (a)) ho hd rfl hw rfl (ex_load_n hop ((h.old (s := 4) rfl (by decide)).trans c.t4) (h.cell c.ca0) (h.cell c.ca1))

set_option maxRecDepth 100000 in
set_option maxHeartbeats 1000000 in
theorem bitsD_s24 {gA gB a b : Nat} {k j : Int} {WB w : World} {T l : List Value} {L : Array Bool} (Q : Exit → Act → World → Prop) (c : bitsDC gA gB a b k j WB T) (h : VT Tryd.prog bitsDO.1 33 156 bitsDD WB (bitsDK gA gB a b k j) T L l w 24) : wpOp Tryd.prog bitsDO.1 Q 24 (SJ (vaR WB (bitsDK gA gB a b k j)) 33 bitsDD T (L.setIfInBounds 24 true)) (frm2 bitsDD T l) w := by
  obtain ⟨o, ho, hd, hg, hop⟩ := bitsDO24
  obtain ⟨oj, hj, hdj, -, -⟩ := bitsDO18
  have hw := wanted2_go (T := T) (l := l) hg hj hdj (show slotOf bitsDD 142 = some 18 from rfl) (by rw [h.tl]; decide) (h.rw.gotK 18 (dep_of (a := 18) (by kernel_rfl) h.dep) rfl)
  exact h.same (v := numV (b)) ho hd rfl hw rfl (ex_load_n hop ((h.old (s := 5) rfl (by decide)).trans c.t5) (h.cell c.cb0) (h.cell c.cb1))

set_option maxRecDepth 100000 in
set_option maxHeartbeats 1000000 in
theorem bitsD_s25 {gA gB a b : Nat} {k j : Int} {WB w : World} {T l : List Value} {L : Array Bool} (Q : Exit → Act → World → Prop) (c : bitsDC gA gB a b k j WB T) (h : VT Tryd.prog bitsDO.1 33 156 bitsDD WB (bitsDK gA gB a b k j) T L l w 25) : wpOp Tryd.prog bitsDO.1 Q 25 (SJ (vaR WB (bitsDK gA gB a b k j)) 33 bitsDD T (L.setIfInBounds 25 true)) (frm2 bitsDD T l) w := by
  obtain ⟨o, ho, hd, hg, hop⟩ := bitsDO25
  obtain ⟨oj, hj, hdj, -, -⟩ := bitsDO18
  have hw := wanted2_go (T := T) (l := l) hg hj hdj (show slotOf bitsDD 142 = some 18 from rfl) (by rw [h.tl]; decide) (h.rw.gotK 18 (dep_of (a := 18) (by kernel_rfl) h.dep) rfl)
  exact h.same (v := .int .i64 k) ho hd rfl hw rfl (ex_move hop ((h.old (s := 2) rfl (by decide)).trans c.t2))

set_option maxRecDepth 100000 in
set_option maxHeartbeats 1000000 in
theorem bitsD_s26 {gA gB a b : Nat} {k j : Int} {WB w : World} {T l : List Value} {L : Array Bool} (Q : Exit → Act → World → Prop) (c : bitsDC gA gB a b k j WB T) (h : VT Tryd.prog bitsDO.1 33 156 bitsDD WB (bitsDK gA gB a b k j) T L l w 26) : wpOp Tryd.prog bitsDO.1 Q 26 (SJ (vaR WB (bitsDK gA gB a b k j)) 33 bitsDD T (L.setIfInBounds 26 true)) (frm2 bitsDD T l) w := by
  obtain ⟨o, ho, hd, hg, hop⟩ := bitsDO26
  obtain ⟨oj, hj, hdj, -, -⟩ := bitsDO18
  have hw := wanted2_go (T := T) (l := l) hg hj hdj (show slotOf bitsDD 142 = some 18 from rfl) (by rw [h.tl]; decide) (h.rw.gotK 18 (dep_of (a := 18) (by kernel_rfl) h.dep) rfl)
  have x147 := ((h.new (s := 147) (j := 23) rfl (by decide)).trans (h.rw.gotK 23 (dep_of (a := 23) (by kernel_rfl) h.dep) rfl))
  have x148 := ((h.new (s := 148) (j := 24) rfl (by decide)).trans (h.rw.gotK 24 (dep_of (a := 24) (by kernel_rfl) h.dep) rfl))
  have x149 := ((h.new (s := 149) (j := 25) rfl (by decide)).trans (h.rw.gotK 25 (dep_of (a := 25) (by kernel_rfl) h.dep) rfl))
  exact h.call (v := numV (catN a b k)) ho hd rfl hw rfl (ex_call hop rfl rfl (args := #[numV (a), numV (b), .int .i64 k]) (all := #[numV (a), numV (b), .int .i64 k]) (by simp only [List.map_toArray, List.map_cons, List.map_nil]; rw [x147, x148, x149]) (by simp) (fun av W => by kernel_rfl)) (refCat_any a b k c.la c.lb w)

set_option maxRecDepth 100000 in
set_option maxHeartbeats 1000000 in
theorem bitsD_s27 {gA gB a b : Nat} {k j : Int} {WB w : World} {T l : List Value} {L : Array Bool} (Q : Exit → Act → World → Prop) (c : bitsDC gA gB a b k j WB T) (h : VT Tryd.prog bitsDO.1 33 156 bitsDD WB (bitsDK gA gB a b k j) T L l w 27) : wpOp Tryd.prog bitsDO.1 Q 27 (SJ (vaR WB (bitsDK gA gB a b k j)) 33 bitsDD T (L.setIfInBounds 27 true)) (frm2 bitsDD T l) w := by
  obtain ⟨o, ho, hd, hg, hop⟩ := bitsDO27
  obtain ⟨oj, hj, hdj, -, -⟩ := bitsDO18
  have hw := wanted2_go (T := T) (l := l) hg hj hdj (show slotOf bitsDD 142 = some 18 from rfl) (by rw [h.tl]; decide) (h.rw.gotK 18 (dep_of (a := 18) (by kernel_rfl) h.dep) rfl)
  exact h.same (v := .bool true) ho hd rfl hw rfl (ex_eqlN hop ((h.new (s := 146) (j := 22) rfl (by decide)).trans (h.rw.gotK 22 (dep_of (a := 22) (by kernel_rfl) h.dep) rfl)) ((h.new (s := 150) (j := 26) rfl (by decide)).trans (h.rw.gotK 26 (dep_of (a := 26) (by kernel_rfl) h.dep) rfl)) (rfl))

set_option maxRecDepth 100000 in
set_option maxHeartbeats 1000000 in
theorem bitsD_s28 {gA gB a b : Nat} {k j : Int} {WB w : World} {T l : List Value} {L : Array Bool} (Q : Exit → Act → World → Prop) (c : bitsDC gA gB a b k j WB T) (h : VT Tryd.prog bitsDO.1 33 156 bitsDD WB (bitsDK gA gB a b k j) T L l w 28) : wpOp Tryd.prog bitsDO.1 Q 28 (SJ (vaR WB (bitsDK gA gB a b k j)) 33 bitsDD T (L.setIfInBounds 28 true)) (frm2 bitsDD T l) w := by
  obtain ⟨o, ho, hd, hg, hop⟩ := bitsDO28
  have hw := wanted_un (ops := bitsDO.1) (t := (frm2 bitsDD T l).tmps) hg
  exact h.same (v := .bool true) ho hd rfl hw rfl (ex_pickT hop ((h.new (s := 142) (j := 18) rfl (by decide)).trans (h.rw.gotK 18 (dep_of (a := 18) (by kernel_rfl) h.dep) rfl)) ((h.new (s := 151) (j := 27) rfl (by decide)).trans (h.rw.gotK 27 (dep_of (a := 27) (by kernel_rfl) h.dep) rfl)))

set_option maxRecDepth 100000 in
set_option maxHeartbeats 1000000 in
theorem bitsD_s29 {gA gB a b : Nat} {k j : Int} {WB w : World} {T l : List Value} {L : Array Bool} (Q : Exit → Act → World → Prop) (c : bitsDC gA gB a b k j WB T) (h : VT Tryd.prog bitsDO.1 33 156 bitsDD WB (bitsDK gA gB a b k j) T L l w 29) : wpOp Tryd.prog bitsDO.1 Q 29 (SJ (vaR WB (bitsDK gA gB a b k j)) 33 bitsDD T (L.setIfInBounds 29 true)) (frm2 bitsDD T l) w := by
  obtain ⟨o, ho, hd, hg, hop⟩ := bitsDO29
  have hw := wanted_un (ops := bitsDO.1) (t := (frm2 bitsDD T l).tmps) hg
  exact h.same (v := .bool true) ho hd rfl hw rfl (ex_move hop ((h.new (s := 152) (j := 28) rfl (by decide)).trans (h.rw.gotK 28 (dep_of (a := 28) (by kernel_rfl) h.dep) rfl)))

set_option maxRecDepth 100000 in
set_option maxHeartbeats 1000000 in
theorem bitsD_s30 {gA gB a b : Nat} {k j : Int} {WB w : World} {T l : List Value} {L : Array Bool} (Q : Exit → Act → World → Prop) (c : bitsDC gA gB a b k j WB T) (h : VT Tryd.prog bitsDO.1 33 156 bitsDD WB (bitsDK gA gB a b k j) T L l w 30) : wpOp Tryd.prog bitsDO.1 Q 30 (SJ (vaR WB (bitsDK gA gB a b k j)) 33 bitsDD T (L.setIfInBounds 30 true)) (frm2 bitsDD T l) w := by
  obtain ⟨o, ho, hd, hg, hop⟩ := bitsDO30
  obtain ⟨oj, hj, hdj, -, -⟩ := bitsDO29
  have hw := wanted2_go (T := T) (l := l) hg hj hdj (show slotOf bitsDD 153 = some 29 from rfl) (by rw [h.tl]; decide) (h.rw.gotK 29 (dep_of (a := 29) (by kernel_rfl) h.dep) rfl)
  exact h.call (v := .bool true) ho hd rfl hw rfl (ex_call hop rfl rfl (args := #[]) (all := #[]) (by simp) (by simp) (fun av W => by kernel_rfl)) (known01 w)

set_option maxRecDepth 100000 in
set_option maxHeartbeats 1000000 in
theorem bitsD_s31 {gA gB a b : Nat} {k j : Int} {WB w : World} {T l : List Value} {L : Array Bool} (Q : Exit → Act → World → Prop) (c : bitsDC gA gB a b k j WB T) (h : VT Tryd.prog bitsDO.1 33 156 bitsDD WB (bitsDK gA gB a b k j) T L l w 31) : wpOp Tryd.prog bitsDO.1 Q 31 (SJ (vaR WB (bitsDK gA gB a b k j)) 33 bitsDD T (L.setIfInBounds 31 true)) (frm2 bitsDD T l) w := by
  obtain ⟨o, ho, hd, hg, hop⟩ := bitsDO31
  have hw := wanted_un (ops := bitsDO.1) (t := (frm2 bitsDD T l).tmps) hg
  exact h.same (v := .bool true) ho hd rfl hw rfl (ex_pickT hop ((h.new (s := 153) (j := 29) rfl (by decide)).trans (h.rw.gotK 29 (dep_of (a := 29) (by kernel_rfl) h.dep) rfl)) ((h.new (s := 154) (j := 30) rfl (by decide)).trans (h.rw.gotK 30 (dep_of (a := 30) (by kernel_rfl) h.dep) rfl)))

set_option maxRecDepth 100000 in
set_option maxHeartbeats 1000000 in
theorem bitsD_s32 {gA gB a b : Nat} {k j : Int} {WB w : World} {T l : List Value} {L : Array Bool} (Q : Exit → Act → World → Prop) (c : bitsDC gA gB a b k j WB T) (h : VT Tryd.prog bitsDO.1 33 156 bitsDD WB (bitsDK gA gB a b k j) T L l w 32) : wpOp Tryd.prog bitsDO.1 Q 32 (SJ (vaR WB (bitsDK gA gB a b k j)) 33 bitsDD T (L.setIfInBounds 32 true)) (frm2 bitsDD T l) w := by
  obtain ⟨o, ho, hd, hg, hop⟩ := bitsDO32
  have hw := wanted_un (ops := bitsDO.1) (t := (frm2 bitsDD T l).tmps) hg
  exact h.same (v := .bool true) ho hd rfl hw rfl (ex_assign hop ((h.new (s := 155) (j := 31) rfl (by decide)).trans (h.rw.gotK 31 (dep_of (a := 31) (by kernel_rfl) h.dep) rfl)))

set_option maxRecDepth 100000 in
set_option maxHeartbeats 4000000 in
theorem bitsD (gA gB a b : Nat) (k j : Int) (WB : World)
    (ca0 : Hid (WB.cell? ⟨gA, 0, none⟩ = some (.int .u64 ((a / B : Nat) : Int))))
    (ca1 : Hid (WB.cell? ⟨gA, 1, none⟩ = some (.int .u64 ((a % B : Nat) : Int))))
    (cb0 : Hid (WB.cell? ⟨gB, 0, none⟩ = some (.int .u64 ((b / B : Nat) : Int))))
    (cb1 : Hid (WB.cell? ⟨gB, 1, none⟩ = some (.int .u64 ((b % B : Nat) : Int))))
    (la : Hid (a < B * B))
    (lb : Hid (b < B * B))
    (lj : Hid (j ≤ 9223372036854775807))
    (s0 s1 s6 s7 s8 s9 s10 s11 s12 s13 s14 s15 s16 s17 s18 s19 s20 s21 s22 s23 s24 s25 s26 s27 s28 s29 s30 s31 s32 s33 s34 s35 s36 s37 s38 s39 s40 s41 s42 s43 s44 s45 s46 s47 s48 s49 s50 s51 s52 s53 s54 s55 s56 s57 s58 s59 s60 s61 s62 s63 s64 s65 s66 s67 s68 s69 s70 s71 s72 s73 s74 s75 s76 s77 s78 s79 s80 s81 s82 s83 s84 s85 s86 s87 s88 s89 s90 s91 s92 s93 s94 s95 s96 s97 s98 s99 s100 s101 s102 s103 s104 s105 s106 s107 s108 s109 s110 s111 s112 s113 s114 s115 s116 s117 s118 s119 s120 s121 s122 s123 s124 s125 s126 s127 s128 s129 s130 s131 s132 s133 s134 s135 s136 s137 s138 s139 s140 s141 s142 s143 s144 s145 s146 s147 s148 s149 s150 s151 s152 s153 s154 s155 : Value) (Q : Exit → Act → World → Prop)
    (hexit : ∀ (w' : World), Below WB.heap.size WB w' → Q .normal ⟨#[s0, s1, .int .i64 k, .int .i64 j, .pointer (some ⟨gA, 0, none⟩), .pointer (some ⟨gB, 0, none⟩), s6, s7, .bool true, s9, s10, s11, s12, s13, s14, s15, s16, s17, s18, s19, s20, s21, s22, s23, s24, s25, s26, s27, s28, s29, s30, s31, s32, s33, s34, s35, s36, s37, s38, s39, s40, s41, s42, s43, s44, s45, s46, s47, s48, s49, s50, s51, s52, s53, s54, s55, s56, s57, s58, s59, s60, s61, s62, s63, s64, s65, s66, s67, s68, s69, s70, s71, s72, s73, s74, s75, s76, s77, s78, s79, s80, s81, s82, s83, s84, s85, s86, s87, s88, s89, s90, s91, s92, s93, s94, s95, s96, s97, s98, s99, s100, s101, s102, s103, s104, s105, s106, s107, s108, s109, s110, s111, s112, s113, s114, s115, s116, s117, s118, s119, s120, s121, s122, s123, numV (a), .int .i64 j, .bool (bitB a j), numV (a), .int .i64 j, .bool (bitB a j), .bool true, .bool true, numV (a), .int .i64 k, .int .i64 j, numV (sliceN a k j), numV (a), .int .i64 k, .int .i64 j, numV (sliceN a k j), .bool true, .bool true, .bool true, numV (a), numV (b), .int .i64 k, numV ((a * 2 ^ sh k % (B * B) % 2 ^ sh 128) ||| (b % 2 ^ sh k)), numV (a), numV (b), .int .i64 k, numV (catN a b k), .bool true, .bool true, .bool true, .bool true, .bool true], []⟩ w') :
    Code.wp Tryd.prog ((Tryd.f5.body.bind (findRegion 7)).getD .skip) Q ⟨#[s0, s1, .int .i64 k, .int .i64 j, .pointer (some ⟨gA, 0, none⟩), .pointer (some ⟨gB, 0, none⟩), s6, s7, s8, s9, s10, s11, s12, s13, s14, s15, s16, s17, s18, s19, s20, s21, s22, s23, s24, s25, s26, s27, s28, s29, s30, s31, s32, s33, s34, s35, s36, s37, s38, s39, s40, s41, s42, s43, s44, s45, s46, s47, s48, s49, s50, s51, s52, s53, s54, s55, s56, s57, s58, s59, s60, s61, s62, s63, s64, s65, s66, s67, s68, s69, s70, s71, s72, s73, s74, s75, s76, s77, s78, s79, s80, s81, s82, s83, s84, s85, s86, s87, s88, s89, s90, s91, s92, s93, s94, s95, s96, s97, s98, s99, s100, s101, s102, s103, s104, s105, s106, s107, s108, s109, s110, s111, s112, s113, s114, s115, s116, s117, s118, s119, s120, s121, s122, s123, s124, s125, s126, s127, s128, s129, s130, s131, s132, s133, s134, s135, s136, s137, s138, s139, s140, s141, s142, s143, s144, s145, s146, s147, s148, s149, s150, s151, s152, s153, s154, s155], []⟩ WB := by
  have c : bitsDC gA gB a b k j WB [s0, s1, .int .i64 k, .int .i64 j, .pointer (some ⟨gA, 0, none⟩), .pointer (some ⟨gB, 0, none⟩), s6, s7, s8, s9, s10, s11, s12, s13, s14, s15, s16, s17, s18, s19, s20, s21, s22, s23, s24, s25, s26, s27, s28, s29, s30, s31, s32, s33, s34, s35, s36, s37, s38, s39, s40, s41, s42, s43, s44, s45, s46, s47, s48, s49, s50, s51, s52, s53, s54, s55, s56, s57, s58, s59, s60, s61, s62, s63, s64, s65, s66, s67, s68, s69, s70, s71, s72, s73, s74, s75, s76, s77, s78, s79, s80, s81, s82, s83, s84, s85, s86, s87, s88, s89, s90, s91, s92, s93, s94, s95, s96, s97, s98, s99, s100, s101, s102, s103, s104, s105, s106, s107, s108, s109, s110, s111, s112, s113, s114, s115, s116, s117, s118, s119, s120, s121, s122, s123, s124, s125, s126, s127, s128, s129, s130, s131, s132, s133, s134, s135, s136, s137, s138, s139, s140, s141, s142, s143, s144, s145, s146, s147, s148, s149, s150, s151, s152, s153, s154, s155] := { tl := rfl, t2 := rfl, t3 := rfl, t4 := rfl, t5 := rfl, ca0 := ca0.out, ca1 := ca1.out, cb0 := cb0.out, cb1 := cb1.out, la := la.out, lb := lb.out, lj := lj.out }
  have h0 : (⟨#[s0, s1, .int .i64 k, .int .i64 j, .pointer (some ⟨gA, 0, none⟩), .pointer (some ⟨gB, 0, none⟩), s6, s7, s8, s9, s10, s11, s12, s13, s14, s15, s16, s17, s18, s19, s20, s21, s22, s23, s24, s25, s26, s27, s28, s29, s30, s31, s32, s33, s34, s35, s36, s37, s38, s39, s40, s41, s42, s43, s44, s45, s46, s47, s48, s49, s50, s51, s52, s53, s54, s55, s56, s57, s58, s59, s60, s61, s62, s63, s64, s65, s66, s67, s68, s69, s70, s71, s72, s73, s74, s75, s76, s77, s78, s79, s80, s81, s82, s83, s84, s85, s86, s87, s88, s89, s90, s91, s92, s93, s94, s95, s96, s97, s98, s99, s100, s101, s102, s103, s104, s105, s106, s107, s108, s109, s110, s111, s112, s113, s114, s115, s116, s117, s118, s119, s120, s121, s122, s123, s124, s125, s126, s127, s128, s129, s130, s131, s132, s133, s134, s135, s136, s137, s138, s139, s140, s141, s142, s143, s144, s145, s146, s147, s148, s149, s150, s151, s152, s153, s154, s155], []⟩ : Act) = frm2 bitsDD [s0, s1, .int .i64 k, .int .i64 j, .pointer (some ⟨gA, 0, none⟩), .pointer (some ⟨gB, 0, none⟩), s6, s7, s8, s9, s10, s11, s12, s13, s14, s15, s16, s17, s18, s19, s20, s21, s22, s23, s24, s25, s26, s27, s28, s29, s30, s31, s32, s33, s34, s35, s36, s37, s38, s39, s40, s41, s42, s43, s44, s45, s46, s47, s48, s49, s50, s51, s52, s53, s54, s55, s56, s57, s58, s59, s60, s61, s62, s63, s64, s65, s66, s67, s68, s69, s70, s71, s72, s73, s74, s75, s76, s77, s78, s79, s80, s81, s82, s83, s84, s85, s86, s87, s88, s89, s90, s91, s92, s93, s94, s95, s96, s97, s98, s99, s100, s101, s102, s103, s104, s105, s106, s107, s108, s109, s110, s111, s112, s113, s114, s115, s116, s117, s118, s119, s120, s121, s122, s123, s124, s125, s126, s127, s128, s129, s130, s131, s132, s133, s134, s135, s136, s137, s138, s139, s140, s141, s142, s143, s144, s145, s146, s147, s148, s149, s150, s151, s152, s153, s154, s155] [s124, s125, s126, s127, s128, s129, s130, s131, s132, s133, s134, s135, s136, s137, s138, s139, s140, s141, s142, s143, s144, s145, s146, s147, s148, s149, s150, s151, s152, s153, s154, s155, s8] := rfl
  have hend : ∀ f : Nat → Value, frm2 bitsDD [s0, s1, .int .i64 k, .int .i64 j, .pointer (some ⟨gA, 0, none⟩), .pointer (some ⟨gB, 0, none⟩), s6, s7, s8, s9, s10, s11, s12, s13, s14, s15, s16, s17, s18, s19, s20, s21, s22, s23, s24, s25, s26, s27, s28, s29, s30, s31, s32, s33, s34, s35, s36, s37, s38, s39, s40, s41, s42, s43, s44, s45, s46, s47, s48, s49, s50, s51, s52, s53, s54, s55, s56, s57, s58, s59, s60, s61, s62, s63, s64, s65, s66, s67, s68, s69, s70, s71, s72, s73, s74, s75, s76, s77, s78, s79, s80, s81, s82, s83, s84, s85, s86, s87, s88, s89, s90, s91, s92, s93, s94, s95, s96, s97, s98, s99, s100, s101, s102, s103, s104, s105, s106, s107, s108, s109, s110, s111, s112, s113, s114, s115, s116, s117, s118, s119, s120, s121, s122, s123, s124, s125, s126, s127, s128, s129, s130, s131, s132, s133, s134, s135, s136, s137, s138, s139, s140, s141, s142, s143, s144, s145, s146, s147, s148, s149, s150, s151, s152, s153, s154, s155] ((List.range 33).map f) = ⟨#[s0, s1, .int .i64 k, .int .i64 j, .pointer (some ⟨gA, 0, none⟩), .pointer (some ⟨gB, 0, none⟩), s6, s7, f 32, s9, s10, s11, s12, s13, s14, s15, s16, s17, s18, s19, s20, s21, s22, s23, s24, s25, s26, s27, s28, s29, s30, s31, s32, s33, s34, s35, s36, s37, s38, s39, s40, s41, s42, s43, s44, s45, s46, s47, s48, s49, s50, s51, s52, s53, s54, s55, s56, s57, s58, s59, s60, s61, s62, s63, s64, s65, s66, s67, s68, s69, s70, s71, s72, s73, s74, s75, s76, s77, s78, s79, s80, s81, s82, s83, s84, s85, s86, s87, s88, s89, s90, s91, s92, s93, s94, s95, s96, s97, s98, s99, s100, s101, s102, s103, s104, s105, s106, s107, s108, s109, s110, s111, s112, s113, s114, s115, s116, s117, s118, s119, s120, s121, s122, s123, f 0, f 1, f 2, f 3, f 4, f 5, f 6, f 7, f 8, f 9, f 10, f 11, f 12, f 13, f 14, f 15, f 16, f 17, f 18, f 19, f 20, f 21, f 22, f 23, f 24, f 25, f 26, f 27, f 28, f 29, f 30, f 31], []⟩ := fun f => rfl
  rw [h0]
  clear h0
  have hex : ∀ (f : Nat → Value) (w' : World), f 0 = numV (a) → f 1 = .int .i64 j → f 2 = .bool (bitB a j) → f 3 = numV (a) → f 4 = .int .i64 j → f 5 = .bool (bitB a j) → f 6 = .bool true → f 7 = .bool true → f 8 = numV (a) → f 9 = .int .i64 k → f 10 = .int .i64 j → f 11 = numV (sliceN a k j) → f 12 = numV (a) → f 13 = .int .i64 k → f 14 = .int .i64 j → f 15 = numV (sliceN a k j) → f 16 = .bool true → f 17 = .bool true → f 18 = .bool true → f 19 = numV (a) → f 20 = numV (b) → f 21 = .int .i64 k → f 22 = numV ((a * 2 ^ sh k % (B * B) % 2 ^ sh 128) ||| (b % 2 ^ sh k)) → f 23 = numV (a) → f 24 = numV (b) → f 25 = .int .i64 k → f 26 = numV (catN a b k) → f 27 = .bool true → f 28 = .bool true → f 29 = .bool true → f 30 = .bool true → f 31 = .bool true → f 32 = .bool true → Below WB.heap.size WB w' → Q .normal ⟨#[s0, s1, .int .i64 k, .int .i64 j, .pointer (some ⟨gA, 0, none⟩), .pointer (some ⟨gB, 0, none⟩), s6, s7, f 32, s9, s10, s11, s12, s13, s14, s15, s16, s17, s18, s19, s20, s21, s22, s23, s24, s25, s26, s27, s28, s29, s30, s31, s32, s33, s34, s35, s36, s37, s38, s39, s40, s41, s42, s43, s44, s45, s46, s47, s48, s49, s50, s51, s52, s53, s54, s55, s56, s57, s58, s59, s60, s61, s62, s63, s64, s65, s66, s67, s68, s69, s70, s71, s72, s73, s74, s75, s76, s77, s78, s79, s80, s81, s82, s83, s84, s85, s86, s87, s88, s89, s90, s91, s92, s93, s94, s95, s96, s97, s98, s99, s100, s101, s102, s103, s104, s105, s106, s107, s108, s109, s110, s111, s112, s113, s114, s115, s116, s117, s118, s119, s120, s121, s122, s123, f 0, f 1, f 2, f 3, f 4, f 5, f 6, f 7, f 8, f 9, f 10, f 11, f 12, f 13, f 14, f 15, f 16, f 17, f 18, f 19, f 20, f 21, f 22, f 23, f 24, f 25, f 26, f 27, f 28, f 29, f 30, f 31], []⟩ w' := by
    intro f w' e0 e1 e2 e3 e4 e5 e6 e7 e8 e9 e10 e11 e12 e13 e14 e15 e16 e17 e18 e19 e20 e21 e22 e23 e24 e25 e26 e27 e28 e29 e30 e31 e32 a
    rw [e0, e1, e2, e3, e4, e5, e6, e7, e8, e9, e10, e11, e12, e13, e14, e15, e16, e17, e18, e19, e20, e21, e22, e23, e24, e25, e26, e27, e28, e29, e30, e31, e32]
    exact hexit w' a
  clear hexit
  generalize [s0, s1, .int .i64 k, .int .i64 j, .pointer (some ⟨gA, 0, none⟩), .pointer (some ⟨gB, 0, none⟩), s6, s7, s8, s9, s10, s11, s12, s13, s14, s15, s16, s17, s18, s19, s20, s21, s22, s23, s24, s25, s26, s27, s28, s29, s30, s31, s32, s33, s34, s35, s36, s37, s38, s39, s40, s41, s42, s43, s44, s45, s46, s47, s48, s49, s50, s51, s52, s53, s54, s55, s56, s57, s58, s59, s60, s61, s62, s63, s64, s65, s66, s67, s68, s69, s70, s71, s72, s73, s74, s75, s76, s77, s78, s79, s80, s81, s82, s83, s84, s85, s86, s87, s88, s89, s90, s91, s92, s93, s94, s95, s96, s97, s98, s99, s100, s101, s102, s103, s104, s105, s106, s107, s108, s109, s110, s111, s112, s113, s114, s115, s116, s117, s118, s119, s120, s121, s122, s123, s124, s125, s126, s127, s128, s129, s130, s131, s132, s133, s134, s135, s136, s137, s138, s139, s140, s141, s142, s143, s144, s145, s146, s147, s148, s149, s150, s151, s152, s153, s154, s155] = T at *
  rw [bitsDO.2]
  show Code.wp Tryd.prog (.region 7 bitsDO.1 true) Q _ WB
  refine wp_region_inv2 (by kernel_rfl) (SJ (vaR WB (bitsDK gA gB a b k j)) 33 bitsDD T) ?_ ?_ ?_ ?_
  · exact ⟨_, rfl, by rw [bitsDO_size]; simp, rfl, RW.init (fun i => did_none _ _) (Nat.le_refl _) (below_drewN (Below.refl _ _) 1)⟩
  · rintro L a w i hL hi hnd hdep ⟨l, hl, hLn, rfl, hI⟩
    have ht : VT Tryd.prog bitsDO.1 33 156 bitsDD WB (bitsDK gA gB a b k j) T L l w i := ⟨c.tl, bitsDK_free, hl, hLn, hi, hnd, hI, hdep⟩
    match i, hi with
    | 0, _ => exact bitsD_s0 Q c ht
    | 1, _ => exact bitsD_s1 Q c ht
    | 2, _ => exact bitsD_s2 Q c ht
    | 3, _ => exact bitsD_s3 Q c ht
    | 4, _ => exact bitsD_s4 Q c ht
    | 5, _ => exact bitsD_s5 Q c ht
    | 6, _ => exact bitsD_s6 Q c ht
    | 7, _ => exact bitsD_s7 Q c ht
    | 8, _ => exact bitsD_s8 Q c ht
    | 9, _ => exact bitsD_s9 Q c ht
    | 10, _ => exact bitsD_s10 Q c ht
    | 11, _ => exact bitsD_s11 Q c ht
    | 12, _ => exact bitsD_s12 Q c ht
    | 13, _ => exact bitsD_s13 Q c ht
    | 14, _ => exact bitsD_s14 Q c ht
    | 15, _ => exact bitsD_s15 Q c ht
    | 16, _ => exact bitsD_s16 Q c ht
    | 17, _ => exact bitsD_s17 Q c ht
    | 18, _ => exact bitsD_s18 Q c ht
    | 19, _ => exact bitsD_s19 Q c ht
    | 20, _ => exact bitsD_s20 Q c ht
    | 21, _ => exact bitsD_s21 Q c ht
    | 22, _ => exact bitsD_s22 Q c ht
    | 23, _ => exact bitsD_s23 Q c ht
    | 24, _ => exact bitsD_s24 Q c ht
    | 25, _ => exact bitsD_s25 Q c ht
    | 26, _ => exact bitsD_s26 Q c ht
    | 27, _ => exact bitsD_s27 Q c ht
    | 28, _ => exact bitsD_s28 Q c ht
    | 29, _ => exact bitsD_s29 Q c ht
    | 30, _ => exact bitsD_s30 Q c ht
    | 31, _ => exact bitsD_s31 Q c ht
    | 32, _ => exact bitsD_s32 Q c ht
    | i + 33, hi => exact absurd hi (by rw [bitsDO_size]; omega)
  · exact bitsDO_back
  · rintro L a w hall ⟨l, hl, hLn, rfl, hI⟩
    have h1 := hend (nth l)
    rw [list_nth hl] at h1
    rw [h1]
    exact hex (nth l) w (hI.gotK 0 (hall 0 (by rw [bitsDO_size]; decide)) rfl) (hI.gotK 1 (hall 1 (by rw [bitsDO_size]; decide)) rfl) (hI.gotK 2 (hall 2 (by rw [bitsDO_size]; decide)) rfl) (hI.gotK 3 (hall 3 (by rw [bitsDO_size]; decide)) rfl) (hI.gotK 4 (hall 4 (by rw [bitsDO_size]; decide)) rfl) (hI.gotK 5 (hall 5 (by rw [bitsDO_size]; decide)) rfl) (hI.gotK 6 (hall 6 (by rw [bitsDO_size]; decide)) rfl) (hI.gotK 7 (hall 7 (by rw [bitsDO_size]; decide)) rfl) (hI.gotK 8 (hall 8 (by rw [bitsDO_size]; decide)) rfl) (hI.gotK 9 (hall 9 (by rw [bitsDO_size]; decide)) rfl) (hI.gotK 10 (hall 10 (by rw [bitsDO_size]; decide)) rfl) (hI.gotK 11 (hall 11 (by rw [bitsDO_size]; decide)) rfl) (hI.gotK 12 (hall 12 (by rw [bitsDO_size]; decide)) rfl) (hI.gotK 13 (hall 13 (by rw [bitsDO_size]; decide)) rfl) (hI.gotK 14 (hall 14 (by rw [bitsDO_size]; decide)) rfl) (hI.gotK 15 (hall 15 (by rw [bitsDO_size]; decide)) rfl) (hI.gotK 16 (hall 16 (by rw [bitsDO_size]; decide)) rfl) (hI.gotK 17 (hall 17 (by rw [bitsDO_size]; decide)) rfl) (hI.gotK 18 (hall 18 (by rw [bitsDO_size]; decide)) rfl) (hI.gotK 19 (hall 19 (by rw [bitsDO_size]; decide)) rfl) (hI.gotK 20 (hall 20 (by rw [bitsDO_size]; decide)) rfl) (hI.gotK 21 (hall 21 (by rw [bitsDO_size]; decide)) rfl) (hI.gotK 22 (hall 22 (by rw [bitsDO_size]; decide)) rfl) (hI.gotK 23 (hall 23 (by rw [bitsDO_size]; decide)) rfl) (hI.gotK 24 (hall 24 (by rw [bitsDO_size]; decide)) rfl) (hI.gotK 25 (hall 25 (by rw [bitsDO_size]; decide)) rfl) (hI.gotK 26 (hall 26 (by rw [bitsDO_size]; decide)) rfl) (hI.gotK 27 (hall 27 (by rw [bitsDO_size]; decide)) rfl) (hI.gotK 28 (hall 28 (by rw [bitsDO_size]; decide)) rfl) (hI.gotK 29 (hall 29 (by rw [bitsDO_size]; decide)) rfl) (hI.gotK 30 (hall 30 (by rw [bitsDO_size]; decide)) rfl) (hI.gotK 31 (hall 31 (by rw [bitsDO_size]; decide)) rfl) (hI.gotK 32 (hall 32 (by rw [bitsDO_size]; decide)) rfl) hI.glob

end Go.Proofs.YtfalhemeiengcaaDoor
