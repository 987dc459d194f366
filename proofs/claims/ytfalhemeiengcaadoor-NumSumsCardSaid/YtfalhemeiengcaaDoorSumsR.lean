/-
  The drawn regions of the law NumSums.
-/
import Derived.Test.YtfalhemeiengcaaDoorSumsX
namespace Go.Proofs.YtfalhemeiengcaaDoor
open Go.RowKit Go.Maps

abbrev sumsAD : List (Option Nat) := [some 24, some 25, some 26, some 27, some 28, some 29, some 30, some 31, some 32, some 33, some 34, some 35, some 36, some 37, some 38, some 39, some 40, some 41, some 42, some 43, some 44, some 45, some 46, some 47, some 48, some 49, some 50, some 51, some 52, some 53, some 54, some 55, some 56, some 57, some 58, some 59, some 60]
noncomputable def sumsAO : { c : Array Oper // (Tryd.f4.body.bind (findRegion 3)) = some (.region 3 c true) } := ⟨_, rfl⟩
theorem sumsAO_size : sumsAO.1.size = 37 := rfl
theorem sumsAO0 : ∃ o, sumsAO.1[0]? = some o ∧ o.dst = some 24 ∧ o.guard = none ∧ o.op = Go.Op.load 24 (Go.Operand.tmp 4) := ⟨_, rfl, rfl, rfl, rfl⟩
theorem sumsAO1 : ∃ o, sumsAO.1[1]? = some o ∧ o.dst = some 25 ∧ o.guard = none ∧ o.op = Go.Op.load 24 (Go.Operand.tmp 5) := ⟨_, rfl, rfl, rfl, rfl⟩
theorem sumsAO2 : ∃ o, sumsAO.1[2]? = some o ∧ o.dst = some 26 ∧ o.guard = none ∧ o.op = Go.Op.move (Go.Operand.tmp 3) := ⟨_, rfl, rfl, rfl, rfl⟩
theorem sumsAO3 : ∃ o, sumsAO.1[3]? = some o ∧ o.dst = some 27 ∧ o.guard = none ∧ o.op = Go.Op.call { callee := Go.Callee.value (Go.Operand.func 12), args := #[Go.Operand.tmp 24, Go.Operand.tmp 25, Go.Operand.tmp 26], argTypes := #[24, 24, 3] } := ⟨_, rfl, rfl, rfl, rfl⟩
theorem sumsAO4 : ∃ o, sumsAO.1[4]? = some o ∧ o.dst = some 28 ∧ o.guard = none ∧ o.op = Go.Op.load 24 (Go.Operand.tmp 5) := ⟨_, rfl, rfl, rfl, rfl⟩
theorem sumsAO5 : ∃ o, sumsAO.1[5]? = some o ∧ o.dst = some 29 ∧ o.guard = none ∧ o.op = Go.Op.load 24 (Go.Operand.tmp 4) := ⟨_, rfl, rfl, rfl, rfl⟩
theorem sumsAO6 : ∃ o, sumsAO.1[6]? = some o ∧ o.dst = some 30 ∧ o.guard = none ∧ o.op = Go.Op.move (Go.Operand.tmp 3) := ⟨_, rfl, rfl, rfl, rfl⟩
theorem sumsAO7 : ∃ o, sumsAO.1[7]? = some o ∧ o.dst = some 31 ∧ o.guard = none ∧ o.op = Go.Op.call { callee := Go.Callee.value (Go.Operand.func 12), args := #[Go.Operand.tmp 28, Go.Operand.tmp 29, Go.Operand.tmp 30], argTypes := #[24, 24, 3] } := ⟨_, rfl, rfl, rfl, rfl⟩
theorem sumsAO8 : ∃ o, sumsAO.1[8]? = some o ∧ o.dst = some 32 ∧ o.guard = none ∧ o.op = Go.Op.binOp Go.BinOp.neq 24 (Go.Operand.tmp 27) (Go.Operand.tmp 31) 24 := ⟨_, rfl, rfl, rfl, rfl⟩
theorem sumsAO9 : ∃ o, sumsAO.1[9]? = some o ∧ o.dst = some 33 ∧ o.guard = none ∧ o.op = Go.Op.move (Go.Operand.tmp 32) := ⟨_, rfl, rfl, rfl, rfl⟩
theorem sumsAO10 : ∃ o, sumsAO.1[10]? = some o ∧ o.dst = some 34 ∧ o.guard = some (9, false) ∧ o.op = Go.Op.load 24 (Go.Operand.tmp 4) := ⟨_, rfl, rfl, rfl, rfl⟩
theorem sumsAO11 : ∃ o, sumsAO.1[11]? = some o ∧ o.dst = some 35 ∧ o.guard = some (9, false) ∧ o.op = Go.Op.load 24 (Go.Operand.tmp 5) := ⟨_, rfl, rfl, rfl, rfl⟩
theorem sumsAO12 : ∃ o, sumsAO.1[12]? = some o ∧ o.dst = some 36 ∧ o.guard = some (9, false) ∧ o.op = Go.Op.move (Go.Operand.tmp 3) := ⟨_, rfl, rfl, rfl, rfl⟩
theorem sumsAO13 : ∃ o, sumsAO.1[13]? = some o ∧ o.dst = some 37 ∧ o.guard = some (9, false) ∧ o.op = Go.Op.call { callee := Go.Callee.value (Go.Operand.func 12), args := #[Go.Operand.tmp 34, Go.Operand.tmp 35, Go.Operand.tmp 36], argTypes := #[24, 24, 3] } := ⟨_, rfl, rfl, rfl, rfl⟩
theorem sumsAO14 : ∃ o, sumsAO.1[14]? = some o ∧ o.dst = some 38 ∧ o.guard = some (9, false) ∧ o.op = Go.Op.load 24 (Go.Operand.tmp 6) := ⟨_, rfl, rfl, rfl, rfl⟩
theorem sumsAO15 : ∃ o, sumsAO.1[15]? = some o ∧ o.dst = some 39 ∧ o.guard = some (9, false) ∧ o.op = Go.Op.move (Go.Operand.tmp 3) := ⟨_, rfl, rfl, rfl, rfl⟩
theorem sumsAO16 : ∃ o, sumsAO.1[16]? = some o ∧ o.dst = some 40 ∧ o.guard = some (9, false) ∧ o.op = Go.Op.call { callee := Go.Callee.value (Go.Operand.func 12), args := #[Go.Operand.tmp 37, Go.Operand.tmp 38, Go.Operand.tmp 39], argTypes := #[24, 24, 3] } := ⟨_, rfl, rfl, rfl, rfl⟩
theorem sumsAO17 : ∃ o, sumsAO.1[17]? = some o ∧ o.dst = some 41 ∧ o.guard = some (9, false) ∧ o.op = Go.Op.load 24 (Go.Operand.tmp 4) := ⟨_, rfl, rfl, rfl, rfl⟩
theorem sumsAO18 : ∃ o, sumsAO.1[18]? = some o ∧ o.dst = some 42 ∧ o.guard = some (9, false) ∧ o.op = Go.Op.load 24 (Go.Operand.tmp 5) := ⟨_, rfl, rfl, rfl, rfl⟩
theorem sumsAO19 : ∃ o, sumsAO.1[19]? = some o ∧ o.dst = some 43 ∧ o.guard = some (9, false) ∧ o.op = Go.Op.load 24 (Go.Operand.tmp 6) := ⟨_, rfl, rfl, rfl, rfl⟩
theorem sumsAO20 : ∃ o, sumsAO.1[20]? = some o ∧ o.dst = some 44 ∧ o.guard = some (9, false) ∧ o.op = Go.Op.move (Go.Operand.tmp 3) := ⟨_, rfl, rfl, rfl, rfl⟩
theorem sumsAO21 : ∃ o, sumsAO.1[21]? = some o ∧ o.dst = some 45 ∧ o.guard = some (9, false) ∧ o.op = Go.Op.call { callee := Go.Callee.value (Go.Operand.func 12), args := #[Go.Operand.tmp 42, Go.Operand.tmp 43, Go.Operand.tmp 44], argTypes := #[24, 24, 3] } := ⟨_, rfl, rfl, rfl, rfl⟩
theorem sumsAO22 : ∃ o, sumsAO.1[22]? = some o ∧ o.dst = some 46 ∧ o.guard = some (9, false) ∧ o.op = Go.Op.move (Go.Operand.tmp 3) := ⟨_, rfl, rfl, rfl, rfl⟩
theorem sumsAO23 : ∃ o, sumsAO.1[23]? = some o ∧ o.dst = some 47 ∧ o.guard = some (9, false) ∧ o.op = Go.Op.call { callee := Go.Callee.value (Go.Operand.func 12), args := #[Go.Operand.tmp 41, Go.Operand.tmp 45, Go.Operand.tmp 46], argTypes := #[24, 24, 3] } := ⟨_, rfl, rfl, rfl, rfl⟩
theorem sumsAO24 : ∃ o, sumsAO.1[24]? = some o ∧ o.dst = some 48 ∧ o.guard = some (9, false) ∧ o.op = Go.Op.binOp Go.BinOp.neq 24 (Go.Operand.tmp 40) (Go.Operand.tmp 47) 24 := ⟨_, rfl, rfl, rfl, rfl⟩
theorem sumsAO25 : ∃ o, sumsAO.1[25]? = some o ∧ o.dst = some 49 ∧ o.guard = none ∧ o.op = Go.Op.pick (Go.Operand.tmp 33) (Go.Operand.const (Go.Value.bool true)) (Go.Operand.tmp 48) := ⟨_, rfl, rfl, rfl, rfl⟩
theorem sumsAO26 : ∃ o, sumsAO.1[26]? = some o ∧ o.dst = some 50 ∧ o.guard = none ∧ o.op = Go.Op.move (Go.Operand.tmp 49) := ⟨_, rfl, rfl, rfl, rfl⟩
theorem sumsAO27 : ∃ o, sumsAO.1[27]? = some o ∧ o.dst = some 51 ∧ o.guard = some (26, false) ∧ o.op = Go.Op.load 24 (Go.Operand.tmp 4) := ⟨_, rfl, rfl, rfl, rfl⟩
theorem sumsAO28 : ∃ o, sumsAO.1[28]? = some o ∧ o.dst = some 52 ∧ o.guard = some (26, false) ∧ o.op = Go.Op.load 24 (Go.Operand.tmp 5) := ⟨_, rfl, rfl, rfl, rfl⟩
theorem sumsAO29 : ∃ o, sumsAO.1[29]? = some o ∧ o.dst = some 53 ∧ o.guard = some (26, false) ∧ o.op = Go.Op.move (Go.Operand.tmp 3) := ⟨_, rfl, rfl, rfl, rfl⟩
theorem sumsAO30 : ∃ o, sumsAO.1[30]? = some o ∧ o.dst = some 54 ∧ o.guard = some (26, false) ∧ o.op = Go.Op.call { callee := Go.Callee.value (Go.Operand.func 13), args := #[Go.Operand.tmp 51, Go.Operand.tmp 52, Go.Operand.tmp 53], argTypes := #[24, 24, 3] } := ⟨_, rfl, rfl, rfl, rfl⟩
theorem sumsAO31 : ∃ o, sumsAO.1[31]? = some o ∧ o.dst = some 55 ∧ o.guard = some (26, false) ∧ o.op = Go.Op.load 24 (Go.Operand.tmp 5) := ⟨_, rfl, rfl, rfl, rfl⟩
theorem sumsAO32 : ∃ o, sumsAO.1[32]? = some o ∧ o.dst = some 56 ∧ o.guard = some (26, false) ∧ o.op = Go.Op.move (Go.Operand.tmp 3) := ⟨_, rfl, rfl, rfl, rfl⟩
theorem sumsAO33 : ∃ o, sumsAO.1[33]? = some o ∧ o.dst = some 57 ∧ o.guard = some (26, false) ∧ o.op = Go.Op.call { callee := Go.Callee.value (Go.Operand.func 12), args := #[Go.Operand.tmp 54, Go.Operand.tmp 55, Go.Operand.tmp 56], argTypes := #[24, 24, 3] } := ⟨_, rfl, rfl, rfl, rfl⟩
theorem sumsAO34 : ∃ o, sumsAO.1[34]? = some o ∧ o.dst = some 58 ∧ o.guard = some (26, false) ∧ o.op = Go.Op.load 24 (Go.Operand.tmp 4) := ⟨_, rfl, rfl, rfl, rfl⟩
theorem sumsAO35 : ∃ o, sumsAO.1[35]? = some o ∧ o.dst = some 59 ∧ o.guard = some (26, false) ∧ o.op = Go.Op.binOp Go.BinOp.neq 24 (Go.Operand.tmp 57) (Go.Operand.tmp 58) 24 := ⟨_, rfl, rfl, rfl, rfl⟩
theorem sumsAO36 : ∃ o, sumsAO.1[36]? = some o ∧ o.dst = some 60 ∧ o.guard = none ∧ o.op = Go.Op.pick (Go.Operand.tmp 50) (Go.Operand.const (Go.Value.bool true)) (Go.Operand.tmp 59) := ⟨_, rfl, rfl, rfl, rfl⟩
theorem sumsAO_back : ∀ (i : Nat) (o : Oper), sumsAO.1[i]? = some o → ∀ e ∈ o.after, Region.binds .any e = true → e.on < i := by
  have h : ((List.range 37).all fun i => (sumsAO.1[i]?.map fun o => o.after.all fun e => !Region.binds .any e || decide (e.on < i)).getD false) = true := by kernel_rfl
  intro i o ho e he hb
  have hi : i < 37 := by
    by_cases q : i < 37
    · exact q
    · rw [Array.getElem?_eq_none (by rw [sumsAO_size]; omega)] at ho; cases ho
  have h2 := List.all_eq_true.1 h i (List.mem_range.2 hi)
  rw [ho] at h2
  simp only [Option.map_some, Option.getD_some, Array.all_eq_true'] at h2
  have h3 := h2 e he
  rw [hb] at h3
  simpa using h3
def sumsAK (gA gB gC a b cn : Nat) (k : Int) : List (List Nat × Tw) := [isJ [] (numV (a)), isJ [] (numV (b)), isJ [] (.int .i64 k), isJ [] (numV (aN k (a) (b))), isJ [] (numV (b)), isJ [] (numV (a)), isJ [] (.int .i64 k), isJ [] (numV (aN k (b) (a))), isJ [] (.bool false), isJ [] (.bool false), isJ [] (numV (a)), isJ [] (numV (b)), isJ [] (.int .i64 k), isJ [] (numV (aN k (a) (b))), isJ [] (numV (cn)), isJ [] (.int .i64 k), isJ [] (numV (aN k (aN k (a) (b)) (cn))), isJ [] (numV (a)), isJ [] (numV (b)), isJ [] (numV (cn)), isJ [] (.int .i64 k), isJ [] (numV (aN k (b) (cn))), isJ [] (.int .i64 k), isJ [] (numV (aN k (a) (aN k (b) (cn)))), isJ [] (.bool false), isJ [] (.bool false), isJ [] (.bool false), isJ [] (numV (a)), isJ [] (numV (b)), isJ [] (.int .i64 k), isJ [] (numV (sN k (a) (b))), isJ [] (numV (b)), isJ [] (.int .i64 k), isJ [] (numV (aN k (sN k (a) (b)) (b))), isJ [] (numV (a)), isJ [] (.bool false), isJ [] (.bool false)]
theorem sumsAK_free {gA gB gC a b cn : Nat} {k : Int} : KdFree (sumsAK gA gB gC a b cn k) := fun i js P hk B w w' ls v hp => by
  match i, hk with
  | 0, hk => cases hk; exact hp
  | 1, hk => cases hk; exact hp
  | 2, hk => cases hk; exact hp
  | 3, hk => cases hk; exact hp
  | 4, hk => cases hk; exact hp
  | 5, hk => cases hk; exact hp
  | 6, hk => cases hk; exact hp
  | 7, hk => cases hk; exact hp
  | 8, hk => cases hk; exact hp
  | 9, hk => cases hk; exact hp
  | 10, hk => cases hk; exact hp
  | 11, hk => cases hk; exact hp
  | 12, hk => cases hk; exact hp
  | 13, hk => cases hk; exact hp
  | 14, hk => cases hk; exact hp
  | 15, hk => cases hk; exact hp
  | 16, hk => cases hk; exact hp
  | 17, hk => cases hk; exact hp
  | 18, hk => cases hk; exact hp
  | 19, hk => cases hk; exact hp
  | 20, hk => cases hk; exact hp
  | 21, hk => cases hk; exact hp
  | 22, hk => cases hk; exact hp
  | 23, hk => cases hk; exact hp
  | 24, hk => cases hk; exact hp
  | 25, hk => cases hk; exact hp
  | 26, hk => cases hk; exact hp
  | 27, hk => cases hk; exact hp
  | 28, hk => cases hk; exact hp
  | 29, hk => cases hk; exact hp
  | 30, hk => cases hk; exact hp
  | 31, hk => cases hk; exact hp
  | 32, hk => cases hk; exact hp
  | 33, hk => cases hk; exact hp
  | 34, hk => cases hk; exact hp
  | 35, hk => cases hk; exact hp
  | 36, hk => cases hk; exact hp
  | i + 37, hk => simp [sumsAK] at hk
structure sumsAC (gA gB gC a b cn : Nat) (k : Int) (WB : World) (T : List Value) : Prop where
  tl : T.length = 114
  t3 : nth T 3 = .int .i64 k
  t4 : nth T 4 = .pointer (some ⟨gA, 0, none⟩)
  t5 : nth T 5 = .pointer (some ⟨gB, 0, none⟩)
  t6 : nth T 6 = .pointer (some ⟨gC, 0, none⟩)
  ca0 : WB.cell? ⟨gA, 0, none⟩ = some (.int .u64 ((a / B : Nat) : Int))
  ca1 : WB.cell? ⟨gA, 1, none⟩ = some (.int .u64 ((a % B : Nat) : Int))
  cb0 : WB.cell? ⟨gB, 0, none⟩ = some (.int .u64 ((b / B : Nat) : Int))
  cb1 : WB.cell? ⟨gB, 1, none⟩ = some (.int .u64 ((b % B : Nat) : Int))
  cc0 : WB.cell? ⟨gC, 0, none⟩ = some (.int .u64 ((cn / B : Nat) : Int))
  cc1 : WB.cell? ⟨gC, 1, none⟩ = some (.int .u64 ((cn % B : Nat) : Int))
  la : a < 2 ^ sh k
  lb : b < 2 ^ sh k
  lc : cn < 2 ^ sh k
set_option maxRecDepth 100000 in
set_option maxHeartbeats 1000000 in
theorem sumsA_s0 {gA gB gC a b cn : Nat} {k : Int} {WB w : World} {T l : List Value} {L : Array Bool} (Q : Exit → Act → World → Prop) (c : sumsAC gA gB gC a b cn k WB T) (h : VT Tryd.prog sumsAO.1 37 114 sumsAD WB (sumsAK gA gB gC a b cn k) T L l w 0) : wpOp Tryd.prog sumsAO.1 Q 0 (SJ (vaR WB (sumsAK gA gB gC a b cn k)) 37 sumsAD T (L.setIfInBounds 0 true)) (frm2 sumsAD T l) w := by
  obtain ⟨o, ho, hd, hg, hop⟩ := sumsAO0
  have hw := wanted_un (ops := sumsAO.1) (t := (frm2 sumsAD T l).tmps) hg
  exact h.same (v := numV (a)) ho hd rfl hw rfl (ex_load_n hop ((h.old (s := 4) rfl (by decide)).trans c.t4) (h.cell c.ca0) (h.cell c.ca1))

set_option maxRecDepth 100000 in
set_option maxHeartbeats 1000000 in
theorem sumsA_s1 {gA gB gC a b cn : Nat} {k : Int} {WB w : World} {T l : List Value} {L : Array Bool} (Q : Exit → Act → World → Prop) (c : sumsAC gA gB gC a b cn k WB T) (h : VT Tryd.prog sumsAO.1 37 114 sumsAD WB (sumsAK gA gB gC a b cn k) T L l w 1) : wpOp Tryd.prog sumsAO.1 Q 1 (SJ (vaR WB (sumsAK gA gB gC a b cn k)) 37 sumsAD T (L.setIfInBounds 1 true)) (frm2 sumsAD T l) w := by
  obtain ⟨o, ho, hd, hg, hop⟩ := sumsAO1
  have hw := wanted_un (ops := sumsAO.1) (t := (frm2 sumsAD T l).tmps) hg
  exact h.same (v := numV (b)) ho hd rfl hw rfl (ex_load_n hop ((h.old (s := 5) rfl (by decide)).trans c.t5) (h.cell c.cb0) (h.cell c.cb1))

set_option maxRecDepth 100000 in
set_option maxHeartbeats 1000000 in
theorem sumsA_s2 {gA gB gC a b cn : Nat} {k : Int} {WB w : World} {T l : List Value} {L : Array Bool} (Q : Exit → Act → World → Prop) (c : sumsAC gA gB gC a b cn k WB T) (h : VT Tryd.prog sumsAO.1 37 114 sumsAD WB (sumsAK gA gB gC a b cn k) T L l w 2) : wpOp Tryd.prog sumsAO.1 Q 2 (SJ (vaR WB (sumsAK gA gB gC a b cn k)) 37 sumsAD T (L.setIfInBounds 2 true)) (frm2 sumsAD T l) w := by
  obtain ⟨o, ho, hd, hg, hop⟩ := sumsAO2
  have hw := wanted_un (ops := sumsAO.1) (t := (frm2 sumsAD T l).tmps) hg
  exact h.same (v := .int .i64 k) ho hd rfl hw rfl (ex_move hop ((h.old (s := 3) rfl (by decide)).trans c.t3))

set_option maxRecDepth 100000 in
set_option maxHeartbeats 1000000 in
theorem sumsA_s3 {gA gB gC a b cn : Nat} {k : Int} {WB w : World} {T l : List Value} {L : Array Bool} (Q : Exit → Act → World → Prop) (c : sumsAC gA gB gC a b cn k WB T) (h : VT Tryd.prog sumsAO.1 37 114 sumsAD WB (sumsAK gA gB gC a b cn k) T L l w 3) : wpOp Tryd.prog sumsAO.1 Q 3 (SJ (vaR WB (sumsAK gA gB gC a b cn k)) 37 sumsAD T (L.setIfInBounds 3 true)) (frm2 sumsAD T l) w := by
  obtain ⟨o, ho, hd, hg, hop⟩ := sumsAO3
  have hw := wanted_un (ops := sumsAO.1) (t := (frm2 sumsAD T l).tmps) hg
  have x24 := ((h.new (s := 24) (j := 0) rfl (by decide)).trans (h.rw.gotK 0 (dep_of (a := 0) (by kernel_rfl) h.dep) rfl))
  have x25 := ((h.new (s := 25) (j := 1) rfl (by decide)).trans (h.rw.gotK 1 (dep_of (a := 1) (by kernel_rfl) h.dep) rfl))
  have x26 := ((h.new (s := 26) (j := 2) rfl (by decide)).trans (h.rw.gotK 2 (dep_of (a := 2) (by kernel_rfl) h.dep) rfl))
  exact h.call (v := numV (aN k (a) (b))) ho hd rfl hw rfl (ex_call hop rfl rfl (args := #[numV (a), numV (b), .int .i64 k]) (all := #[numV (a), numV (b), .int .i64 k]) (by simp only [List.map_toArray, List.map_cons, List.map_nil]; rw [x24, x25, x26]) (by simp) (fun av W => by kernel_rfl)) (numAdd_any (a) (b) k w (lt_of_pow c.la) (lt_of_pow c.lb))

set_option maxRecDepth 100000 in
set_option maxHeartbeats 1000000 in
theorem sumsA_s4 {gA gB gC a b cn : Nat} {k : Int} {WB w : World} {T l : List Value} {L : Array Bool} (Q : Exit → Act → World → Prop) (c : sumsAC gA gB gC a b cn k WB T) (h : VT Tryd.prog sumsAO.1 37 114 sumsAD WB (sumsAK gA gB gC a b cn k) T L l w 4) : wpOp Tryd.prog sumsAO.1 Q 4 (SJ (vaR WB (sumsAK gA gB gC a b cn k)) 37 sumsAD T (L.setIfInBounds 4 true)) (frm2 sumsAD T l) w := by
  obtain ⟨o, ho, hd, hg, hop⟩ := sumsAO4
  have hw := wanted_un (ops := sumsAO.1) (t := (frm2 sumsAD T l).tmps) hg
  exact h.same (v := numV (b)) ho hd rfl hw rfl (ex_load_n hop ((h.old (s := 5) rfl (by decide)).trans c.t5) (h.cell c.cb0) (h.cell c.cb1))

set_option maxRecDepth 100000 in
set_option maxHeartbeats 1000000 in
theorem sumsA_s5 {gA gB gC a b cn : Nat} {k : Int} {WB w : World} {T l : List Value} {L : Array Bool} (Q : Exit → Act → World → Prop) (c : sumsAC gA gB gC a b cn k WB T) (h : VT Tryd.prog sumsAO.1 37 114 sumsAD WB (sumsAK gA gB gC a b cn k) T L l w 5) : wpOp Tryd.prog sumsAO.1 Q 5 (SJ (vaR WB (sumsAK gA gB gC a b cn k)) 37 sumsAD T (L.setIfInBounds 5 true)) (frm2 sumsAD T l) w := by
  obtain ⟨o, ho, hd, hg, hop⟩ := sumsAO5
  have hw := wanted_un (ops := sumsAO.1) (t := (frm2 sumsAD T l).tmps) hg
  exact h.same (v := numV (a)) ho hd rfl hw rfl (ex_load_n hop ((h.old (s := 4) rfl (by decide)).trans c.t4) (h.cell c.ca0) (h.cell c.ca1))

set_option maxRecDepth 100000 in
set_option maxHeartbeats 1000000 in
theorem sumsA_s6 {gA gB gC a b cn : Nat} {k : Int} {WB w : World} {T l : List Value} {L : Array Bool} (Q : Exit → Act → World → Prop) (c : sumsAC gA gB gC a b cn k WB T) (h : VT Tryd.prog sumsAO.1 37 114 sumsAD WB (sumsAK gA gB gC a b cn k) T L l w 6) : wpOp Tryd.prog sumsAO.1 Q 6 (SJ (vaR WB (sumsAK gA gB gC a b cn k)) 37 sumsAD T (L.setIfInBounds 6 true)) (frm2 sumsAD T l) w := by
  obtain ⟨o, ho, hd, hg, hop⟩ := sumsAO6
  have hw := wanted_un (ops := sumsAO.1) (t := (frm2 sumsAD T l).tmps) hg
  exact h.same (v := .int .i64 k) ho hd rfl hw rfl (ex_move hop ((h.old (s := 3) rfl (by decide)).trans c.t3))

set_option maxRecDepth 100000 in
set_option maxHeartbeats 1000000 in
theorem sumsA_s7 {gA gB gC a b cn : Nat} {k : Int} {WB w : World} {T l : List Value} {L : Array Bool} (Q : Exit → Act → World → Prop) (c : sumsAC gA gB gC a b cn k WB T) (h : VT Tryd.prog sumsAO.1 37 114 sumsAD WB (sumsAK gA gB gC a b cn k) T L l w 7) : wpOp Tryd.prog sumsAO.1 Q 7 (SJ (vaR WB (sumsAK gA gB gC a b cn k)) 37 sumsAD T (L.setIfInBounds 7 true)) (frm2 sumsAD T l) w := by
  obtain ⟨o, ho, hd, hg, hop⟩ := sumsAO7
  have hw := wanted_un (ops := sumsAO.1) (t := (frm2 sumsAD T l).tmps) hg
  have x28 := ((h.new (s := 28) (j := 4) rfl (by decide)).trans (h.rw.gotK 4 (dep_of (a := 4) (by kernel_rfl) h.dep) rfl))
  have x29 := ((h.new (s := 29) (j := 5) rfl (by decide)).trans (h.rw.gotK 5 (dep_of (a := 5) (by kernel_rfl) h.dep) rfl))
  have x30 := ((h.new (s := 30) (j := 6) rfl (by decide)).trans (h.rw.gotK 6 (dep_of (a := 6) (by kernel_rfl) h.dep) rfl))
  exact h.call (v := numV (aN k (b) (a))) ho hd rfl hw rfl (ex_call hop rfl rfl (args := #[numV (b), numV (a), .int .i64 k]) (all := #[numV (b), numV (a), .int .i64 k]) (by simp only [List.map_toArray, List.map_cons, List.map_nil]; rw [x28, x29, x30]) (by simp) (fun av W => by kernel_rfl)) (numAdd_any (b) (a) k w (lt_of_pow c.lb) (lt_of_pow c.la))

set_option maxRecDepth 100000 in
set_option maxHeartbeats 1000000 in
theorem sumsA_s8 {gA gB gC a b cn : Nat} {k : Int} {WB w : World} {T l : List Value} {L : Array Bool} (Q : Exit → Act → World → Prop) (c : sumsAC gA gB gC a b cn k WB T) (h : VT Tryd.prog sumsAO.1 37 114 sumsAD WB (sumsAK gA gB gC a b cn k) T L l w 8) : wpOp Tryd.prog sumsAO.1 Q 8 (SJ (vaR WB (sumsAK gA gB gC a b cn k)) 37 sumsAD T (L.setIfInBounds 8 true)) (frm2 sumsAD T l) w := by
  obtain ⟨o, ho, hd, hg, hop⟩ := sumsAO8
  have hw := wanted_un (ops := sumsAO.1) (t := (frm2 sumsAD T l).tmps) hg
  exact h.same (v := .bool false) ho hd rfl hw rfl (ex_neqN hop ((h.new (s := 27) (j := 3) rfl (by decide)).trans (h.rw.gotK 3 (dep_of (a := 3) (by kernel_rfl) h.dep) rfl)) ((h.new (s := 31) (j := 7) rfl (by decide)).trans (h.rw.gotK 7 (dep_of (a := 7) (by kernel_rfl) h.dep) rfl)) sum_comm)

set_option maxRecDepth 100000 in
set_option maxHeartbeats 1000000 in
theorem sumsA_s9 {gA gB gC a b cn : Nat} {k : Int} {WB w : World} {T l : List Value} {L : Array Bool} (Q : Exit → Act → World → Prop) (c : sumsAC gA gB gC a b cn k WB T) (h : VT Tryd.prog sumsAO.1 37 114 sumsAD WB (sumsAK gA gB gC a b cn k) T L l w 9) : wpOp Tryd.prog sumsAO.1 Q 9 (SJ (vaR WB (sumsAK gA gB gC a b cn k)) 37 sumsAD T (L.setIfInBounds 9 true)) (frm2 sumsAD T l) w := by
  obtain ⟨o, ho, hd, hg, hop⟩ := sumsAO9
  have hw := wanted_un (ops := sumsAO.1) (t := (frm2 sumsAD T l).tmps) hg
  exact h.same (v := .bool false) ho hd rfl hw rfl (ex_move hop ((h.new (s := 32) (j := 8) rfl (by decide)).trans (h.rw.gotK 8 (dep_of (a := 8) (by kernel_rfl) h.dep) rfl)))

set_option maxRecDepth 100000 in
set_option maxHeartbeats 1000000 in
theorem sumsA_s10 {gA gB gC a b cn : Nat} {k : Int} {WB w : World} {T l : List Value} {L : Array Bool} (Q : Exit → Act → World → Prop) (c : sumsAC gA gB gC a b cn k WB T) (h : VT Tryd.prog sumsAO.1 37 114 sumsAD WB (sumsAK gA gB gC a b cn k) T L l w 10) : wpOp Tryd.prog sumsAO.1 Q 10 (SJ (vaR WB (sumsAK gA gB gC a b cn k)) 37 sumsAD T (L.setIfInBounds 10 true)) (frm2 sumsAD T l) w := by
  obtain ⟨o, ho, hd, hg, hop⟩ := sumsAO10
  obtain ⟨oj, hj, hdj, -, -⟩ := sumsAO9
  have hw := wanted2_go (T := T) (l := l) hg hj hdj (show slotOf sumsAD 33 = some 9 from rfl) (by rw [h.tl]; decide) (h.rw.gotK 9 (dep_of (a := 9) (by kernel_rfl) h.dep) rfl)
  exact h.same (v := numV (a)) ho hd rfl hw rfl (ex_load_n hop ((h.old (s := 4) rfl (by decide)).trans c.t4) (h.cell c.ca0) (h.cell c.ca1))

set_option maxRecDepth 100000 in
set_option maxHeartbeats 1000000 in
theorem sumsA_s11 {gA gB gC a b cn : Nat} {k : Int} {WB w : World} {T l : List Value} {L : Array Bool} (Q : Exit → Act → World → Prop) (c : sumsAC gA gB gC a b cn k WB T) (h : VT Tryd.prog sumsAO.1 37 114 sumsAD WB (sumsAK gA gB gC a b cn k) T L l w 11) : wpOp Tryd.prog sumsAO.1 Q 11 (SJ (vaR WB (sumsAK gA gB gC a b cn k)) 37 sumsAD T (L.setIfInBounds 11 true)) (frm2 sumsAD T l) w := by
  obtain ⟨o, ho, hd, hg, hop⟩ := sumsAO11
  obtain ⟨oj, hj, hdj, -, -⟩ := sumsAO9
  have hw := wanted2_go (T := T) (l := l) hg hj hdj (show slotOf sumsAD 33 = some 9 from rfl) (by rw [h.tl]; decide) (h.rw.gotK 9 (dep_of (a := 9) (by kernel_rfl) h.dep) rfl)
  exact h.same (v := numV (b)) ho hd rfl hw rfl (ex_load_n hop ((h.old (s := 5) rfl (by decide)).trans c.t5) (h.cell c.cb0) (h.cell c.cb1))

set_option maxRecDepth 100000 in
set_option maxHeartbeats 1000000 in
theorem sumsA_s12 {gA gB gC a b cn : Nat} {k : Int} {WB w : World} {T l : List Value} {L : Array Bool} (Q : Exit → Act → World → Prop) (c : sumsAC gA gB gC a b cn k WB T) (h : VT Tryd.prog sumsAO.1 37 114 sumsAD WB (sumsAK gA gB gC a b cn k) T L l w 12) : wpOp Tryd.prog sumsAO.1 Q 12 (SJ (vaR WB (sumsAK gA gB gC a b cn k)) 37 sumsAD T (L.setIfInBounds 12 true)) (frm2 sumsAD T l) w := by
  obtain ⟨o, ho, hd, hg, hop⟩ := sumsAO12
  obtain ⟨oj, hj, hdj, -, -⟩ := sumsAO9
  have hw := wanted2_go (T := T) (l := l) hg hj hdj (show slotOf sumsAD 33 = some 9 from rfl) (by rw [h.tl]; decide) (h.rw.gotK 9 (dep_of (a := 9) (by kernel_rfl) h.dep) rfl)
  exact h.same (v := .int .i64 k) ho hd rfl hw rfl (ex_move hop ((h.old (s := 3) rfl (by decide)).trans c.t3))

set_option maxRecDepth 100000 in
set_option maxHeartbeats 1000000 in
theorem sumsA_s13 {gA gB gC a b cn : Nat} {k : Int} {WB w : World} {T l : List Value} {L : Array Bool} (Q : Exit → Act → World → Prop) (c : sumsAC gA gB gC a b cn k WB T) (h : VT Tryd.prog sumsAO.1 37 114 sumsAD WB (sumsAK gA gB gC a b cn k) T L l w 13) : wpOp Tryd.prog sumsAO.1 Q 13 (SJ (vaR WB (sumsAK gA gB gC a b cn k)) 37 sumsAD T (L.setIfInBounds 13 true)) (frm2 sumsAD T l) w := by
  obtain ⟨o, ho, hd, hg, hop⟩ := sumsAO13
  obtain ⟨oj, hj, hdj, -, -⟩ := sumsAO9
  have hw := wanted2_go (T := T) (l := l) hg hj hdj (show slotOf sumsAD 33 = some 9 from rfl) (by rw [h.tl]; decide) (h.rw.gotK 9 (dep_of (a := 9) (by kernel_rfl) h.dep) rfl)
  have x34 := ((h.new (s := 34) (j := 10) rfl (by decide)).trans (h.rw.gotK 10 (dep_of (a := 10) (by kernel_rfl) h.dep) rfl))
  have x35 := ((h.new (s := 35) (j := 11) rfl (by decide)).trans (h.rw.gotK 11 (dep_of (a := 11) (by kernel_rfl) h.dep) rfl))
  have x36 := ((h.new (s := 36) (j := 12) rfl (by decide)).trans (h.rw.gotK 12 (dep_of (a := 12) (by kernel_rfl) h.dep) rfl))
  exact h.call (v := numV (aN k (a) (b))) ho hd rfl hw rfl (ex_call hop rfl rfl (args := #[numV (a), numV (b), .int .i64 k]) (all := #[numV (a), numV (b), .int .i64 k]) (by simp only [List.map_toArray, List.map_cons, List.map_nil]; rw [x34, x35, x36]) (by simp) (fun av W => by kernel_rfl)) (numAdd_any (a) (b) k w (lt_of_pow c.la) (lt_of_pow c.lb))

set_option maxRecDepth 100000 in
set_option maxHeartbeats 1000000 in
theorem sumsA_s14 {gA gB gC a b cn : Nat} {k : Int} {WB w : World} {T l : List Value} {L : Array Bool} (Q : Exit → Act → World → Prop) (c : sumsAC gA gB gC a b cn k WB T) (h : VT Tryd.prog sumsAO.1 37 114 sumsAD WB (sumsAK gA gB gC a b cn k) T L l w 14) : wpOp Tryd.prog sumsAO.1 Q 14 (SJ (vaR WB (sumsAK gA gB gC a b cn k)) 37 sumsAD T (L.setIfInBounds 14 true)) (frm2 sumsAD T l) w := by
  obtain ⟨o, ho, hd, hg, hop⟩ := sumsAO14
  obtain ⟨oj, hj, hdj, -, -⟩ := sumsAO9
  have hw := wanted2_go (T := T) (l := l) hg hj hdj (show slotOf sumsAD 33 = some 9 from rfl) (by rw [h.tl]; decide) (h.rw.gotK 9 (dep_of (a := 9) (by kernel_rfl) h.dep) rfl)
  exact h.same (v := numV (cn)) ho hd rfl hw rfl (ex_load_n hop ((h.old (s := 6) rfl (by decide)).trans c.t6) (h.cell c.cc0) (h.cell c.cc1))

set_option maxRecDepth 100000 in
set_option maxHeartbeats 1000000 in
theorem sumsA_s15 {gA gB gC a b cn : Nat} {k : Int} {WB w : World} {T l : List Value} {L : Array Bool} (Q : Exit → Act → World → Prop) (c : sumsAC gA gB gC a b cn k WB T) (h : VT Tryd.prog sumsAO.1 37 114 sumsAD WB (sumsAK gA gB gC a b cn k) T L l w 15) : wpOp Tryd.prog sumsAO.1 Q 15 (SJ (vaR WB (sumsAK gA gB gC a b cn k)) 37 sumsAD T (L.setIfInBounds 15 true)) (frm2 sumsAD T l) w := by
  obtain ⟨o, ho, hd, hg, hop⟩ := sumsAO15
  obtain ⟨oj, hj, hdj, -, -⟩ := sumsAO9
  have hw := wanted2_go (T := T) (l := l) hg hj hdj (show slotOf sumsAD 33 = some 9 from rfl) (by rw [h.tl]; decide) (h.rw.gotK 9 (dep_of (a := 9) (by kernel_rfl) h.dep) rfl)
  exact h.same (v := .int .i64 k) ho hd rfl hw rfl (ex_move hop ((h.old (s := 3) rfl (by decide)).trans c.t3))

set_option maxRecDepth 100000 in
set_option maxHeartbeats 1000000 in
theorem sumsA_s16 {gA gB gC a b cn : Nat} {k : Int} {WB w : World} {T l : List Value} {L : Array Bool} (Q : Exit → Act → World → Prop) (c : sumsAC gA gB gC a b cn k WB T) (h : VT Tryd.prog sumsAO.1 37 114 sumsAD WB (sumsAK gA gB gC a b cn k) T L l w 16) : wpOp Tryd.prog sumsAO.1 Q 16 (SJ (vaR WB (sumsAK gA gB gC a b cn k)) 37 sumsAD T (L.setIfInBounds 16 true)) (frm2 sumsAD T l) w := by
  obtain ⟨o, ho, hd, hg, hop⟩ := sumsAO16
  obtain ⟨oj, hj, hdj, -, -⟩ := sumsAO9
  have hw := wanted2_go (T := T) (l := l) hg hj hdj (show slotOf sumsAD 33 = some 9 from rfl) (by rw [h.tl]; decide) (h.rw.gotK 9 (dep_of (a := 9) (by kernel_rfl) h.dep) rfl)
  have x37 := ((h.new (s := 37) (j := 13) rfl (by decide)).trans (h.rw.gotK 13 (dep_of (a := 13) (by kernel_rfl) h.dep) rfl))
  have x38 := ((h.new (s := 38) (j := 14) rfl (by decide)).trans (h.rw.gotK 14 (dep_of (a := 14) (by kernel_rfl) h.dep) rfl))
  have x39 := ((h.new (s := 39) (j := 15) rfl (by decide)).trans (h.rw.gotK 15 (dep_of (a := 15) (by kernel_rfl) h.dep) rfl))
  exact h.call (v := numV (aN k (aN k (a) (b)) (cn))) ho hd rfl hw rfl (ex_call hop rfl rfl (args := #[numV (aN k (a) (b)), numV (cn), .int .i64 k]) (all := #[numV (aN k (a) (b)), numV (cn), .int .i64 k]) (by simp only [List.map_toArray, List.map_cons, List.map_nil]; rw [x37, x38, x39]) (by simp) (fun av W => by kernel_rfl)) (numAdd_any (aN k (a) (b)) (cn) k w (lt_of_pow (aN_lt k (a) (b))) (lt_of_pow c.lc))

set_option maxRecDepth 100000 in
set_option maxHeartbeats 1000000 in
theorem sumsA_s17 {gA gB gC a b cn : Nat} {k : Int} {WB w : World} {T l : List Value} {L : Array Bool} (Q : Exit → Act → World → Prop) (c : sumsAC gA gB gC a b cn k WB T) (h : VT Tryd.prog sumsAO.1 37 114 sumsAD WB (sumsAK gA gB gC a b cn k) T L l w 17) : wpOp Tryd.prog sumsAO.1 Q 17 (SJ (vaR WB (sumsAK gA gB gC a b cn k)) 37 sumsAD T (L.setIfInBounds 17 true)) (frm2 sumsAD T l) w := by
  obtain ⟨o, ho, hd, hg, hop⟩ := sumsAO17
  obtain ⟨oj, hj, hdj, -, -⟩ := sumsAO9
  have hw := wanted2_go (T := T) (l := l) hg hj hdj (show slotOf sumsAD 33 = some 9 from rfl) (by rw [h.tl]; decide) (h.rw.gotK 9 (dep_of (a := 9) (by kernel_rfl) h.dep) rfl)
  exact h.same (v := numV (a)) ho hd rfl hw rfl (ex_load_n hop ((h.old (s := 4) rfl (by decide)).trans c.t4) (h.cell c.ca0) (h.cell c.ca1))

set_option maxRecDepth 100000 in
set_option maxHeartbeats 1000000 in
theorem sumsA_s18 {gA gB gC a b cn : Nat} {k : Int} {WB w : World} {T l : List Value} {L : Array Bool} (Q : Exit → Act → World → Prop) (c : sumsAC gA gB gC a b cn k WB T) (h : VT Tryd.prog sumsAO.1 37 114 sumsAD WB (sumsAK gA gB gC a b cn k) T L l w 18) : wpOp Tryd.prog sumsAO.1 Q 18 (SJ (vaR WB (sumsAK gA gB gC a b cn k)) 37 sumsAD T (L.setIfInBounds 18 true)) (frm2 sumsAD T l) w := by
  obtain ⟨o, ho, hd, hg, hop⟩ := sumsAO18
  obtain ⟨oj, hj, hdj, -, -⟩ := sumsAO9
  have hw := wanted2_go (T := T) (l := l) hg hj hdj (show slotOf sumsAD 33 = some 9 from rfl) (by rw [h.tl]; decide) (h.rw.gotK 9 (dep_of (a := 9) (by kernel_rfl) h.dep) rfl)
  exact h.same (v := numV (b)) ho hd rfl hw rfl (ex_load_n hop ((h.old (s := 5) rfl (by decide)).trans c.t5) (h.cell c.cb0) (h.cell c.cb1))

set_option maxRecDepth 100000 in
set_option maxHeartbeats 1000000 in
theorem sumsA_s19 {gA gB gC a b cn : Nat} {k : Int} {WB w : World} {T l : List Value} {L : Array Bool} (Q : Exit → Act → World → Prop) (c : sumsAC gA gB gC a b cn k WB T) (h : VT Tryd.prog sumsAO.1 37 114 sumsAD WB (sumsAK gA gB gC a b cn k) T L l w 19) : wpOp Tryd.prog sumsAO.1 Q 19 (SJ (vaR WB (sumsAK gA gB gC a b cn k)) 37 sumsAD T (L.setIfInBounds 19 true)) (frm2 sumsAD T l) w := by
  obtain ⟨o, ho, hd, hg, hop⟩ := sumsAO19
  obtain ⟨oj, hj, hdj, -, -⟩ := sumsAO9
  have hw := wanted2_go (T := T) (l := l) hg hj hdj (show slotOf sumsAD 33 = some 9 from rfl) (by rw [h.tl]; decide) (h.rw.gotK 9 (dep_of (a := 9) (by kernel_rfl) h.dep) rfl)
  exact h.same (v := numV (cn)) ho hd rfl hw rfl (ex_load_n hop ((h.old (s := 6) rfl (by decide)).trans c.t6) (h.cell c.cc0) (h.cell c.cc1))

set_option maxRecDepth 100000 in
set_option maxHeartbeats 1000000 in
theorem sumsA_s20 {gA gB gC a b cn : Nat} {k : Int} {WB w : World} {T l : List Value} {L : Array Bool} (Q : Exit → Act → World → Prop) (c : sumsAC gA gB gC a b cn k WB T) (h : VT Tryd.prog sumsAO.1 37 114 sumsAD WB (sumsAK gA gB gC a b cn k) T L l w 20) : wpOp Tryd.prog sumsAO.1 Q 20 (SJ (vaR WB (sumsAK gA gB gC a b cn k)) 37 sumsAD T (L.setIfInBounds 20 true)) (frm2 sumsAD T l) w := by
  obtain ⟨o, ho, hd, hg, hop⟩ := sumsAO20
  obtain ⟨oj, hj, hdj, -, -⟩ := sumsAO9
  have hw := wanted2_go (T := T) (l := l) hg hj hdj (show slotOf sumsAD 33 = some 9 from rfl) (by rw [h.tl]; decide) (h.rw.gotK 9 (dep_of (a := 9) (by kernel_rfl) h.dep) rfl)
  exact h.same (v := .int .i64 k) ho hd rfl hw rfl (ex_move hop ((h.old (s := 3) rfl (by decide)).trans c.t3))

set_option maxRecDepth 100000 in
set_option maxHeartbeats 1000000 in
theorem sumsA_s21 {gA gB gC a b cn : Nat} {k : Int} {WB w : World} {T l : List Value} {L : Array Bool} (Q : Exit → Act → World → Prop) (c : sumsAC gA gB gC a b cn k WB T) (h : VT Tryd.prog sumsAO.1 37 114 sumsAD WB (sumsAK gA gB gC a b cn k) T L l w 21) : wpOp Tryd.prog sumsAO.1 Q 21 (SJ (vaR WB (sumsAK gA gB gC a b cn k)) 37 sumsAD T (L.setIfInBounds 21 true)) (frm2 sumsAD T l) w := by
  obtain ⟨o, ho, hd, hg, hop⟩ := sumsAO21
  obtain ⟨oj, hj, hdj, -, -⟩ := sumsAO9
  have hw := wanted2_go (T := T) (l := l) hg hj hdj (show slotOf sumsAD 33 = some 9 from rfl) (by rw [h.tl]; decide) (h.rw.gotK 9 (dep_of (a := 9) (by kernel_rfl) h.dep) rfl)
  have x42 := ((h.new (s := 42) (j := 18) rfl (by decide)).trans (h.rw.gotK 18 (dep_of (a := 18) (by kernel_rfl) h.dep) rfl))
  have x43 := ((h.new (s := 43) (j := 19) rfl (by decide)).trans (h.rw.gotK 19 (dep_of (a := 19) (by kernel_rfl) h.dep) rfl))
  have x44 := ((h.new (s := 44) (j := 20) rfl (by decide)).trans (h.rw.gotK 20 (dep_of (a := 20) (by kernel_rfl) h.dep) rfl))
  exact h.call (v := numV (aN k (b) (cn))) ho hd rfl hw rfl (ex_call hop rfl rfl (args := #[numV (b), numV (cn), .int .i64 k]) (all := #[numV (b), numV (cn), .int .i64 k]) (by simp only [List.map_toArray, List.map_cons, List.map_nil]; rw [x42, x43, x44]) (by simp) (fun av W => by kernel_rfl)) (numAdd_any (b) (cn) k w (lt_of_pow c.lb) (lt_of_pow c.lc))

set_option maxRecDepth 100000 in
set_option maxHeartbeats 1000000 in
theorem sumsA_s22 {gA gB gC a b cn : Nat} {k : Int} {WB w : World} {T l : List Value} {L : Array Bool} (Q : Exit → Act → World → Prop) (c : sumsAC gA gB gC a b cn k WB T) (h : VT Tryd.prog sumsAO.1 37 114 sumsAD WB (sumsAK gA gB gC a b cn k) T L l w 22) : wpOp Tryd.prog sumsAO.1 Q 22 (SJ (vaR WB (sumsAK gA gB gC a b cn k)) 37 sumsAD T (L.setIfInBounds 22 true)) (frm2 sumsAD T l) w := by
  obtain ⟨o, ho, hd, hg, hop⟩ := sumsAO22
  obtain ⟨oj, hj, hdj, -, -⟩ := sumsAO9
  have hw := wanted2_go (T := T) (l := l) hg hj hdj (show slotOf sumsAD 33 = some 9 from rfl) (by rw [h.tl]; decide) (h.rw.gotK 9 (dep_of (a := 9) (by kernel_rfl) h.dep) rfl)
  exact h.same (v := .int .i64 k) ho hd rfl hw rfl (ex_move hop ((h.old (s := 3) rfl (by decide)).trans c.t3))

set_option maxRecDepth 100000 in
set_option maxHeartbeats 1000000 in
theorem sumsA_s23 {gA gB gC a b cn : Nat} {k : Int} {WB w : World} {T l : List Value} {L : Array Bool} (Q : Exit → Act → World → Prop) (c : sumsAC gA gB gC a b cn k WB T) (h : VT Tryd.prog sumsAO.1 37 114 sumsAD WB (sumsAK gA gB gC a b cn k) T L l w 23) : wpOp Tryd.prog sumsAO.1 Q 23 (SJ (vaR WB (sumsAK gA gB gC a b cn k)) 37 sumsAD T (L.setIfInBounds 23 true)) (frm2 sumsAD T l) w := by
  obtain ⟨o, ho, hd, hg, hop⟩ := sumsAO23
  obtain ⟨oj, hj, hdj, -, -⟩ := sumsAO9
  have hw := wanted2_go (T := T) (l := l) hg hj hdj (show slotOf sumsAD 33 = some 9 from rfl) (by rw [h.tl]; decide) (h.rw.gotK 9 (dep_of (a := 9) (by kernel_rfl) h.dep) rfl)
  have x41 := ((h.new (s := 41) (j := 17) rfl (by decide)).trans (h.rw.gotK 17 (dep_of (a := 17) (by kernel_rfl) h.dep) rfl))
  have x45 := ((h.new (s := 45) (j := 21) rfl (by decide)).trans (h.rw.gotK 21 (dep_of (a := 21) (by kernel_rfl) h.dep) rfl))
  have x46 := ((h.new (s := 46) (j := 22) rfl (by decide)).trans (h.rw.gotK 22 (dep_of (a := 22) (by kernel_rfl) h.dep) rfl))
  exact h.call (v := numV (aN k (a) (aN k (b) (cn)))) ho hd rfl hw rfl (ex_call hop rfl rfl (args := #[numV (a), numV (aN k (b) (cn)), .int .i64 k]) (all := #[numV (a), numV (aN k (b) (cn)), .int .i64 k]) (by simp only [List.map_toArray, List.map_cons, List.map_nil]; rw [x41, x45, x46]) (by simp) (fun av W => by kernel_rfl)) (numAdd_any (a) (aN k (b) (cn)) k w (lt_of_pow c.la) (lt_of_pow (aN_lt k (b) (cn))))

set_option maxRecDepth 100000 in
set_option maxHeartbeats 1000000 in
theorem sumsA_s24 {gA gB gC a b cn : Nat} {k : Int} {WB w : World} {T l : List Value} {L : Array Bool} (Q : Exit → Act → World → Prop) (c : sumsAC gA gB gC a b cn k WB T) (h : VT Tryd.prog sumsAO.1 37 114 sumsAD WB (sumsAK gA gB gC a b cn k) T L l w 24) : wpOp Tryd.prog sumsAO.1 Q 24 (SJ (vaR WB (sumsAK gA gB gC a b cn k)) 37 sumsAD T (L.setIfInBounds 24 true)) (frm2 sumsAD T l) w := by
  obtain ⟨o, ho, hd, hg, hop⟩ := sumsAO24
  obtain ⟨oj, hj, hdj, -, -⟩ := sumsAO9
  have hw := wanted2_go (T := T) (l := l) hg hj hdj (show slotOf sumsAD 33 = some 9 from rfl) (by rw [h.tl]; decide) (h.rw.gotK 9 (dep_of (a := 9) (by kernel_rfl) h.dep) rfl)
  exact h.same (v := .bool false) ho hd rfl hw rfl (ex_neqN hop ((h.new (s := 40) (j := 16) rfl (by decide)).trans (h.rw.gotK 16 (dep_of (a := 16) (by kernel_rfl) h.dep) rfl)) ((h.new (s := 47) (j := 23) rfl (by decide)).trans (h.rw.gotK 23 (dep_of (a := 23) (by kernel_rfl) h.dep) rfl)) sum_assoc)

set_option maxRecDepth 100000 in
set_option maxHeartbeats 1000000 in
theorem sumsA_s25 {gA gB gC a b cn : Nat} {k : Int} {WB w : World} {T l : List Value} {L : Array Bool} (Q : Exit → Act → World → Prop) (c : sumsAC gA gB gC a b cn k WB T) (h : VT Tryd.prog sumsAO.1 37 114 sumsAD WB (sumsAK gA gB gC a b cn k) T L l w 25) : wpOp Tryd.prog sumsAO.1 Q 25 (SJ (vaR WB (sumsAK gA gB gC a b cn k)) 37 sumsAD T (L.setIfInBounds 25 true)) (frm2 sumsAD T l) w := by
  obtain ⟨o, ho, hd, hg, hop⟩ := sumsAO25
  have hw := wanted_un (ops := sumsAO.1) (t := (frm2 sumsAD T l).tmps) hg
  exact h.same (v := .bool false) ho hd rfl hw rfl (ex_pick hop ((h.new (s := 33) (j := 9) rfl (by decide)).trans (h.rw.gotK 9 (dep_of (a := 9) (by kernel_rfl) h.dep) rfl)) ((h.new (s := 48) (j := 24) rfl (by decide)).trans (h.rw.gotK 24 (dep_of (a := 24) (by kernel_rfl) h.dep) rfl)))

set_option maxRecDepth 100000 in
set_option maxHeartbeats 1000000 in
theorem sumsA_s26 {gA gB gC a b cn : Nat} {k : Int} {WB w : World} {T l : List Value} {L : Array Bool} (Q : Exit → Act → World → Prop) (c : sumsAC gA gB gC a b cn k WB T) (h : VT Tryd.prog sumsAO.1 37 114 sumsAD WB (sumsAK gA gB gC a b cn k) T L l w 26) : wpOp Tryd.prog sumsAO.1 Q 26 (SJ (vaR WB (sumsAK gA gB gC a b cn k)) 37 sumsAD T (L.setIfInBounds 26 true)) (frm2 sumsAD T l) w := by
  obtain ⟨o, ho, hd, hg, hop⟩ := sumsAO26
  have hw := wanted_un (ops := sumsAO.1) (t := (frm2 sumsAD T l).tmps) hg
  exact h.same (v := .bool false) ho hd rfl hw rfl (ex_move hop ((h.new (s := 49) (j := 25) rfl (by decide)).trans (h.rw.gotK 25 (dep_of (a := 25) (by kernel_rfl) h.dep) rfl)))

set_option maxRecDepth 100000 in
set_option maxHeartbeats 1000000 in
theorem sumsA_s27 {gA gB gC a b cn : Nat} {k : Int} {WB w : World} {T l : List Value} {L : Array Bool} (Q : Exit → Act → World → Prop) (c : sumsAC gA gB gC a b cn k WB T) (h : VT Tryd.prog sumsAO.1 37 114 sumsAD WB (sumsAK gA gB gC a b cn k) T L l w 27) : wpOp Tryd.prog sumsAO.1 Q 27 (SJ (vaR WB (sumsAK gA gB gC a b cn k)) 37 sumsAD T (L.setIfInBounds 27 true)) (frm2 sumsAD T l) w := by
  obtain ⟨o, ho, hd, hg, hop⟩ := sumsAO27
  obtain ⟨oj, hj, hdj, -, -⟩ := sumsAO26
  have hw := wanted2_go (T := T) (l := l) hg hj hdj (show slotOf sumsAD 50 = some 26 from rfl) (by rw [h.tl]; decide) (h.rw.gotK 26 (dep_of (a := 26) (by kernel_rfl) h.dep) rfl)
  exact h.same (v := numV (a)) ho hd rfl hw rfl (ex_load_n hop ((h.old (s := 4) rfl (by decide)).trans c.t4) (h.cell c.ca0) (h.cell c.ca1))

set_option maxRecDepth 100000 in
set_option maxHeartbeats 1000000 in
theorem sumsA_s28 {gA gB gC a b cn : Nat} {k : Int} {WB w : World} {T l : List Value} {L : Array Bool} (Q : Exit → Act → World → Prop) (c : sumsAC gA gB gC a b cn k WB T) (h : VT Tryd.prog sumsAO.1 37 114 sumsAD WB (sumsAK gA gB gC a b cn k) T L l w 28) : wpOp Tryd.prog sumsAO.1 Q 28 (SJ (vaR WB (sumsAK gA gB gC a b cn k)) 37 sumsAD T (L.setIfInBounds 28 true)) (frm2 sumsAD T l) w := by
  obtain ⟨o, ho, hd, hg, hop⟩ := sumsAO28
  obtain ⟨oj, hj, hdj, -, -⟩ := sumsAO26
  have hw := wanted2_go (T := T) (l := l) hg hj hdj (show slotOf sumsAD 50 = some 26 from rfl) (by rw [h.tl]; decide) (h.rw.gotK 26 (dep_of (a := 26) (by kernel_rfl) h.dep) rfl)
  exact h.same (v := numV (b)) ho hd rfl hw rfl (ex_load_n hop ((h.old (s := 5) rfl (by decide)).trans c.t5) (h.cell c.cb0) (h.cell c.cb1))

set_option maxRecDepth 100000 in
set_option maxHeartbeats 1000000 in
theorem sumsA_s29 {gA gB gC a b cn : Nat} {k : Int} {WB w : World} {T l : List Value} {L : Array Bool} (Q : Exit → Act → World → Prop) (c : sumsAC gA gB gC a b cn k WB T) (h : VT Tryd.prog sumsAO.1 37 114 sumsAD WB (sumsAK gA gB gC a b cn k) T L l w 29) : wpOp Tryd.prog sumsAO.1 Q 29 (SJ (vaR WB (sumsAK gA gB gC a b cn k)) 37 sumsAD T (L.setIfInBounds 29 true)) (frm2 sumsAD T l) w := by
  obtain ⟨o, ho, hd, hg, hop⟩ := sumsAO29
  obtain ⟨oj, hj, hdj, -, -⟩ := sumsAO26
  have hw := wanted2_go (T := T) (l := l) hg hj hdj (show slotOf sumsAD 50 = some 26 from rfl) (by rw [h.tl]; decide) (h.rw.gotK 26 (dep_of (a := 26) (by kernel_rfl) h.dep) rfl)
  exact h.same (v := .int .i64 k) ho hd rfl hw rfl (ex_move hop ((h.old (s := 3) rfl (by decide)).trans c.t3))

set_option maxRecDepth 100000 in
set_option maxHeartbeats 1000000 in
theorem sumsA_s30 {gA gB gC a b cn : Nat} {k : Int} {WB w : World} {T l : List Value} {L : Array Bool} (Q : Exit → Act → World → Prop) (c : sumsAC gA gB gC a b cn k WB T) (h : VT Tryd.prog sumsAO.1 37 114 sumsAD WB (sumsAK gA gB gC a b cn k) T L l w 30) : wpOp Tryd.prog sumsAO.1 Q 30 (SJ (vaR WB (sumsAK gA gB gC a b cn k)) 37 sumsAD T (L.setIfInBounds 30 true)) (frm2 sumsAD T l) w := by
  obtain ⟨o, ho, hd, hg, hop⟩ := sumsAO30
  obtain ⟨oj, hj, hdj, -, -⟩ := sumsAO26
  have hw := wanted2_go (T := T) (l := l) hg hj hdj (show slotOf sumsAD 50 = some 26 from rfl) (by rw [h.tl]; decide) (h.rw.gotK 26 (dep_of (a := 26) (by kernel_rfl) h.dep) rfl)
  have x51 := ((h.new (s := 51) (j := 27) rfl (by decide)).trans (h.rw.gotK 27 (dep_of (a := 27) (by kernel_rfl) h.dep) rfl))
  have x52 := ((h.new (s := 52) (j := 28) rfl (by decide)).trans (h.rw.gotK 28 (dep_of (a := 28) (by kernel_rfl) h.dep) rfl))
  have x53 := ((h.new (s := 53) (j := 29) rfl (by decide)).trans (h.rw.gotK 29 (dep_of (a := 29) (by kernel_rfl) h.dep) rfl))
  exact h.call (v := numV (sN k (a) (b))) ho hd rfl hw rfl (ex_call hop rfl rfl (args := #[numV (a), numV (b), .int .i64 k]) (all := #[numV (a), numV (b), .int .i64 k]) (by simp only [List.map_toArray, List.map_cons, List.map_nil]; rw [x51, x52, x53]) (by simp) (fun av W => by kernel_rfl)) (numSub_any (a) (b) k w (lt_of_pow c.la) (lt_of_pow c.lb))

set_option maxRecDepth 100000 in
set_option maxHeartbeats 1000000 in
theorem sumsA_s31 {gA gB gC a b cn : Nat} {k : Int} {WB w : World} {T l : List Value} {L : Array Bool} (Q : Exit → Act → World → Prop) (c : sumsAC gA gB gC a b cn k WB T) (h : VT Tryd.prog sumsAO.1 37 114 sumsAD WB (sumsAK gA gB gC a b cn k) T L l w 31) : wpOp Tryd.prog sumsAO.1 Q 31 (SJ (vaR WB (sumsAK gA gB gC a b cn k)) 37 sumsAD T (L.setIfInBounds 31 true)) (frm2 sumsAD T l) w := by
  obtain ⟨o, ho, hd, hg, hop⟩ := sumsAO31
  obtain ⟨oj, hj, hdj, -, -⟩ := sumsAO26
  have hw := wanted2_go (T := T) (l := l) hg hj hdj (show slotOf sumsAD 50 = some 26 from rfl) (by rw [h.tl]; decide) (h.rw.gotK 26 (dep_of (a := 26) (by kernel_rfl) h.dep) rfl)
  exact h.same (v := numV (b)) ho hd rfl hw rfl (ex_load_n hop ((h.old (s := 5) rfl (by decide)).trans c.t5) (h.cell c.cb0) (h.cell c.cb1))

set_option maxRecDepth 100000 in
set_option maxHeartbeats 1000000 in
theorem sumsA_s32 {gA gB gC a b cn : Nat} {k : Int} {WB w : World} {T l : List Value} {L : Array Bool} (Q : Exit → Act → World → Prop) (c : sumsAC gA gB gC a b cn k WB T) (h : VT Tryd.prog sumsAO.1 37 114 sumsAD WB (sumsAK gA gB gC a b cn k) T L l w 32) : wpOp Tryd.prog sumsAO.1 Q 32 (SJ (vaR WB (sumsAK gA gB gC a b cn k)) 37 sumsAD T (L.setIfInBounds 32 true)) (frm2 sumsAD T l) w := by
  obtain ⟨o, ho, hd, hg, hop⟩ := sumsAO32
  obtain ⟨oj, hj, hdj, -, -⟩ := sumsAO26
  have hw := wanted2_go (T := T) (l := l) hg hj hdj (show slotOf sumsAD 50 = some 26 from rfl) (by rw [h.tl]; decide) (h.rw.gotK 26 (dep_of (a := 26) (by kernel_rfl) h.dep) rfl)
  exact h.same (v := .int .i64 k) ho hd rfl hw rfl (ex_move hop ((h.old (s := 3) rfl (by decide)).trans c.t3))

set_option maxRecDepth 100000 in
set_option maxHeartbeats 1000000 in
theorem sumsA_s33 {gA gB gC a b cn : Nat} {k : Int} {WB w : World} {T l : List Value} {L : Array Bool} (Q : Exit → Act → World → Prop) (c : sumsAC gA gB gC a b cn k WB T) (h : VT Tryd.prog sumsAO.1 37 114 sumsAD WB (sumsAK gA gB gC a b cn k) T L l w 33) : wpOp Tryd.prog sumsAO.1 Q 33 (SJ (vaR WB (sumsAK gA gB gC a b cn k)) 37 sumsAD T (L.setIfInBounds 33 true)) (frm2 sumsAD T l) w := by
  obtain ⟨o, ho, hd, hg, hop⟩ := sumsAO33
  obtain ⟨oj, hj, hdj, -, -⟩ := sumsAO26
  have hw := wanted2_go (T := T) (l := l) hg hj hdj (show slotOf sumsAD 50 = some 26 from rfl) (by rw [h.tl]; decide) (h.rw.gotK 26 (dep_of (a := 26) (by kernel_rfl) h.dep) rfl)
  have x54 := ((h.new (s := 54) (j := 30) rfl (by decide)).trans (h.rw.gotK 30 (dep_of (a := 30) (by kernel_rfl) h.dep) rfl))
  have x55 := ((h.new (s := 55) (j := 31) rfl (by decide)).trans (h.rw.gotK 31 (dep_of (a := 31) (by kernel_rfl) h.dep) rfl))
  have x56 := ((h.new (s := 56) (j := 32) rfl (by decide)).trans (h.rw.gotK 32 (dep_of (a := 32) (by kernel_rfl) h.dep) rfl))
  exact h.call (v := numV (aN k (sN k (a) (b)) (b))) ho hd rfl hw rfl (ex_call hop rfl rfl (args := #[numV (sN k (a) (b)), numV (b), .int .i64 k]) (all := #[numV (sN k (a) (b)), numV (b), .int .i64 k]) (by simp only [List.map_toArray, List.map_cons, List.map_nil]; rw [x54, x55, x56]) (by simp) (fun av W => by kernel_rfl)) (numAdd_any (sN k (a) (b)) (b) k w (lt_of_pow (sN_lt k (a) (b))) (lt_of_pow c.lb))

set_option maxRecDepth 100000 in
set_option maxHeartbeats 1000000 in
theorem sumsA_s34 {gA gB gC a b cn : Nat} {k : Int} {WB w : World} {T l : List Value} {L : Array Bool} (Q : Exit → Act → World → Prop) (c : sumsAC gA gB gC a b cn k WB T) (h : VT Tryd.prog sumsAO.1 37 114 sumsAD WB (sumsAK gA gB gC a b cn k) T L l w 34) : wpOp Tryd.prog sumsAO.1 Q 34 (SJ (vaR WB (sumsAK gA gB gC a b cn k)) 37 sumsAD T (L.setIfInBounds 34 true)) (frm2 sumsAD T l) w := by
  obtain ⟨o, ho, hd, hg, hop⟩ := sumsAO34
  obtain ⟨oj, hj, hdj, -, -⟩ := sumsAO26
  have hw := wanted2_go (T := T) (l := l) hg hj hdj (show slotOf sumsAD 50 = some 26 from rfl) (by rw [h.tl]; decide) (h.rw.gotK 26 (dep_of (a := 26) (by kernel_rfl) h.dep) rfl)
  exact h.same (v := numV (a)) ho hd rfl hw rfl (ex_load_n hop ((h.old (s := 4) rfl (by decide)).trans c.t4) (h.cell c.ca0) (h.cell c.ca1))

set_option maxRecDepth 100000 in
set_option maxHeartbeats 1000000 in
theorem sumsA_s35 {gA gB gC a b cn : Nat} {k : Int} {WB w : World} {T l : List Value} {L : Array Bool} (Q : Exit → Act → World → Prop) (c : sumsAC gA gB gC a b cn k WB T) (h : VT Tryd.prog sumsAO.1 37 114 sumsAD WB (sumsAK gA gB gC a b cn k) T L l w 35) : wpOp Tryd.prog sumsAO.1 Q 35 (SJ (vaR WB (sumsAK gA gB gC a b cn k)) 37 sumsAD T (L.setIfInBounds 35 true)) (frm2 sumsAD T l) w := by
  obtain ⟨o, ho, hd, hg, hop⟩ := sumsAO35
  obtain ⟨oj, hj, hdj, -, -⟩ := sumsAO26
  have hw := wanted2_go (T := T) (l := l) hg hj hdj (show slotOf sumsAD 50 = some 26 from rfl) (by rw [h.tl]; decide) (h.rw.gotK 26 (dep_of (a := 26) (by kernel_rfl) h.dep) rfl)
  exact h.same (v := .bool false) ho hd rfl hw rfl (ex_neqN hop ((h.new (s := 57) (j := 33) rfl (by decide)).trans (h.rw.gotK 33 (dep_of (a := 33) (by kernel_rfl) h.dep) rfl)) ((h.new (s := 58) (j := 34) rfl (by decide)).trans (h.rw.gotK 34 (dep_of (a := 34) (by kernel_rfl) h.dep) rfl)) (sub_add c.la c.lb))

set_option maxRecDepth 100000 in
set_option maxHeartbeats 1000000 in
theorem sumsA_s36 {gA gB gC a b cn : Nat} {k : Int} {WB w : World} {T l : List Value} {L : Array Bool} (Q : Exit → Act → World → Prop) (c : sumsAC gA gB gC a b cn k WB T) (h : VT Tryd.prog sumsAO.1 37 114 sumsAD WB (sumsAK gA gB gC a b cn k) T L l w 36) : wpOp Tryd.prog sumsAO.1 Q 36 (SJ (vaR WB (sumsAK gA gB gC a b cn k)) 37 sumsAD T (L.setIfInBounds 36 true)) (frm2 sumsAD T l) w := by
  obtain ⟨o, ho, hd, hg, hop⟩ := sumsAO36
  have hw := wanted_un (ops := sumsAO.1) (t := (frm2 sumsAD T l).tmps) hg
  exact h.same (v := .bool false) ho hd rfl hw rfl (ex_pick hop ((h.new (s := 50) (j := 26) rfl (by decide)).trans (h.rw.gotK 26 (dep_of (a := 26) (by kernel_rfl) h.dep) rfl)) ((h.new (s := 59) (j := 35) rfl (by decide)).trans (h.rw.gotK 35 (dep_of (a := 35) (by kernel_rfl) h.dep) rfl)))

set_option maxRecDepth 100000 in
set_option maxHeartbeats 4000000 in
theorem sumsA (gA gB gC a b cn : Nat) (k : Int) (WB : World)
    (ca0 : Hid (WB.cell? ⟨gA, 0, none⟩ = some (.int .u64 ((a / B : Nat) : Int))))
    (ca1 : Hid (WB.cell? ⟨gA, 1, none⟩ = some (.int .u64 ((a % B : Nat) : Int))))
    (cb0 : Hid (WB.cell? ⟨gB, 0, none⟩ = some (.int .u64 ((b / B : Nat) : Int))))
    (cb1 : Hid (WB.cell? ⟨gB, 1, none⟩ = some (.int .u64 ((b % B : Nat) : Int))))
    (cc0 : Hid (WB.cell? ⟨gC, 0, none⟩ = some (.int .u64 ((cn / B : Nat) : Int))))
    (cc1 : Hid (WB.cell? ⟨gC, 1, none⟩ = some (.int .u64 ((cn % B : Nat) : Int))))
    (la : Hid (a < 2 ^ sh k))
    (lb : Hid (b < 2 ^ sh k))
    (lc : Hid (cn < 2 ^ sh k))
    (s0 s1 s2 s7 s8 s9 s10 s11 s12 s13 s14 s15 s16 s17 s18 s19 s20 s21 s22 s23 s24 s25 s26 s27 s28 s29 s30 s31 s32 s33 s34 s35 s36 s37 s38 s39 s40 s41 s42 s43 s44 s45 s46 s47 s48 s49 s50 s51 s52 s53 s54 s55 s56 s57 s58 s59 s60 s61 s62 s63 s64 s65 s66 s67 s68 s69 s70 s71 s72 s73 s74 s75 s76 s77 s78 s79 s80 s81 s82 s83 s84 s85 s86 s87 s88 s89 s90 s91 s92 s93 s94 s95 s96 s97 s98 s99 s100 s101 s102 s103 s104 s105 s106 s107 s108 s109 s110 s111 s112 s113 : Value) (Q : Exit → Act → World → Prop)
    (hexit : ∀ (w' : World), Below WB.heap.size WB w' → Q .normal ⟨#[s0, s1, s2, .int .i64 k, .pointer (some ⟨gA, 0, none⟩), .pointer (some ⟨gB, 0, none⟩), .pointer (some ⟨gC, 0, none⟩), s7, s8, s9, s10, s11, s12, s13, s14, s15, s16, s17, s18, s19, s20, s21, s22, s23, numV (a), numV (b), .int .i64 k, numV (aN k (a) (b)), numV (b), numV (a), .int .i64 k, numV (aN k (b) (a)), .bool false, .bool false, numV (a), numV (b), .int .i64 k, numV (aN k (a) (b)), numV (cn), .int .i64 k, numV (aN k (aN k (a) (b)) (cn)), numV (a), numV (b), numV (cn), .int .i64 k, numV (aN k (b) (cn)), .int .i64 k, numV (aN k (a) (aN k (b) (cn))), .bool false, .bool false, .bool false, numV (a), numV (b), .int .i64 k, numV (sN k (a) (b)), numV (b), .int .i64 k, numV (aN k (sN k (a) (b)) (b)), numV (a), .bool false, .bool false, s61, s62, s63, s64, s65, s66, s67, s68, s69, s70, s71, s72, s73, s74, s75, s76, s77, s78, s79, s80, s81, s82, s83, s84, s85, s86, s87, s88, s89, s90, s91, s92, s93, s94, s95, s96, s97, s98, s99, s100, s101, s102, s103, s104, s105, s106, s107, s108, s109, s110, s111, s112, s113], []⟩ w') :
    Code.wp Tryd.prog ((Tryd.f4.body.bind (findRegion 3)).getD .skip) Q ⟨#[s0, s1, s2, .int .i64 k, .pointer (some ⟨gA, 0, none⟩), .pointer (some ⟨gB, 0, none⟩), .pointer (some ⟨gC, 0, none⟩), s7, s8, s9, s10, s11, s12, s13, s14, s15, s16, s17, s18, s19, s20, s21, s22, s23, s24, s25, s26, s27, s28, s29, s30, s31, s32, s33, s34, s35, s36, s37, s38, s39, s40, s41, s42, s43, s44, s45, s46, s47, s48, s49, s50, s51, s52, s53, s54, s55, s56, s57, s58, s59, s60, s61, s62, s63, s64, s65, s66, s67, s68, s69, s70, s71, s72, s73, s74, s75, s76, s77, s78, s79, s80, s81, s82, s83, s84, s85, s86, s87, s88, s89, s90, s91, s92, s93, s94, s95, s96, s97, s98, s99, s100, s101, s102, s103, s104, s105, s106, s107, s108, s109, s110, s111, s112, s113], []⟩ WB := by
  have c : sumsAC gA gB gC a b cn k WB [s0, s1, s2, .int .i64 k, .pointer (some ⟨gA, 0, none⟩), .pointer (some ⟨gB, 0, none⟩), .pointer (some ⟨gC, 0, none⟩), s7, s8, s9, s10, s11, s12, s13, s14, s15, s16, s17, s18, s19, s20, s21, s22, s23, s24, s25, s26, s27, s28, s29, s30, s31, s32, s33, s34, s35, s36, s37, s38, s39, s40, s41, s42, s43, s44, s45, s46, s47, s48, s49, s50, s51, s52, s53, s54, s55, s56, s57, s58, s59, s60, s61, s62, s63, s64, s65, s66, s67, s68, s69, s70, s71, s72, s73, s74, s75, s76, s77, s78, s79, s80, s81, s82, s83, s84, s85, s86, s87, s88, s89, s90, s91, s92, s93, s94, s95, s96, s97, s98, s99, s100, s101, s102, s103, s104, s105, s106, s107, s108, s109, s110, s111, s112, s113] := { tl := rfl, t3 := rfl, t4 := rfl, t5 := rfl, t6 := rfl, ca0 := ca0.out, ca1 := ca1.out, cb0 := cb0.out, cb1 := cb1.out, cc0 := cc0.out, cc1 := cc1.out, la := la.out, lb := lb.out, lc := lc.out }
  have h0 : (⟨#[s0, s1, s2, .int .i64 k, .pointer (some ⟨gA, 0, none⟩), .pointer (some ⟨gB, 0, none⟩), .pointer (some ⟨gC, 0, none⟩), s7, s8, s9, s10, s11, s12, s13, s14, s15, s16, s17, s18, s19, s20, s21, s22, s23, s24, s25, s26, s27, s28, s29, s30, s31, s32, s33, s34, s35, s36, s37, s38, s39, s40, s41, s42, s43, s44, s45, s46, s47, s48, s49, s50, s51, s52, s53, s54, s55, s56, s57, s58, s59, s60, s61, s62, s63, s64, s65, s66, s67, s68, s69, s70, s71, s72, s73, s74, s75, s76, s77, s78, s79, s80, s81, s82, s83, s84, s85, s86, s87, s88, s89, s90, s91, s92, s93, s94, s95, s96, s97, s98, s99, s100, s101, s102, s103, s104, s105, s106, s107, s108, s109, s110, s111, s112, s113], []⟩ : Act) = frm2 sumsAD [s0, s1, s2, .int .i64 k, .pointer (some ⟨gA, 0, none⟩), .pointer (some ⟨gB, 0, none⟩), .pointer (some ⟨gC, 0, none⟩), s7, s8, s9, s10, s11, s12, s13, s14, s15, s16, s17, s18, s19, s20, s21, s22, s23, s24, s25, s26, s27, s28, s29, s30, s31, s32, s33, s34, s35, s36, s37, s38, s39, s40, s41, s42, s43, s44, s45, s46, s47, s48, s49, s50, s51, s52, s53, s54, s55, s56, s57, s58, s59, s60, s61, s62, s63, s64, s65, s66, s67, s68, s69, s70, s71, s72, s73, s74, s75, s76, s77, s78, s79, s80, s81, s82, s83, s84, s85, s86, s87, s88, s89, s90, s91, s92, s93, s94, s95, s96, s97, s98, s99, s100, s101, s102, s103, s104, s105, s106, s107, s108, s109, s110, s111, s112, s113] [s24, s25, s26, s27, s28, s29, s30, s31, s32, s33, s34, s35, s36, s37, s38, s39, s40, s41, s42, s43, s44, s45, s46, s47, s48, s49, s50, s51, s52, s53, s54, s55, s56, s57, s58, s59, s60] := rfl
  have hend : ∀ f : Nat → Value, frm2 sumsAD [s0, s1, s2, .int .i64 k, .pointer (some ⟨gA, 0, none⟩), .pointer (some ⟨gB, 0, none⟩), .pointer (some ⟨gC, 0, none⟩), s7, s8, s9, s10, s11, s12, s13, s14, s15, s16, s17, s18, s19, s20, s21, s22, s23, s24, s25, s26, s27, s28, s29, s30, s31, s32, s33, s34, s35, s36, s37, s38, s39, s40, s41, s42, s43, s44, s45, s46, s47, s48, s49, s50, s51, s52, s53, s54, s55, s56, s57, s58, s59, s60, s61, s62, s63, s64, s65, s66, s67, s68, s69, s70, s71, s72, s73, s74, s75, s76, s77, s78, s79, s80, s81, s82, s83, s84, s85, s86, s87, s88, s89, s90, s91, s92, s93, s94, s95, s96, s97, s98, s99, s100, s101, s102, s103, s104, s105, s106, s107, s108, s109, s110, s111, s112, s113] ((List.range 37).map f) = ⟨#[s0, s1, s2, .int .i64 k, .pointer (some ⟨gA, 0, none⟩), .pointer (some ⟨gB, 0, none⟩), .pointer (some ⟨gC, 0, none⟩), s7, s8, s9, s10, s11, s12, s13, s14, s15, s16, s17, s18, s19, s20, s21, s22, s23, f 0, f 1, f 2, f 3, f 4, f 5, f 6, f 7, f 8, f 9, f 10, f 11, f 12, f 13, f 14, f 15, f 16, f 17, f 18, f 19, f 20, f 21, f 22, f 23, f 24, f 25, f 26, f 27, f 28, f 29, f 30, f 31, f 32, f 33, f 34, f 35, f 36, s61, s62, s63, s64, s65, s66, s67, s68, s69, s70, s71, s72, s73, s74, s75, s76, s77, s78, s79, s80, s81, s82, s83, s84, s85, s86, s87, s88, s89, s90, s91, s92, s93, s94, s95, s96, s97, s98, s99, s100, s101, s102, s103, s104, s105, s106, s107, s108, s109, s110, s111, s112, s113], []⟩ := fun f => rfl
  rw [h0]
  clear h0
  have hex : ∀ (f : Nat → Value) (w' : World), f 0 = numV (a) → f 1 = numV (b) → f 2 = .int .i64 k → f 3 = numV (aN k (a) (b)) → f 4 = numV (b) → f 5 = numV (a) → f 6 = .int .i64 k → f 7 = numV (aN k (b) (a)) → f 8 = .bool false → f 9 = .bool false → f 10 = numV (a) → f 11 = numV (b) → f 12 = .int .i64 k → f 13 = numV (aN k (a) (b)) → f 14 = numV (cn) → f 15 = .int .i64 k → f 16 = numV (aN k (aN k (a) (b)) (cn)) → f 17 = numV (a) → f 18 = numV (b) → f 19 = numV (cn) → f 20 = .int .i64 k → f 21 = numV (aN k (b) (cn)) → f 22 = .int .i64 k → f 23 = numV (aN k (a) (aN k (b) (cn))) → f 24 = .bool false → f 25 = .bool false → f 26 = .bool false → f 27 = numV (a) → f 28 = numV (b) → f 29 = .int .i64 k → f 30 = numV (sN k (a) (b)) → f 31 = numV (b) → f 32 = .int .i64 k → f 33 = numV (aN k (sN k (a) (b)) (b)) → f 34 = numV (a) → f 35 = .bool false → f 36 = .bool false → Below WB.heap.size WB w' → Q .normal ⟨#[s0, s1, s2, .int .i64 k, .pointer (some ⟨gA, 0, none⟩), .pointer (some ⟨gB, 0, none⟩), .pointer (some ⟨gC, 0, none⟩), s7, s8, s9, s10, s11, s12, s13, s14, s15, s16, s17, s18, s19, s20, s21, s22, s23, f 0, f 1, f 2, f 3, f 4, f 5, f 6, f 7, f 8, f 9, f 10, f 11, f 12, f 13, f 14, f 15, f 16, f 17, f 18, f 19, f 20, f 21, f 22, f 23, f 24, f 25, f 26, f 27, f 28, f 29, f 30, f 31, f 32, f 33, f 34, f 35, f 36, s61, s62, s63, s64, s65, s66, s67, s68, s69, s70, s71, s72, s73, s74, s75, s76, s77, s78, s79, s80, s81, s82, s83, s84, s85, s86, s87, s88, s89, s90, s91, s92, s93, s94, s95, s96, s97, s98, s99, s100, s101, s102, s103, s104, s105, s106, s107, s108, s109, s110, s111, s112, s113], []⟩ w' := by
    intro f w' e0 e1 e2 e3 e4 e5 e6 e7 e8 e9 e10 e11 e12 e13 e14 e15 e16 e17 e18 e19 e20 e21 e22 e23 e24 e25 e26 e27 e28 e29 e30 e31 e32 e33 e34 e35 e36 a
    rw [e0, e1, e2, e3, e4, e5, e6, e7, e8, e9, e10, e11, e12, e13, e14, e15, e16, e17, e18, e19, e20, e21, e22, e23, e24, e25, e26, e27, e28, e29, e30, e31, e32, e33, e34, e35, e36]
    exact hexit w' a
  clear hexit
  generalize [s0, s1, s2, .int .i64 k, .pointer (some ⟨gA, 0, none⟩), .pointer (some ⟨gB, 0, none⟩), .pointer (some ⟨gC, 0, none⟩), s7, s8, s9, s10, s11, s12, s13, s14, s15, s16, s17, s18, s19, s20, s21, s22, s23, s24, s25, s26, s27, s28, s29, s30, s31, s32, s33, s34, s35, s36, s37, s38, s39, s40, s41, s42, s43, s44, s45, s46, s47, s48, s49, s50, s51, s52, s53, s54, s55, s56, s57, s58, s59, s60, s61, s62, s63, s64, s65, s66, s67, s68, s69, s70, s71, s72, s73, s74, s75, s76, s77, s78, s79, s80, s81, s82, s83, s84, s85, s86, s87, s88, s89, s90, s91, s92, s93, s94, s95, s96, s97, s98, s99, s100, s101, s102, s103, s104, s105, s106, s107, s108, s109, s110, s111, s112, s113] = T at *
  rw [sumsAO.2]
  show Code.wp Tryd.prog (.region 3 sumsAO.1 true) Q _ WB
  refine wp_region_inv2 (by kernel_rfl) (SJ (vaR WB (sumsAK gA gB gC a b cn k)) 37 sumsAD T) ?_ ?_ ?_ ?_
  · exact ⟨_, rfl, by rw [sumsAO_size]; simp, rfl, RW.init (fun i => did_none _ _) (Nat.le_refl _) (below_drewN (Below.refl _ _) 1)⟩
  · rintro L a w i hL hi hnd hdep ⟨l, hl, hLn, rfl, hI⟩
    have ht : VT Tryd.prog sumsAO.1 37 114 sumsAD WB (sumsAK gA gB gC a b cn k) T L l w i := ⟨c.tl, sumsAK_free, hl, hLn, hi, hnd, hI, hdep⟩
    match i, hi with
    | 0, _ => exact sumsA_s0 Q c ht
    | 1, _ => exact sumsA_s1 Q c ht
    | 2, _ => exact sumsA_s2 Q c ht
    | 3, _ => exact sumsA_s3 Q c ht
    | 4, _ => exact sumsA_s4 Q c ht
    | 5, _ => exact sumsA_s5 Q c ht
    | 6, _ => exact sumsA_s6 Q c ht
    | 7, _ => exact sumsA_s7 Q c ht
    | 8, _ => exact sumsA_s8 Q c ht
    | 9, _ => exact sumsA_s9 Q c ht
    | 10, _ => exact sumsA_s10 Q c ht
    | 11, _ => exact sumsA_s11 Q c ht
    | 12, _ => exact sumsA_s12 Q c ht
    | 13, _ => exact sumsA_s13 Q c ht
    | 14, _ => exact sumsA_s14 Q c ht
    | 15, _ => exact sumsA_s15 Q c ht
    | 16, _ => exact sumsA_s16 Q c ht
    | 17, _ => exact sumsA_s17 Q c ht
    | 18, _ => exact sumsA_s18 Q c ht
    | 19, _ => exact sumsA_s19 Q c ht
    | 20, _ => exact sumsA_s20 Q c ht
    | 21, _ => exact sumsA_s21 Q c ht
    | 22, _ => exact sumsA_s22 Q c ht
    | 23, _ => exact sumsA_s23 Q c ht
    | 24, _ => exact sumsA_s24 Q c ht
    | 25, _ => exact sumsA_s25 Q c ht
    | 26, _ => exact sumsA_s26 Q c ht
    | 27, _ => exact sumsA_s27 Q c ht
    | 28, _ => exact sumsA_s28 Q c ht
    | 29, _ => exact sumsA_s29 Q c ht
    | 30, _ => exact sumsA_s30 Q c ht
    | 31, _ => exact sumsA_s31 Q c ht
    | 32, _ => exact sumsA_s32 Q c ht
    | 33, _ => exact sumsA_s33 Q c ht
    | 34, _ => exact sumsA_s34 Q c ht
    | 35, _ => exact sumsA_s35 Q c ht
    | 36, _ => exact sumsA_s36 Q c ht
    | i + 37, hi => exact absurd hi (by rw [sumsAO_size]; omega)
  · exact sumsAO_back
  · rintro L a w hall ⟨l, hl, hLn, rfl, hI⟩
    have h1 := hend (nth l)
    rw [list_nth hl] at h1
    rw [h1]
    exact hex (nth l) w (hI.gotK 0 (hall 0 (by rw [sumsAO_size]; decide)) rfl) (hI.gotK 1 (hall 1 (by rw [sumsAO_size]; decide)) rfl) (hI.gotK 2 (hall 2 (by rw [sumsAO_size]; decide)) rfl) (hI.gotK 3 (hall 3 (by rw [sumsAO_size]; decide)) rfl) (hI.gotK 4 (hall 4 (by rw [sumsAO_size]; decide)) rfl) (hI.gotK 5 (hall 5 (by rw [sumsAO_size]; decide)) rfl) (hI.gotK 6 (hall 6 (by rw [sumsAO_size]; decide)) rfl) (hI.gotK 7 (hall 7 (by rw [sumsAO_size]; decide)) rfl) (hI.gotK 8 (hall 8 (by rw [sumsAO_size]; decide)) rfl) (hI.gotK 9 (hall 9 (by rw [sumsAO_size]; decide)) rfl) (hI.gotK 10 (hall 10 (by rw [sumsAO_size]; decide)) rfl) (hI.gotK 11 (hall 11 (by rw [sumsAO_size]; decide)) rfl) (hI.gotK 12 (hall 12 (by rw [sumsAO_size]; decide)) rfl) (hI.gotK 13 (hall 13 (by rw [sumsAO_size]; decide)) rfl) (hI.gotK 14 (hall 14 (by rw [sumsAO_size]; decide)) rfl) (hI.gotK 15 (hall 15 (by rw [sumsAO_size]; decide)) rfl) (hI.gotK 16 (hall 16 (by rw [sumsAO_size]; decide)) rfl) (hI.gotK 17 (hall 17 (by rw [sumsAO_size]; decide)) rfl) (hI.gotK 18 (hall 18 (by rw [sumsAO_size]; decide)) rfl) (hI.gotK 19 (hall 19 (by rw [sumsAO_size]; decide)) rfl) (hI.gotK 20 (hall 20 (by rw [sumsAO_size]; decide)) rfl) (hI.gotK 21 (hall 21 (by rw [sumsAO_size]; decide)) rfl) (hI.gotK 22 (hall 22 (by rw [sumsAO_size]; decide)) rfl) (hI.gotK 23 (hall 23 (by rw [sumsAO_size]; decide)) rfl) (hI.gotK 24 (hall 24 (by rw [sumsAO_size]; decide)) rfl) (hI.gotK 25 (hall 25 (by rw [sumsAO_size]; decide)) rfl) (hI.gotK 26 (hall 26 (by rw [sumsAO_size]; decide)) rfl) (hI.gotK 27 (hall 27 (by rw [sumsAO_size]; decide)) rfl) (hI.gotK 28 (hall 28 (by rw [sumsAO_size]; decide)) rfl) (hI.gotK 29 (hall 29 (by rw [sumsAO_size]; decide)) rfl) (hI.gotK 30 (hall 30 (by rw [sumsAO_size]; decide)) rfl) (hI.gotK 31 (hall 31 (by rw [sumsAO_size]; decide)) rfl) (hI.gotK 32 (hall 32 (by rw [sumsAO_size]; decide)) rfl) (hI.gotK 33 (hall 33 (by rw [sumsAO_size]; decide)) rfl) (hI.gotK 34 (hall 34 (by rw [sumsAO_size]; decide)) rfl) (hI.gotK 35 (hall 35 (by rw [sumsAO_size]; decide)) rfl) (hI.gotK 36 (hall 36 (by rw [sumsAO_size]; decide)) rfl) hI.glob

abbrev sumsBD : List (Option Nat) := [some 61, some 62, some 63, some 64, some 65, some 66, some 67, some 68, some 69, some 70, some 71, some 72, some 73, some 74, some 75, some 76, some 77, some 78, some 79, some 80, some 81, some 82, some 83, some 84, some 85, some 86, some 87, some 88, some 89, some 90, some 91, some 92, some 93, some 94]
noncomputable def sumsBO : { c : Array Oper // (Tryd.f4.body.bind (findRegion 5)) = some (.region 5 c true) } := ⟨_, rfl⟩
theorem sumsBO_size : sumsBO.1.size = 34 := rfl
theorem sumsBO0 : ∃ o, sumsBO.1[0]? = some o ∧ o.dst = some 61 ∧ o.guard = none ∧ o.op = Go.Op.load 24 (Go.Operand.tmp 4) := ⟨_, rfl, rfl, rfl, rfl⟩
theorem sumsBO1 : ∃ o, sumsBO.1[1]? = some o ∧ o.dst = some 62 ∧ o.guard = none ∧ o.op = Go.Op.load 24 (Go.Operand.tmp 5) := ⟨_, rfl, rfl, rfl, rfl⟩
theorem sumsBO2 : ∃ o, sumsBO.1[2]? = some o ∧ o.dst = some 63 ∧ o.guard = none ∧ o.op = Go.Op.move (Go.Operand.tmp 3) := ⟨_, rfl, rfl, rfl, rfl⟩
theorem sumsBO3 : ∃ o, sumsBO.1[3]? = some o ∧ o.dst = some 64 ∧ o.guard = none ∧ o.op = Go.Op.call { callee := Go.Callee.value (Go.Operand.func 13), args := #[Go.Operand.tmp 61, Go.Operand.tmp 62, Go.Operand.tmp 63], argTypes := #[24, 24, 3] } := ⟨_, rfl, rfl, rfl, rfl⟩
theorem sumsBO4 : ∃ o, sumsBO.1[4]? = some o ∧ o.dst = some 65 ∧ o.guard = none ∧ o.op = Go.Op.load 24 (Go.Operand.tmp 4) := ⟨_, rfl, rfl, rfl, rfl⟩
theorem sumsBO5 : ∃ o, sumsBO.1[5]? = some o ∧ o.dst = some 66 ∧ o.guard = none ∧ o.op = Go.Op.load 24 (Go.Operand.tmp 5) := ⟨_, rfl, rfl, rfl, rfl⟩
theorem sumsBO6 : ∃ o, sumsBO.1[6]? = some o ∧ o.dst = some 67 ∧ o.guard = none ∧ o.op = Go.Op.move (Go.Operand.tmp 3) := ⟨_, rfl, rfl, rfl, rfl⟩
theorem sumsBO7 : ∃ o, sumsBO.1[7]? = some o ∧ o.dst = some 68 ∧ o.guard = none ∧ o.op = Go.Op.call { callee := Go.Callee.value (Go.Operand.func 14), args := #[Go.Operand.tmp 66, Go.Operand.tmp 67], argTypes := #[24, 3] } := ⟨_, rfl, rfl, rfl, rfl⟩
theorem sumsBO8 : ∃ o, sumsBO.1[8]? = some o ∧ o.dst = some 69 ∧ o.guard = none ∧ o.op = Go.Op.call { callee := Go.Callee.value (Go.Operand.func 15), args := #[Go.Operand.const (Go.Value.int Go.IntKind.u64 1)], argTypes := #[22] } := ⟨_, rfl, rfl, rfl, rfl⟩
theorem sumsBO9 : ∃ o, sumsBO.1[9]? = some o ∧ o.dst = some 70 ∧ o.guard = none ∧ o.op = Go.Op.move (Go.Operand.tmp 3) := ⟨_, rfl, rfl, rfl, rfl⟩
theorem sumsBO10 : ∃ o, sumsBO.1[10]? = some o ∧ o.dst = some 71 ∧ o.guard = none ∧ o.op = Go.Op.call { callee := Go.Callee.value (Go.Operand.func 12), args := #[Go.Operand.tmp 68, Go.Operand.tmp 69, Go.Operand.tmp 70], argTypes := #[24, 24, 3] } := ⟨_, rfl, rfl, rfl, rfl⟩
theorem sumsBO11 : ∃ o, sumsBO.1[11]? = some o ∧ o.dst = some 72 ∧ o.guard = none ∧ o.op = Go.Op.move (Go.Operand.tmp 3) := ⟨_, rfl, rfl, rfl, rfl⟩
theorem sumsBO12 : ∃ o, sumsBO.1[12]? = some o ∧ o.dst = some 73 ∧ o.guard = none ∧ o.op = Go.Op.call { callee := Go.Callee.value (Go.Operand.func 12), args := #[Go.Operand.tmp 65, Go.Operand.tmp 71, Go.Operand.tmp 72], argTypes := #[24, 24, 3] } := ⟨_, rfl, rfl, rfl, rfl⟩
theorem sumsBO13 : ∃ o, sumsBO.1[13]? = some o ∧ o.dst = some 74 ∧ o.guard = none ∧ o.op = Go.Op.binOp Go.BinOp.neq 24 (Go.Operand.tmp 64) (Go.Operand.tmp 73) 24 := ⟨_, rfl, rfl, rfl, rfl⟩
theorem sumsBO14 : ∃ o, sumsBO.1[14]? = some o ∧ o.dst = some 75 ∧ o.guard = none ∧ o.op = Go.Op.move (Go.Operand.tmp 74) := ⟨_, rfl, rfl, rfl, rfl⟩
theorem sumsBO15 : ∃ o, sumsBO.1[15]? = some o ∧ o.dst = some 76 ∧ o.guard = some (14, false) ∧ o.op = Go.Op.load 24 (Go.Operand.tmp 4) := ⟨_, rfl, rfl, rfl, rfl⟩
theorem sumsBO16 : ∃ o, sumsBO.1[16]? = some o ∧ o.dst = some 77 ∧ o.guard = some (14, false) ∧ o.op = Go.Op.load 24 (Go.Operand.tmp 5) := ⟨_, rfl, rfl, rfl, rfl⟩
theorem sumsBO17 : ∃ o, sumsBO.1[17]? = some o ∧ o.dst = some 78 ∧ o.guard = some (14, false) ∧ o.op = Go.Op.call { callee := Go.Callee.value (Go.Operand.func 16), args := #[Go.Operand.tmp 76, Go.Operand.tmp 77], argTypes := #[24, 24] } := ⟨_, rfl, rfl, rfl, rfl⟩
theorem sumsBO18 : ∃ o, sumsBO.1[18]? = some o ∧ o.dst = some 79 ∧ o.guard = some (14, false) ∧ o.op = Go.Op.binOp Go.BinOp.lss 3 (Go.Operand.tmp 78) (Go.Operand.const (Go.Value.int Go.IntKind.i64 0)) 3 := ⟨_, rfl, rfl, rfl, rfl⟩
theorem sumsBO19 : ∃ o, sumsBO.1[19]? = some o ∧ o.dst = some 80 ∧ o.guard = some (14, false) ∧ o.op = Go.Op.load 24 (Go.Operand.tmp 5) := ⟨_, rfl, rfl, rfl, rfl⟩
theorem sumsBO20 : ∃ o, sumsBO.1[20]? = some o ∧ o.dst = some 81 ∧ o.guard = some (14, false) ∧ o.op = Go.Op.load 24 (Go.Operand.tmp 4) := ⟨_, rfl, rfl, rfl, rfl⟩
theorem sumsBO21 : ∃ o, sumsBO.1[21]? = some o ∧ o.dst = some 82 ∧ o.guard = some (14, false) ∧ o.op = Go.Op.call { callee := Go.Callee.value (Go.Operand.func 16), args := #[Go.Operand.tmp 80, Go.Operand.tmp 81], argTypes := #[24, 24] } := ⟨_, rfl, rfl, rfl, rfl⟩
theorem sumsBO22 : ∃ o, sumsBO.1[22]? = some o ∧ o.dst = some 83 ∧ o.guard = some (14, false) ∧ o.op = Go.Op.binOp Go.BinOp.gtr 3 (Go.Operand.tmp 82) (Go.Operand.const (Go.Value.int Go.IntKind.i64 0)) 3 := ⟨_, rfl, rfl, rfl, rfl⟩
theorem sumsBO23 : ∃ o, sumsBO.1[23]? = some o ∧ o.dst = some 84 ∧ o.guard = some (14, false) ∧ o.op = Go.Op.binOp Go.BinOp.neq 4 (Go.Operand.tmp 79) (Go.Operand.tmp 83) 4 := ⟨_, rfl, rfl, rfl, rfl⟩
theorem sumsBO24 : ∃ o, sumsBO.1[24]? = some o ∧ o.dst = some 85 ∧ o.guard = none ∧ o.op = Go.Op.pick (Go.Operand.tmp 75) (Go.Operand.const (Go.Value.bool true)) (Go.Operand.tmp 84) := ⟨_, rfl, rfl, rfl, rfl⟩
theorem sumsBO25 : ∃ o, sumsBO.1[25]? = some o ∧ o.dst = some 86 ∧ o.guard = none ∧ o.op = Go.Op.move (Go.Operand.tmp 85) := ⟨_, rfl, rfl, rfl, rfl⟩
theorem sumsBO26 : ∃ o, sumsBO.1[26]? = some o ∧ o.dst = some 87 ∧ o.guard = some (25, false) ∧ o.op = Go.Op.load 24 (Go.Operand.tmp 4) := ⟨_, rfl, rfl, rfl, rfl⟩
theorem sumsBO27 : ∃ o, sumsBO.1[27]? = some o ∧ o.dst = some 88 ∧ o.guard = some (25, false) ∧ o.op = Go.Op.load 24 (Go.Operand.tmp 5) := ⟨_, rfl, rfl, rfl, rfl⟩
theorem sumsBO28 : ∃ o, sumsBO.1[28]? = some o ∧ o.dst = some 89 ∧ o.guard = some (25, false) ∧ o.op = Go.Op.move (Go.Operand.tmp 3) := ⟨_, rfl, rfl, rfl, rfl⟩
theorem sumsBO29 : ∃ o, sumsBO.1[29]? = some o ∧ o.dst = some 90 ∧ o.guard = some (25, false) ∧ o.op = Go.Op.call { callee := Go.Callee.value (Go.Operand.func 12), args := #[Go.Operand.tmp 87, Go.Operand.tmp 88, Go.Operand.tmp 89], argTypes := #[24, 24, 3] } := ⟨_, rfl, rfl, rfl, rfl⟩
theorem sumsBO30 : ∃ o, sumsBO.1[30]? = some o ∧ o.dst = some 91 ∧ o.guard = some (25, false) ∧ o.op = Go.Op.move (Go.Operand.tmp 3) := ⟨_, rfl, rfl, rfl, rfl⟩
theorem sumsBO31 : ∃ o, sumsBO.1[31]? = some o ∧ o.dst = some 92 ∧ o.guard = some (25, false) ∧ o.op = Go.Op.call { callee := Go.Callee.value (Go.Operand.func 17), args := #[Go.Operand.tmp 90, Go.Operand.tmp 91], argTypes := #[24, 3] } := ⟨_, rfl, rfl, rfl, rfl⟩
theorem sumsBO32 : ∃ o, sumsBO.1[32]? = some o ∧ o.dst = some 93 ∧ o.guard = some (25, false) ∧ o.op = Go.Op.unOp Go.UnOp.not 4 (Go.Operand.tmp 92) := ⟨_, rfl, rfl, rfl, rfl⟩
theorem sumsBO33 : ∃ o, sumsBO.1[33]? = some o ∧ o.dst = some 94 ∧ o.guard = none ∧ o.op = Go.Op.pick (Go.Operand.tmp 86) (Go.Operand.const (Go.Value.bool true)) (Go.Operand.tmp 93) := ⟨_, rfl, rfl, rfl, rfl⟩
theorem sumsBO_back : ∀ (i : Nat) (o : Oper), sumsBO.1[i]? = some o → ∀ e ∈ o.after, Region.binds .any e = true → e.on < i := by
  have h : ((List.range 34).all fun i => (sumsBO.1[i]?.map fun o => o.after.all fun e => !Region.binds .any e || decide (e.on < i)).getD false) = true := by kernel_rfl
  intro i o ho e he hb
  have hi : i < 34 := by
    by_cases q : i < 34
    · exact q
    · rw [Array.getElem?_eq_none (by rw [sumsBO_size]; omega)] at ho; cases ho
  have h2 := List.all_eq_true.1 h i (List.mem_range.2 hi)
  rw [ho] at h2
  simp only [Option.map_some, Option.getD_some, Array.all_eq_true'] at h2
  have h3 := h2 e he
  rw [hb] at h3
  simpa using h3
def sumsBK (gA gB gC a b cn : Nat) (k : Int) : List (List Nat × Tw) := [isJ [] (numV (a)), isJ [] (numV (b)), isJ [] (.int .i64 k), isJ [] (numV (sN k (a) (b))), isJ [] (numV (a)), isJ [] (numV (b)), isJ [] (.int .i64 k), isJ [] (numV (nN k (b))), isJ [] (numV (1)), isJ [] (.int .i64 k), isJ [] (numV (aN k (nN k (b)) (1))), isJ [] (.int .i64 k), isJ [] (numV (aN k (a) (aN k (nN k (b)) (1)))), isJ [] (.bool false), isJ [] (.bool false), isJ [] (numV (a)), isJ [] (numV (b)), isJ [] (.int .i64 (cmpI a b)), isJ [] (.bool (decide (cmpI a b < 0))), isJ [] (numV (b)), isJ [] (numV (a)), isJ [] (.int .i64 (cmpI b a)), isJ [] (.bool (decide (0 < cmpI b a))), isJ [] (.bool false), isJ [] (.bool false), isJ [] (.bool false), isJ [] (numV (a)), isJ [] (numV (b)), isJ [] (.int .i64 k), isJ [] (numV (aN k (a) (b))), isJ [] (.int .i64 k), isJ [] (.bool true), isJ [] (.bool false), isJ [] (.bool false)]
theorem sumsBK_free {gA gB gC a b cn : Nat} {k : Int} : KdFree (sumsBK gA gB gC a b cn k) := fun i js P hk B w w' ls v hp => by
  match i, hk with
  | 0, hk => cases hk; exact hp
  | 1, hk => cases hk; exact hp
  | 2, hk => cases hk; exact hp
  | 3, hk => cases hk; exact hp
  | 4, hk => cases hk; exact hp
  | 5, hk => cases hk; exact hp
  | 6, hk => cases hk; exact hp
  | 7, hk => cases hk; exact hp
  | 8, hk => cases hk; exact hp
  | 9, hk => cases hk; exact hp
  | 10, hk => cases hk; exact hp
  | 11, hk => cases hk; exact hp
  | 12, hk => cases hk; exact hp
  | 13, hk => cases hk; exact hp
  | 14, hk => cases hk; exact hp
  | 15, hk => cases hk; exact hp
  | 16, hk => cases hk; exact hp
  | 17, hk => cases hk; exact hp
  | 18, hk => cases hk; exact hp
  | 19, hk => cases hk; exact hp
  | 20, hk => cases hk; exact hp
  | 21, hk => cases hk; exact hp
  | 22, hk => cases hk; exact hp
  | 23, hk => cases hk; exact hp
  | 24, hk => cases hk; exact hp
  | 25, hk => cases hk; exact hp
  | 26, hk => cases hk; exact hp
  | 27, hk => cases hk; exact hp
  | 28, hk => cases hk; exact hp
  | 29, hk => cases hk; exact hp
  | 30, hk => cases hk; exact hp
  | 31, hk => cases hk; exact hp
  | 32, hk => cases hk; exact hp
  | 33, hk => cases hk; exact hp
  | i + 34, hk => simp [sumsBK] at hk
structure sumsBC (gA gB gC a b cn : Nat) (k : Int) (WB : World) (T : List Value) : Prop where
  tl : T.length = 114
  t3 : nth T 3 = .int .i64 k
  t4 : nth T 4 = .pointer (some ⟨gA, 0, none⟩)
  t5 : nth T 5 = .pointer (some ⟨gB, 0, none⟩)
  t6 : nth T 6 = .pointer (some ⟨gC, 0, none⟩)
  ca0 : WB.cell? ⟨gA, 0, none⟩ = some (.int .u64 ((a / B : Nat) : Int))
  ca1 : WB.cell? ⟨gA, 1, none⟩ = some (.int .u64 ((a % B : Nat) : Int))
  cb0 : WB.cell? ⟨gB, 0, none⟩ = some (.int .u64 ((b / B : Nat) : Int))
  cb1 : WB.cell? ⟨gB, 1, none⟩ = some (.int .u64 ((b % B : Nat) : Int))
  cc0 : WB.cell? ⟨gC, 0, none⟩ = some (.int .u64 ((cn / B : Nat) : Int))
  cc1 : WB.cell? ⟨gC, 1, none⟩ = some (.int .u64 ((cn % B : Nat) : Int))
  la : a < 2 ^ sh k
  lb : b < 2 ^ sh k
  lc : cn < 2 ^ sh k
set_option maxRecDepth 100000 in
set_option maxHeartbeats 1000000 in
theorem sumsB_s0 {gA gB gC a b cn : Nat} {k : Int} {WB w : World} {T l : List Value} {L : Array Bool} (Q : Exit → Act → World → Prop) (c : sumsBC gA gB gC a b cn k WB T) (h : VT Tryd.prog sumsBO.1 34 114 sumsBD WB (sumsBK gA gB gC a b cn k) T L l w 0) : wpOp Tryd.prog sumsBO.1 Q 0 (SJ (vaR WB (sumsBK gA gB gC a b cn k)) 34 sumsBD T (L.setIfInBounds 0 true)) (frm2 sumsBD T l) w := by
  obtain ⟨o, ho, hd, hg, hop⟩ := sumsBO0
  have hw := wanted_un (ops := sumsBO.1) (t := (frm2 sumsBD T l).tmps) hg
  exact h.same (v := numV (a)) ho hd rfl hw rfl (ex_load_n hop ((h.old (s := 4) rfl (by decide)).trans c.t4) (h.cell c.ca0) (h.cell c.ca1))

set_option maxRecDepth 100000 in
set_option maxHeartbeats 1000000 in
theorem sumsB_s1 {gA gB gC a b cn : Nat} {k : Int} {WB w : World} {T l : List Value} {L : Array Bool} (Q : Exit → Act → World → Prop) (c : sumsBC gA gB gC a b cn k WB T) (h : VT Tryd.prog sumsBO.1 34 114 sumsBD WB (sumsBK gA gB gC a b cn k) T L l w 1) : wpOp Tryd.prog sumsBO.1 Q 1 (SJ (vaR WB (sumsBK gA gB gC a b cn k)) 34 sumsBD T (L.setIfInBounds 1 true)) (frm2 sumsBD T l) w := by
  obtain ⟨o, ho, hd, hg, hop⟩ := sumsBO1
  have hw := wanted_un (ops := sumsBO.1) (t := (frm2 sumsBD T l).tmps) hg
  exact h.same (v := numV (b)) ho hd rfl hw rfl (ex_load_n hop ((h.old (s := 5) rfl (by decide)).trans c.t5) (h.cell c.cb0) (h.cell c.cb1))

set_option maxRecDepth 100000 in
set_option maxHeartbeats 1000000 in
theorem sumsB_s2 {gA gB gC a b cn : Nat} {k : Int} {WB w : World} {T l : List Value} {L : Array Bool} (Q : Exit → Act → World → Prop) (c : sumsBC gA gB gC a b cn k WB T) (h : VT Tryd.prog sumsBO.1 34 114 sumsBD WB (sumsBK gA gB gC a b cn k) T L l w 2) : wpOp Tryd.prog sumsBO.1 Q 2 (SJ (vaR WB (sumsBK gA gB gC a b cn k)) 34 sumsBD T (L.setIfInBounds 2 true)) (frm2 sumsBD T l) w := by
  obtain ⟨o, ho, hd, hg, hop⟩ := sumsBO2
  have hw := wanted_un (ops := sumsBO.1) (t := (frm2 sumsBD T l).tmps) hg
  exact h.same (v := .int .i64 k) ho hd rfl hw rfl (ex_move hop ((h.old (s := 3) rfl (by decide)).trans c.t3))

set_option maxRecDepth 100000 in
set_option maxHeartbeats 1000000 in
theorem sumsB_s3 {gA gB gC a b cn : Nat} {k : Int} {WB w : World} {T l : List Value} {L : Array Bool} (Q : Exit → Act → World → Prop) (c : sumsBC gA gB gC a b cn k WB T) (h : VT Tryd.prog sumsBO.1 34 114 sumsBD WB (sumsBK gA gB gC a b cn k) T L l w 3) : wpOp Tryd.prog sumsBO.1 Q 3 (SJ (vaR WB (sumsBK gA gB gC a b cn k)) 34 sumsBD T (L.setIfInBounds 3 true)) (frm2 sumsBD T l) w := by
  obtain ⟨o, ho, hd, hg, hop⟩ := sumsBO3
  have hw := wanted_un (ops := sumsBO.1) (t := (frm2 sumsBD T l).tmps) hg
  have x61 := ((h.new (s := 61) (j := 0) rfl (by decide)).trans (h.rw.gotK 0 (dep_of (a := 0) (by kernel_rfl) h.dep) rfl))
  have x62 := ((h.new (s := 62) (j := 1) rfl (by decide)).trans (h.rw.gotK 1 (dep_of (a := 1) (by kernel_rfl) h.dep) rfl))
  have x63 := ((h.new (s := 63) (j := 2) rfl (by decide)).trans (h.rw.gotK 2 (dep_of (a := 2) (by kernel_rfl) h.dep) rfl))
  exact h.call (v := numV (sN k (a) (b))) ho hd rfl hw rfl (ex_call hop rfl rfl (args := #[numV (a), numV (b), .int .i64 k]) (all := #[numV (a), numV (b), .int .i64 k]) (by simp only [List.map_toArray, List.map_cons, List.map_nil]; rw [x61, x62, x63]) (by simp) (fun av W => by kernel_rfl)) (numSub_any (a) (b) k w (lt_of_pow c.la) (lt_of_pow c.lb))

set_option maxRecDepth 100000 in
set_option maxHeartbeats 1000000 in
theorem sumsB_s4 {gA gB gC a b cn : Nat} {k : Int} {WB w : World} {T l : List Value} {L : Array Bool} (Q : Exit → Act → World → Prop) (c : sumsBC gA gB gC a b cn k WB T) (h : VT Tryd.prog sumsBO.1 34 114 sumsBD WB (sumsBK gA gB gC a b cn k) T L l w 4) : wpOp Tryd.prog sumsBO.1 Q 4 (SJ (vaR WB (sumsBK gA gB gC a b cn k)) 34 sumsBD T (L.setIfInBounds 4 true)) (frm2 sumsBD T l) w := by
  obtain ⟨o, ho, hd, hg, hop⟩ := sumsBO4
  have hw := wanted_un (ops := sumsBO.1) (t := (frm2 sumsBD T l).tmps) hg
  exact h.same (v := numV (a)) ho hd rfl hw rfl (ex_load_n hop ((h.old (s := 4) rfl (by decide)).trans c.t4) (h.cell c.ca0) (h.cell c.ca1))

set_option maxRecDepth 100000 in
set_option maxHeartbeats 1000000 in
theorem sumsB_s5 {gA gB gC a b cn : Nat} {k : Int} {WB w : World} {T l : List Value} {L : Array Bool} (Q : Exit → Act → World → Prop) (c : sumsBC gA gB gC a b cn k WB T) (h : VT Tryd.prog sumsBO.1 34 114 sumsBD WB (sumsBK gA gB gC a b cn k) T L l w 5) : wpOp Tryd.prog sumsBO.1 Q 5 (SJ (vaR WB (sumsBK gA gB gC a b cn k)) 34 sumsBD T (L.setIfInBounds 5 true)) (frm2 sumsBD T l) w := by
  obtain ⟨o, ho, hd, hg, hop⟩ := sumsBO5
  have hw := wanted_un (ops := sumsBO.1) (t := (frm2 sumsBD T l).tmps) hg
  exact h.same (v := numV (b)) ho hd rfl hw rfl (ex_load_n hop ((h.old (s := 5) rfl (by decide)).trans c.t5) (h.cell c.cb0) (h.cell c.cb1))

set_option maxRecDepth 100000 in
set_option maxHeartbeats 1000000 in
theorem sumsB_s6 {gA gB gC a b cn : Nat} {k : Int} {WB w : World} {T l : List Value} {L : Array Bool} (Q : Exit → Act → World → Prop) (c : sumsBC gA gB gC a b cn k WB T) (h : VT Tryd.prog sumsBO.1 34 114 sumsBD WB (sumsBK gA gB gC a b cn k) T L l w 6) : wpOp Tryd.prog sumsBO.1 Q 6 (SJ (vaR WB (sumsBK gA gB gC a b cn k)) 34 sumsBD T (L.setIfInBounds 6 true)) (frm2 sumsBD T l) w := by
  obtain ⟨o, ho, hd, hg, hop⟩ := sumsBO6
  have hw := wanted_un (ops := sumsBO.1) (t := (frm2 sumsBD T l).tmps) hg
  exact h.same (v := .int .i64 k) ho hd rfl hw rfl (ex_move hop ((h.old (s := 3) rfl (by decide)).trans c.t3))

set_option maxRecDepth 100000 in
set_option maxHeartbeats 1000000 in
theorem sumsB_s7 {gA gB gC a b cn : Nat} {k : Int} {WB w : World} {T l : List Value} {L : Array Bool} (Q : Exit → Act → World → Prop) (c : sumsBC gA gB gC a b cn k WB T) (h : VT Tryd.prog sumsBO.1 34 114 sumsBD WB (sumsBK gA gB gC a b cn k) T L l w 7) : wpOp Tryd.prog sumsBO.1 Q 7 (SJ (vaR WB (sumsBK gA gB gC a b cn k)) 34 sumsBD T (L.setIfInBounds 7 true)) (frm2 sumsBD T l) w := by
  obtain ⟨o, ho, hd, hg, hop⟩ := sumsBO7
  have hw := wanted_un (ops := sumsBO.1) (t := (frm2 sumsBD T l).tmps) hg
  have x66 := ((h.new (s := 66) (j := 5) rfl (by decide)).trans (h.rw.gotK 5 (dep_of (a := 5) (by kernel_rfl) h.dep) rfl))
  have x67 := ((h.new (s := 67) (j := 6) rfl (by decide)).trans (h.rw.gotK 6 (dep_of (a := 6) (by kernel_rfl) h.dep) rfl))
  exact h.call (v := numV (nN k (b))) ho hd rfl hw rfl (ex_call hop rfl rfl (args := #[numV (b), .int .i64 k]) (all := #[numV (b), .int .i64 k]) (by simp only [List.map_toArray, List.map_cons, List.map_nil]; rw [x66, x67]) (by simp) (fun av W => by kernel_rfl)) (numNot_any (b) k w (lt_of_pow c.lb))

set_option maxRecDepth 100000 in
set_option maxHeartbeats 1000000 in
theorem sumsB_s8 {gA gB gC a b cn : Nat} {k : Int} {WB w : World} {T l : List Value} {L : Array Bool} (Q : Exit → Act → World → Prop) (c : sumsBC gA gB gC a b cn k WB T) (h : VT Tryd.prog sumsBO.1 34 114 sumsBD WB (sumsBK gA gB gC a b cn k) T L l w 8) : wpOp Tryd.prog sumsBO.1 Q 8 (SJ (vaR WB (sumsBK gA gB gC a b cn k)) 34 sumsBD T (L.setIfInBounds 8 true)) (frm2 sumsBD T l) w := by
  obtain ⟨o, ho, hd, hg, hop⟩ := sumsBO8
  have hw := wanted_un (ops := sumsBO.1) (t := (frm2 sumsBD T l).tmps) hg
  exact h.call (v := numV (1)) ho hd rfl hw rfl (ex_call hop rfl rfl (args := #[.int .u64 1]) (all := #[.int .u64 1]) (by simp only [List.map_toArray, List.map_cons, List.map_nil]; rfl) (by simp) (fun av W => by kernel_rfl)) (numOf_any 1 (by unfold B; decide) w)

set_option maxRecDepth 100000 in
set_option maxHeartbeats 1000000 in
theorem sumsB_s9 {gA gB gC a b cn : Nat} {k : Int} {WB w : World} {T l : List Value} {L : Array Bool} (Q : Exit → Act → World → Prop) (c : sumsBC gA gB gC a b cn k WB T) (h : VT Tryd.prog sumsBO.1 34 114 sumsBD WB (sumsBK gA gB gC a b cn k) T L l w 9) : wpOp Tryd.prog sumsBO.1 Q 9 (SJ (vaR WB (sumsBK gA gB gC a b cn k)) 34 sumsBD T (L.setIfInBounds 9 true)) (frm2 sumsBD T l) w := by
  obtain ⟨o, ho, hd, hg, hop⟩ := sumsBO9
  have hw := wanted_un (ops := sumsBO.1) (t := (frm2 sumsBD T l).tmps) hg
  exact h.same (v := .int .i64 k) ho hd rfl hw rfl (ex_move hop ((h.old (s := 3) rfl (by decide)).trans c.t3))

set_option maxRecDepth 100000 in
set_option maxHeartbeats 1000000 in
theorem sumsB_s10 {gA gB gC a b cn : Nat} {k : Int} {WB w : World} {T l : List Value} {L : Array Bool} (Q : Exit → Act → World → Prop) (c : sumsBC gA gB gC a b cn k WB T) (h : VT Tryd.prog sumsBO.1 34 114 sumsBD WB (sumsBK gA gB gC a b cn k) T L l w 10) : wpOp Tryd.prog sumsBO.1 Q 10 (SJ (vaR WB (sumsBK gA gB gC a b cn k)) 34 sumsBD T (L.setIfInBounds 10 true)) (frm2 sumsBD T l) w := by
  obtain ⟨o, ho, hd, hg, hop⟩ := sumsBO10
  have hw := wanted_un (ops := sumsBO.1) (t := (frm2 sumsBD T l).tmps) hg
  have x68 := ((h.new (s := 68) (j := 7) rfl (by decide)).trans (h.rw.gotK 7 (dep_of (a := 7) (by kernel_rfl) h.dep) rfl))
  have x69 := ((h.new (s := 69) (j := 8) rfl (by decide)).trans (h.rw.gotK 8 (dep_of (a := 8) (by kernel_rfl) h.dep) rfl))
  have x70 := ((h.new (s := 70) (j := 9) rfl (by decide)).trans (h.rw.gotK 9 (dep_of (a := 9) (by kernel_rfl) h.dep) rfl))
  exact h.call (v := numV (aN k (nN k (b)) (1))) ho hd rfl hw rfl (ex_call hop rfl rfl (args := #[numV (nN k (b)), numV (1), .int .i64 k]) (all := #[numV (nN k (b)), numV (1), .int .i64 k]) (by simp only [List.map_toArray, List.map_cons, List.map_nil]; rw [x68, x69, x70]) (by simp) (fun av W => by kernel_rfl)) (numAdd_any (nN k (b)) (1) k w (lt_of_pow (nN_lt k (b))) (by unfold B; decide))

set_option maxRecDepth 100000 in
set_option maxHeartbeats 1000000 in
theorem sumsB_s11 {gA gB gC a b cn : Nat} {k : Int} {WB w : World} {T l : List Value} {L : Array Bool} (Q : Exit → Act → World → Prop) (c : sumsBC gA gB gC a b cn k WB T) (h : VT Tryd.prog sumsBO.1 34 114 sumsBD WB (sumsBK gA gB gC a b cn k) T L l w 11) : wpOp Tryd.prog sumsBO.1 Q 11 (SJ (vaR WB (sumsBK gA gB gC a b cn k)) 34 sumsBD T (L.setIfInBounds 11 true)) (frm2 sumsBD T l) w := by
  obtain ⟨o, ho, hd, hg, hop⟩ := sumsBO11
  have hw := wanted_un (ops := sumsBO.1) (t := (frm2 sumsBD T l).tmps) hg
  exact h.same (v := .int .i64 k) ho hd rfl hw rfl (ex_move hop ((h.old (s := 3) rfl (by decide)).trans c.t3))

set_option maxRecDepth 100000 in
set_option maxHeartbeats 1000000 in
theorem sumsB_s12 {gA gB gC a b cn : Nat} {k : Int} {WB w : World} {T l : List Value} {L : Array Bool} (Q : Exit → Act → World → Prop) (c : sumsBC gA gB gC a b cn k WB T) (h : VT Tryd.prog sumsBO.1 34 114 sumsBD WB (sumsBK gA gB gC a b cn k) T L l w 12) : wpOp Tryd.prog sumsBO.1 Q 12 (SJ (vaR WB (sumsBK gA gB gC a b cn k)) 34 sumsBD T (L.setIfInBounds 12 true)) (frm2 sumsBD T l) w := by
  obtain ⟨o, ho, hd, hg, hop⟩ := sumsBO12
  have hw := wanted_un (ops := sumsBO.1) (t := (frm2 sumsBD T l).tmps) hg
  have x65 := ((h.new (s := 65) (j := 4) rfl (by decide)).trans (h.rw.gotK 4 (dep_of (a := 4) (by kernel_rfl) h.dep) rfl))
  have x71 := ((h.new (s := 71) (j := 10) rfl (by decide)).trans (h.rw.gotK 10 (dep_of (a := 10) (by kernel_rfl) h.dep) rfl))
  have x72 := ((h.new (s := 72) (j := 11) rfl (by decide)).trans (h.rw.gotK 11 (dep_of (a := 11) (by kernel_rfl) h.dep) rfl))
  exact h.call (v := numV (aN k (a) (aN k (nN k (b)) (1)))) ho hd rfl hw rfl (ex_call hop rfl rfl (args := #[numV (a), numV (aN k (nN k (b)) (1)), .int .i64 k]) (all := #[numV (a), numV (aN k (nN k (b)) (1)), .int .i64 k]) (by simp only [List.map_toArray, List.map_cons, List.map_nil]; rw [x65, x71, x72]) (by simp) (fun av W => by kernel_rfl)) (numAdd_any (a) (aN k (nN k (b)) (1)) k w (lt_of_pow c.la) (lt_of_pow (aN_lt k (nN k (b)) (1))))

set_option maxRecDepth 100000 in
set_option maxHeartbeats 1000000 in
theorem sumsB_s13 {gA gB gC a b cn : Nat} {k : Int} {WB w : World} {T l : List Value} {L : Array Bool} (Q : Exit → Act → World → Prop) (c : sumsBC gA gB gC a b cn k WB T) (h : VT Tryd.prog sumsBO.1 34 114 sumsBD WB (sumsBK gA gB gC a b cn k) T L l w 13) : wpOp Tryd.prog sumsBO.1 Q 13 (SJ (vaR WB (sumsBK gA gB gC a b cn k)) 34 sumsBD T (L.setIfInBounds 13 true)) (frm2 sumsBD T l) w := by
  obtain ⟨o, ho, hd, hg, hop⟩ := sumsBO13
  have hw := wanted_un (ops := sumsBO.1) (t := (frm2 sumsBD T l).tmps) hg
  exact h.same (v := .bool false) ho hd rfl hw rfl (ex_neqN hop ((h.new (s := 64) (j := 3) rfl (by decide)).trans (h.rw.gotK 3 (dep_of (a := 3) (by kernel_rfl) h.dep) rfl)) ((h.new (s := 73) (j := 12) rfl (by decide)).trans (h.rw.gotK 12 (dep_of (a := 12) (by kernel_rfl) h.dep) rfl)) (sub_not c.lb))

set_option maxRecDepth 100000 in
set_option maxHeartbeats 1000000 in
theorem sumsB_s14 {gA gB gC a b cn : Nat} {k : Int} {WB w : World} {T l : List Value} {L : Array Bool} (Q : Exit → Act → World → Prop) (c : sumsBC gA gB gC a b cn k WB T) (h : VT Tryd.prog sumsBO.1 34 114 sumsBD WB (sumsBK gA gB gC a b cn k) T L l w 14) : wpOp Tryd.prog sumsBO.1 Q 14 (SJ (vaR WB (sumsBK gA gB gC a b cn k)) 34 sumsBD T (L.setIfInBounds 14 true)) (frm2 sumsBD T l) w := by
  obtain ⟨o, ho, hd, hg, hop⟩ := sumsBO14
  have hw := wanted_un (ops := sumsBO.1) (t := (frm2 sumsBD T l).tmps) hg
  exact h.same (v := .bool false) ho hd rfl hw rfl (ex_move hop ((h.new (s := 74) (j := 13) rfl (by decide)).trans (h.rw.gotK 13 (dep_of (a := 13) (by kernel_rfl) h.dep) rfl)))

set_option maxRecDepth 100000 in
set_option maxHeartbeats 1000000 in
theorem sumsB_s15 {gA gB gC a b cn : Nat} {k : Int} {WB w : World} {T l : List Value} {L : Array Bool} (Q : Exit → Act → World → Prop) (c : sumsBC gA gB gC a b cn k WB T) (h : VT Tryd.prog sumsBO.1 34 114 sumsBD WB (sumsBK gA gB gC a b cn k) T L l w 15) : wpOp Tryd.prog sumsBO.1 Q 15 (SJ (vaR WB (sumsBK gA gB gC a b cn k)) 34 sumsBD T (L.setIfInBounds 15 true)) (frm2 sumsBD T l) w := by
  obtain ⟨o, ho, hd, hg, hop⟩ := sumsBO15
  obtain ⟨oj, hj, hdj, -, -⟩ := sumsBO14
  have hw := wanted2_go (T := T) (l := l) hg hj hdj (show slotOf sumsBD 75 = some 14 from rfl) (by rw [h.tl]; decide) (h.rw.gotK 14 (dep_of (a := 14) (by kernel_rfl) h.dep) rfl)
  exact h.same (v := numV (a)) ho hd rfl hw rfl (ex_load_n hop ((h.old (s := 4) rfl (by decide)).trans c.t4) (h.cell c.ca0) (h.cell c.ca1))

set_option maxRecDepth 100000 in
set_option maxHeartbeats 1000000 in
theorem sumsB_s16 {gA gB gC a b cn : Nat} {k : Int} {WB w : World} {T l : List Value} {L : Array Bool} (Q : Exit → Act → World → Prop) (c : sumsBC gA gB gC a b cn k WB T) (h : VT Tryd.prog sumsBO.1 34 114 sumsBD WB (sumsBK gA gB gC a b cn k) T L l w 16) : wpOp Tryd.prog sumsBO.1 Q 16 (SJ (vaR WB (sumsBK gA gB gC a b cn k)) 34 sumsBD T (L.setIfInBounds 16 true)) (frm2 sumsBD T l) w := by
  obtain ⟨o, ho, hd, hg, hop⟩ := sumsBO16
  obtain ⟨oj, hj, hdj, -, -⟩ := sumsBO14
  have hw := wanted2_go (T := T) (l := l) hg hj hdj (show slotOf sumsBD 75 = some 14 from rfl) (by rw [h.tl]; decide) (h.rw.gotK 14 (dep_of (a := 14) (by kernel_rfl) h.dep) rfl)
  exact h.same (v := numV (b)) ho hd rfl hw rfl (ex_load_n hop ((h.old (s := 5) rfl (by decide)).trans c.t5) (h.cell c.cb0) (h.cell c.cb1))

set_option maxRecDepth 100000 in
set_option maxHeartbeats 1000000 in
theorem sumsB_s17 {gA gB gC a b cn : Nat} {k : Int} {WB w : World} {T l : List Value} {L : Array Bool} (Q : Exit → Act → World → Prop) (c : sumsBC gA gB gC a b cn k WB T) (h : VT Tryd.prog sumsBO.1 34 114 sumsBD WB (sumsBK gA gB gC a b cn k) T L l w 17) : wpOp Tryd.prog sumsBO.1 Q 17 (SJ (vaR WB (sumsBK gA gB gC a b cn k)) 34 sumsBD T (L.setIfInBounds 17 true)) (frm2 sumsBD T l) w := by
  obtain ⟨o, ho, hd, hg, hop⟩ := sumsBO17
  obtain ⟨oj, hj, hdj, -, -⟩ := sumsBO14
  have hw := wanted2_go (T := T) (l := l) hg hj hdj (show slotOf sumsBD 75 = some 14 from rfl) (by rw [h.tl]; decide) (h.rw.gotK 14 (dep_of (a := 14) (by kernel_rfl) h.dep) rfl)
  have x76 := ((h.new (s := 76) (j := 15) rfl (by decide)).trans (h.rw.gotK 15 (dep_of (a := 15) (by kernel_rfl) h.dep) rfl))
  have x77 := ((h.new (s := 77) (j := 16) rfl (by decide)).trans (h.rw.gotK 16 (dep_of (a := 16) (by kernel_rfl) h.dep) rfl))
  exact h.call (v := .int .i64 (cmpI a b)) ho hd rfl hw rfl (ex_call hop rfl rfl (args := #[numV (a), numV (b)]) (all := #[numV (a), numV (b)]) (by simp only [List.map_toArray, List.map_cons, List.map_nil]; rw [x76, x77]) (by simp) (fun av W => by kernel_rfl)) (numCmp_any a b w (lt_of_pow c.la) (lt_of_pow c.lb))

set_option maxRecDepth 100000 in
set_option maxHeartbeats 1000000 in
theorem sumsB_s18 {gA gB gC a b cn : Nat} {k : Int} {WB w : World} {T l : List Value} {L : Array Bool} (Q : Exit → Act → World → Prop) (c : sumsBC gA gB gC a b cn k WB T) (h : VT Tryd.prog sumsBO.1 34 114 sumsBD WB (sumsBK gA gB gC a b cn k) T L l w 18) : wpOp Tryd.prog sumsBO.1 Q 18 (SJ (vaR WB (sumsBK gA gB gC a b cn k)) 34 sumsBD T (L.setIfInBounds 18 true)) (frm2 sumsBD T l) w := by
  obtain ⟨o, ho, hd, hg, hop⟩ := sumsBO18
  obtain ⟨oj, hj, hdj, -, -⟩ := sumsBO14
  have hw := wanted2_go (T := T) (l := l) hg hj hdj (show slotOf sumsBD 75 = some 14 from rfl) (by rw [h.tl]; decide) (h.rw.gotK 14 (dep_of (a := 14) (by kernel_rfl) h.dep) rfl)
  exact h.same (v := .bool (decide (cmpI a b < 0))) ho hd rfl hw rfl (ex_lss0 hop ((h.new (s := 78) (j := 17) rfl (by decide)).trans (h.rw.gotK 17 (dep_of (a := 17) (by kernel_rfl) h.dep) rfl)))

set_option maxRecDepth 100000 in
set_option maxHeartbeats 1000000 in
theorem sumsB_s19 {gA gB gC a b cn : Nat} {k : Int} {WB w : World} {T l : List Value} {L : Array Bool} (Q : Exit → Act → World → Prop) (c : sumsBC gA gB gC a b cn k WB T) (h : VT Tryd.prog sumsBO.1 34 114 sumsBD WB (sumsBK gA gB gC a b cn k) T L l w 19) : wpOp Tryd.prog sumsBO.1 Q 19 (SJ (vaR WB (sumsBK gA gB gC a b cn k)) 34 sumsBD T (L.setIfInBounds 19 true)) (frm2 sumsBD T l) w := by
  obtain ⟨o, ho, hd, hg, hop⟩ := sumsBO19
  obtain ⟨oj, hj, hdj, -, -⟩ := sumsBO14
  have hw := wanted2_go (T := T) (l := l) hg hj hdj (show slotOf sumsBD 75 = some 14 from rfl) (by rw [h.tl]; decide) (h.rw.gotK 14 (dep_of (a := 14) (by kernel_rfl) h.dep) rfl)
  exact h.same (v := numV (b)) ho hd rfl hw rfl (ex_load_n hop ((h.old (s := 5) rfl (by decide)).trans c.t5) (h.cell c.cb0) (h.cell c.cb1))

set_option maxRecDepth 100000 in
set_option maxHeartbeats 1000000 in
theorem sumsB_s20 {gA gB gC a b cn : Nat} {k : Int} {WB w : World} {T l : List Value} {L : Array Bool} (Q : Exit → Act → World → Prop) (c : sumsBC gA gB gC a b cn k WB T) (h : VT Tryd.prog sumsBO.1 34 114 sumsBD WB (sumsBK gA gB gC a b cn k) T L l w 20) : wpOp Tryd.prog sumsBO.1 Q 20 (SJ (vaR WB (sumsBK gA gB gC a b cn k)) 34 sumsBD T (L.setIfInBounds 20 true)) (frm2 sumsBD T l) w := by
  obtain ⟨o, ho, hd, hg, hop⟩ := sumsBO20
  obtain ⟨oj, hj, hdj, -, -⟩ := sumsBO14
  have hw := wanted2_go (T := T) (l := l) hg hj hdj (show slotOf sumsBD 75 = some 14 from rfl) (by rw [h.tl]; decide) (h.rw.gotK 14 (dep_of (a := 14) (by kernel_rfl) h.dep) rfl)
  exact h.same (v := numV (a)) ho hd rfl hw rfl (ex_load_n hop ((h.old (s := 4) rfl (by decide)).trans c.t4) (h.cell c.ca0) (h.cell c.ca1))

set_option maxRecDepth 100000 in
set_option maxHeartbeats 1000000 in
theorem sumsB_s21 {gA gB gC a b cn : Nat} {k : Int} {WB w : World} {T l : List Value} {L : Array Bool} (Q : Exit → Act → World → Prop) (c : sumsBC gA gB gC a b cn k WB T) (h : VT Tryd.prog sumsBO.1 34 114 sumsBD WB (sumsBK gA gB gC a b cn k) T L l w 21) : wpOp Tryd.prog sumsBO.1 Q 21 (SJ (vaR WB (sumsBK gA gB gC a b cn k)) 34 sumsBD T (L.setIfInBounds 21 true)) (frm2 sumsBD T l) w := by
  obtain ⟨o, ho, hd, hg, hop⟩ := sumsBO21
  obtain ⟨oj, hj, hdj, -, -⟩ := sumsBO14
  have hw := wanted2_go (T := T) (l := l) hg hj hdj (show slotOf sumsBD 75 = some 14 from rfl) (by rw [h.tl]; decide) (h.rw.gotK 14 (dep_of (a := 14) (by kernel_rfl) h.dep) rfl)
  have x80 := ((h.new (s := 80) (j := 19) rfl (by decide)).trans (h.rw.gotK 19 (dep_of (a := 19) (by kernel_rfl) h.dep) rfl))
  have x81 := ((h.new (s := 81) (j := 20) rfl (by decide)).trans (h.rw.gotK 20 (dep_of (a := 20) (by kernel_rfl) h.dep) rfl))
  exact h.call (v := .int .i64 (cmpI b a)) ho hd rfl hw rfl (ex_call hop rfl rfl (args := #[numV (b), numV (a)]) (all := #[numV (b), numV (a)]) (by simp only [List.map_toArray, List.map_cons, List.map_nil]; rw [x80, x81]) (by simp) (fun av W => by kernel_rfl)) (numCmp_any b a w (lt_of_pow c.lb) (lt_of_pow c.la))

set_option maxRecDepth 100000 in
set_option maxHeartbeats 1000000 in
theorem sumsB_s22 {gA gB gC a b cn : Nat} {k : Int} {WB w : World} {T l : List Value} {L : Array Bool} (Q : Exit → Act → World → Prop) (c : sumsBC gA gB gC a b cn k WB T) (h : VT Tryd.prog sumsBO.1 34 114 sumsBD WB (sumsBK gA gB gC a b cn k) T L l w 22) : wpOp Tryd.prog sumsBO.1 Q 22 (SJ (vaR WB (sumsBK gA gB gC a b cn k)) 34 sumsBD T (L.setIfInBounds 22 true)) (frm2 sumsBD T l) w := by
  obtain ⟨o, ho, hd, hg, hop⟩ := sumsBO22
  obtain ⟨oj, hj, hdj, -, -⟩ := sumsBO14
  have hw := wanted2_go (T := T) (l := l) hg hj hdj (show slotOf sumsBD 75 = some 14 from rfl) (by rw [h.tl]; decide) (h.rw.gotK 14 (dep_of (a := 14) (by kernel_rfl) h.dep) rfl)
  exact h.same (v := .bool (decide (0 < cmpI b a))) ho hd rfl hw rfl (ex_gtr0 hop ((h.new (s := 82) (j := 21) rfl (by decide)).trans (h.rw.gotK 21 (dep_of (a := 21) (by kernel_rfl) h.dep) rfl)))

set_option maxRecDepth 100000 in
set_option maxHeartbeats 1000000 in
theorem sumsB_s23 {gA gB gC a b cn : Nat} {k : Int} {WB w : World} {T l : List Value} {L : Array Bool} (Q : Exit → Act → World → Prop) (c : sumsBC gA gB gC a b cn k WB T) (h : VT Tryd.prog sumsBO.1 34 114 sumsBD WB (sumsBK gA gB gC a b cn k) T L l w 23) : wpOp Tryd.prog sumsBO.1 Q 23 (SJ (vaR WB (sumsBK gA gB gC a b cn k)) 34 sumsBD T (L.setIfInBounds 23 true)) (frm2 sumsBD T l) w := by
  obtain ⟨o, ho, hd, hg, hop⟩ := sumsBO23
  obtain ⟨oj, hj, hdj, -, -⟩ := sumsBO14
  have hw := wanted2_go (T := T) (l := l) hg hj hdj (show slotOf sumsBD 75 = some 14 from rfl) (by rw [h.tl]; decide) (h.rw.gotK 14 (dep_of (a := 14) (by kernel_rfl) h.dep) rfl)
  exact h.same (v := .bool false) ho hd rfl hw rfl (ex_neqB hop ((h.new (s := 79) (j := 18) rfl (by decide)).trans (h.rw.gotK 18 (dep_of (a := 18) (by kernel_rfl) h.dep) rfl)) ((h.new (s := 83) (j := 22) rfl (by decide)).trans (h.rw.gotK 22 (dep_of (a := 22) (by kernel_rfl) h.dep) rfl)) cmp_turn)

set_option maxRecDepth 100000 in
set_option maxHeartbeats 1000000 in
theorem sumsB_s24 {gA gB gC a b cn : Nat} {k : Int} {WB w : World} {T l : List Value} {L : Array Bool} (Q : Exit → Act → World → Prop) (c : sumsBC gA gB gC a b cn k WB T) (h : VT Tryd.prog sumsBO.1 34 114 sumsBD WB (sumsBK gA gB gC a b cn k) T L l w 24) : wpOp Tryd.prog sumsBO.1 Q 24 (SJ (vaR WB (sumsBK gA gB gC a b cn k)) 34 sumsBD T (L.setIfInBounds 24 true)) (frm2 sumsBD T l) w := by
  obtain ⟨o, ho, hd, hg, hop⟩ := sumsBO24
  have hw := wanted_un (ops := sumsBO.1) (t := (frm2 sumsBD T l).tmps) hg
  exact h.same (v := .bool false) ho hd rfl hw rfl (ex_pick hop ((h.new (s := 75) (j := 14) rfl (by decide)).trans (h.rw.gotK 14 (dep_of (a := 14) (by kernel_rfl) h.dep) rfl)) ((h.new (s := 84) (j := 23) rfl (by decide)).trans (h.rw.gotK 23 (dep_of (a := 23) (by kernel_rfl) h.dep) rfl)))

set_option maxRecDepth 100000 in
set_option maxHeartbeats 1000000 in
theorem sumsB_s25 {gA gB gC a b cn : Nat} {k : Int} {WB w : World} {T l : List Value} {L : Array Bool} (Q : Exit → Act → World → Prop) (c : sumsBC gA gB gC a b cn k WB T) (h : VT Tryd.prog sumsBO.1 34 114 sumsBD WB (sumsBK gA gB gC a b cn k) T L l w 25) : wpOp Tryd.prog sumsBO.1 Q 25 (SJ (vaR WB (sumsBK gA gB gC a b cn k)) 34 sumsBD T (L.setIfInBounds 25 true)) (frm2 sumsBD T l) w := by
  obtain ⟨o, ho, hd, hg, hop⟩ := sumsBO25
  have hw := wanted_un (ops := sumsBO.1) (t := (frm2 sumsBD T l).tmps) hg
  exact h.same (v := .bool false) ho hd rfl hw rfl (ex_move hop ((h.new (s := 85) (j := 24) rfl (by decide)).trans (h.rw.gotK 24 (dep_of (a := 24) (by kernel_rfl) h.dep) rfl)))

set_option maxRecDepth 100000 in
set_option maxHeartbeats 1000000 in
theorem sumsB_s26 {gA gB gC a b cn : Nat} {k : Int} {WB w : World} {T l : List Value} {L : Array Bool} (Q : Exit → Act → World → Prop) (c : sumsBC gA gB gC a b cn k WB T) (h : VT Tryd.prog sumsBO.1 34 114 sumsBD WB (sumsBK gA gB gC a b cn k) T L l w 26) : wpOp Tryd.prog sumsBO.1 Q 26 (SJ (vaR WB (sumsBK gA gB gC a b cn k)) 34 sumsBD T (L.setIfInBounds 26 true)) (frm2 sumsBD T l) w := by
  obtain ⟨o, ho, hd, hg, hop⟩ := sumsBO26
  obtain ⟨oj, hj, hdj, -, -⟩ := sumsBO25
  have hw := wanted2_go (T := T) (l := l) hg hj hdj (show slotOf sumsBD 86 = some 25 from rfl) (by rw [h.tl]; decide) (h.rw.gotK 25 (dep_of (a := 25) (by kernel_rfl) h.dep) rfl)
  exact h.same (v := numV (a)) ho hd rfl hw rfl (ex_load_n hop ((h.old (s := 4) rfl (by decide)).trans c.t4) (h.cell c.ca0) (h.cell c.ca1))

set_option maxRecDepth 100000 in
set_option maxHeartbeats 1000000 in
theorem sumsB_s27 {gA gB gC a b cn : Nat} {k : Int} {WB w : World} {T l : List Value} {L : Array Bool} (Q : Exit → Act → World → Prop) (c : sumsBC gA gB gC a b cn k WB T) (h : VT Tryd.prog sumsBO.1 34 114 sumsBD WB (sumsBK gA gB gC a b cn k) T L l w 27) : wpOp Tryd.prog sumsBO.1 Q 27 (SJ (vaR WB (sumsBK gA gB gC a b cn k)) 34 sumsBD T (L.setIfInBounds 27 true)) (frm2 sumsBD T l) w := by
  obtain ⟨o, ho, hd, hg, hop⟩ := sumsBO27
  obtain ⟨oj, hj, hdj, -, -⟩ := sumsBO25
  have hw := wanted2_go (T := T) (l := l) hg hj hdj (show slotOf sumsBD 86 = some 25 from rfl) (by rw [h.tl]; decide) (h.rw.gotK 25 (dep_of (a := 25) (by kernel_rfl) h.dep) rfl)
  exact h.same (v := numV (b)) ho hd rfl hw rfl (ex_load_n hop ((h.old (s := 5) rfl (by decide)).trans c.t5) (h.cell c.cb0) (h.cell c.cb1))

set_option maxRecDepth 100000 in
set_option maxHeartbeats 1000000 in
theorem sumsB_s28 {gA gB gC a b cn : Nat} {k : Int} {WB w : World} {T l : List Value} {L : Array Bool} (Q : Exit → Act → World → Prop) (c : sumsBC gA gB gC a b cn k WB T) (h : VT Tryd.prog sumsBO.1 34 114 sumsBD WB (sumsBK gA gB gC a b cn k) T L l w 28) : wpOp Tryd.prog sumsBO.1 Q 28 (SJ (vaR WB (sumsBK gA gB gC a b cn k)) 34 sumsBD T (L.setIfInBounds 28 true)) (frm2 sumsBD T l) w := by
  obtain ⟨o, ho, hd, hg, hop⟩ := sumsBO28
  obtain ⟨oj, hj, hdj, -, -⟩ := sumsBO25
  have hw := wanted2_go (T := T) (l := l) hg hj hdj (show slotOf sumsBD 86 = some 25 from rfl) (by rw [h.tl]; decide) (h.rw.gotK 25 (dep_of (a := 25) (by kernel_rfl) h.dep) rfl)
  exact h.same (v := .int .i64 k) ho hd rfl hw rfl (ex_move hop ((h.old (s := 3) rfl (by decide)).trans c.t3))

set_option maxRecDepth 100000 in
set_option maxHeartbeats 1000000 in
theorem sumsB_s29 {gA gB gC a b cn : Nat} {k : Int} {WB w : World} {T l : List Value} {L : Array Bool} (Q : Exit → Act → World → Prop) (c : sumsBC gA gB gC a b cn k WB T) (h : VT Tryd.prog sumsBO.1 34 114 sumsBD WB (sumsBK gA gB gC a b cn k) T L l w 29) : wpOp Tryd.prog sumsBO.1 Q 29 (SJ (vaR WB (sumsBK gA gB gC a b cn k)) 34 sumsBD T (L.setIfInBounds 29 true)) (frm2 sumsBD T l) w := by
  obtain ⟨o, ho, hd, hg, hop⟩ := sumsBO29
  obtain ⟨oj, hj, hdj, -, -⟩ := sumsBO25
  have hw := wanted2_go (T := T) (l := l) hg hj hdj (show slotOf sumsBD 86 = some 25 from rfl) (by rw [h.tl]; decide) (h.rw.gotK 25 (dep_of (a := 25) (by kernel_rfl) h.dep) rfl)
  have x87 := ((h.new (s := 87) (j := 26) rfl (by decide)).trans (h.rw.gotK 26 (dep_of (a := 26) (by kernel_rfl) h.dep) rfl))
  have x88 := ((h.new (s := 88) (j := 27) rfl (by decide)).trans (h.rw.gotK 27 (dep_of (a := 27) (by kernel_rfl) h.dep) rfl))
  have x89 := ((h.new (s := 89) (j := 28) rfl (by decide)).trans (h.rw.gotK 28 (dep_of (a := 28) (by kernel_rfl) h.dep) rfl))
  exact h.call (v := numV (aN k (a) (b))) ho hd rfl hw rfl (ex_call hop rfl rfl (args := #[numV (a), numV (b), .int .i64 k]) (all := #[numV (a), numV (b), .int .i64 k]) (by simp only [List.map_toArray, List.map_cons, List.map_nil]; rw [x87, x88, x89]) (by simp) (fun av W => by kernel_rfl)) (numAdd_any (a) (b) k w (lt_of_pow c.la) (lt_of_pow c.lb))

set_option maxRecDepth 100000 in
set_option maxHeartbeats 1000000 in
theorem sumsB_s30 {gA gB gC a b cn : Nat} {k : Int} {WB w : World} {T l : List Value} {L : Array Bool} (Q : Exit → Act → World → Prop) (c : sumsBC gA gB gC a b cn k WB T) (h : VT Tryd.prog sumsBO.1 34 114 sumsBD WB (sumsBK gA gB gC a b cn k) T L l w 30) : wpOp Tryd.prog sumsBO.1 Q 30 (SJ (vaR WB (sumsBK gA gB gC a b cn k)) 34 sumsBD T (L.setIfInBounds 30 true)) (frm2 sumsBD T l) w := by
  obtain ⟨o, ho, hd, hg, hop⟩ := sumsBO30
  obtain ⟨oj, hj, hdj, -, -⟩ := sumsBO25
  have hw := wanted2_go (T := T) (l := l) hg hj hdj (show slotOf sumsBD 86 = some 25 from rfl) (by rw [h.tl]; decide) (h.rw.gotK 25 (dep_of (a := 25) (by kernel_rfl) h.dep) rfl)
  exact h.same (v := .int .i64 k) ho hd rfl hw rfl (ex_move hop ((h.old (s := 3) rfl (by decide)).trans c.t3))

set_option maxRecDepth 100000 in
set_option maxHeartbeats 1000000 in
theorem sumsB_s31 {gA gB gC a b cn : Nat} {k : Int} {WB w : World} {T l : List Value} {L : Array Bool} (Q : Exit → Act → World → Prop) (c : sumsBC gA gB gC a b cn k WB T) (h : VT Tryd.prog sumsBO.1 34 114 sumsBD WB (sumsBK gA gB gC a b cn k) T L l w 31) : wpOp Tryd.prog sumsBO.1 Q 31 (SJ (vaR WB (sumsBK gA gB gC a b cn k)) 34 sumsBD T (L.setIfInBounds 31 true)) (frm2 sumsBD T l) w := by
  obtain ⟨o, ho, hd, hg, hop⟩ := sumsBO31
  obtain ⟨oj, hj, hdj, -, -⟩ := sumsBO25
  have hw := wanted2_go (T := T) (l := l) hg hj hdj (show slotOf sumsBD 86 = some 25 from rfl) (by rw [h.tl]; decide) (h.rw.gotK 25 (dep_of (a := 25) (by kernel_rfl) h.dep) rfl)
  have x90 := ((h.new (s := 90) (j := 29) rfl (by decide)).trans (h.rw.gotK 29 (dep_of (a := 29) (by kernel_rfl) h.dep) rfl))
  have x91 := ((h.new (s := 91) (j := 30) rfl (by decide)).trans (h.rw.gotK 30 (dep_of (a := 30) (by kernel_rfl) h.dep) rfl))
  exact h.call (v := .bool true) ho hd rfl hw rfl (ex_call hop rfl rfl (args := #[numV (aN k (a) (b)), .int .i64 k]) (all := #[numV (aN k (a) (b)), .int .i64 k]) (by simp only [List.map_toArray, List.map_cons, List.map_nil]; rw [x90, x91]) (by simp) (fun av W => by kernel_rfl)) (numFits_any (aN k (a) (b)) k w (lt_of_pow (aN_lt k (a) (b))) (Nat.mod_eq_of_lt (aN_lt k (a) (b))))

set_option maxRecDepth 100000 in
set_option maxHeartbeats 1000000 in
theorem sumsB_s32 {gA gB gC a b cn : Nat} {k : Int} {WB w : World} {T l : List Value} {L : Array Bool} (Q : Exit → Act → World → Prop) (c : sumsBC gA gB gC a b cn k WB T) (h : VT Tryd.prog sumsBO.1 34 114 sumsBD WB (sumsBK gA gB gC a b cn k) T L l w 32) : wpOp Tryd.prog sumsBO.1 Q 32 (SJ (vaR WB (sumsBK gA gB gC a b cn k)) 34 sumsBD T (L.setIfInBounds 32 true)) (frm2 sumsBD T l) w := by
  obtain ⟨o, ho, hd, hg, hop⟩ := sumsBO32
  obtain ⟨oj, hj, hdj, -, -⟩ := sumsBO25
  have hw := wanted2_go (T := T) (l := l) hg hj hdj (show slotOf sumsBD 86 = some 25 from rfl) (by rw [h.tl]; decide) (h.rw.gotK 25 (dep_of (a := 25) (by kernel_rfl) h.dep) rfl)
  exact h.same (v := .bool false) ho hd rfl hw rfl (ex_not hop ((h.new (s := 92) (j := 31) rfl (by decide)).trans (h.rw.gotK 31 (dep_of (a := 31) (by kernel_rfl) h.dep) rfl)))

set_option maxRecDepth 100000 in
set_option maxHeartbeats 1000000 in
theorem sumsB_s33 {gA gB gC a b cn : Nat} {k : Int} {WB w : World} {T l : List Value} {L : Array Bool} (Q : Exit → Act → World → Prop) (c : sumsBC gA gB gC a b cn k WB T) (h : VT Tryd.prog sumsBO.1 34 114 sumsBD WB (sumsBK gA gB gC a b cn k) T L l w 33) : wpOp Tryd.prog sumsBO.1 Q 33 (SJ (vaR WB (sumsBK gA gB gC a b cn k)) 34 sumsBD T (L.setIfInBounds 33 true)) (frm2 sumsBD T l) w := by
  obtain ⟨o, ho, hd, hg, hop⟩ := sumsBO33
  have hw := wanted_un (ops := sumsBO.1) (t := (frm2 sumsBD T l).tmps) hg
  exact h.same (v := .bool false) ho hd rfl hw rfl (ex_pick hop ((h.new (s := 86) (j := 25) rfl (by decide)).trans (h.rw.gotK 25 (dep_of (a := 25) (by kernel_rfl) h.dep) rfl)) ((h.new (s := 93) (j := 32) rfl (by decide)).trans (h.rw.gotK 32 (dep_of (a := 32) (by kernel_rfl) h.dep) rfl)))

set_option maxRecDepth 100000 in
set_option maxHeartbeats 4000000 in
theorem sumsB (gA gB gC a b cn : Nat) (k : Int) (WB : World)
    (ca0 : Hid (WB.cell? ⟨gA, 0, none⟩ = some (.int .u64 ((a / B : Nat) : Int))))
    (ca1 : Hid (WB.cell? ⟨gA, 1, none⟩ = some (.int .u64 ((a % B : Nat) : Int))))
    (cb0 : Hid (WB.cell? ⟨gB, 0, none⟩ = some (.int .u64 ((b / B : Nat) : Int))))
    (cb1 : Hid (WB.cell? ⟨gB, 1, none⟩ = some (.int .u64 ((b % B : Nat) : Int))))
    (cc0 : Hid (WB.cell? ⟨gC, 0, none⟩ = some (.int .u64 ((cn / B : Nat) : Int))))
    (cc1 : Hid (WB.cell? ⟨gC, 1, none⟩ = some (.int .u64 ((cn % B : Nat) : Int))))
    (la : Hid (a < 2 ^ sh k))
    (lb : Hid (b < 2 ^ sh k))
    (lc : Hid (cn < 2 ^ sh k))
    (s0 s1 s2 s7 s8 s9 s10 s11 s12 s13 s14 s15 s16 s17 s18 s19 s20 s21 s22 s23 s24 s25 s26 s27 s28 s29 s30 s31 s32 s33 s34 s35 s36 s37 s38 s39 s40 s41 s42 s43 s44 s45 s46 s47 s48 s49 s50 s51 s52 s53 s54 s55 s56 s57 s58 s59 s60 s61 s62 s63 s64 s65 s66 s67 s68 s69 s70 s71 s72 s73 s74 s75 s76 s77 s78 s79 s80 s81 s82 s83 s84 s85 s86 s87 s88 s89 s90 s91 s92 s93 s94 s95 s96 s97 s98 s99 s100 s101 s102 s103 s104 s105 s106 s107 s108 s109 s110 s111 s112 s113 : Value) (Q : Exit → Act → World → Prop)
    (hexit : ∀ (w' : World), Below WB.heap.size WB w' → Q .normal ⟨#[s0, s1, s2, .int .i64 k, .pointer (some ⟨gA, 0, none⟩), .pointer (some ⟨gB, 0, none⟩), .pointer (some ⟨gC, 0, none⟩), s7, s8, s9, s10, s11, s12, s13, s14, s15, s16, s17, s18, s19, s20, s21, s22, s23, s24, s25, s26, s27, s28, s29, s30, s31, s32, s33, s34, s35, s36, s37, s38, s39, s40, s41, s42, s43, s44, s45, s46, s47, s48, s49, s50, s51, s52, s53, s54, s55, s56, s57, s58, s59, s60, numV (a), numV (b), .int .i64 k, numV (sN k (a) (b)), numV (a), numV (b), .int .i64 k, numV (nN k (b)), numV (1), .int .i64 k, numV (aN k (nN k (b)) (1)), .int .i64 k, numV (aN k (a) (aN k (nN k (b)) (1))), .bool false, .bool false, numV (a), numV (b), .int .i64 (cmpI a b), .bool (decide (cmpI a b < 0)), numV (b), numV (a), .int .i64 (cmpI b a), .bool (decide (0 < cmpI b a)), .bool false, .bool false, .bool false, numV (a), numV (b), .int .i64 k, numV (aN k (a) (b)), .int .i64 k, .bool true, .bool false, .bool false, s95, s96, s97, s98, s99, s100, s101, s102, s103, s104, s105, s106, s107, s108, s109, s110, s111, s112, s113], []⟩ w') :
    Code.wp Tryd.prog ((Tryd.f4.body.bind (findRegion 5)).getD .skip) Q ⟨#[s0, s1, s2, .int .i64 k, .pointer (some ⟨gA, 0, none⟩), .pointer (some ⟨gB, 0, none⟩), .pointer (some ⟨gC, 0, none⟩), s7, s8, s9, s10, s11, s12, s13, s14, s15, s16, s17, s18, s19, s20, s21, s22, s23, s24, s25, s26, s27, s28, s29, s30, s31, s32, s33, s34, s35, s36, s37, s38, s39, s40, s41, s42, s43, s44, s45, s46, s47, s48, s49, s50, s51, s52, s53, s54, s55, s56, s57, s58, s59, s60, s61, s62, s63, s64, s65, s66, s67, s68, s69, s70, s71, s72, s73, s74, s75, s76, s77, s78, s79, s80, s81, s82, s83, s84, s85, s86, s87, s88, s89, s90, s91, s92, s93, s94, s95, s96, s97, s98, s99, s100, s101, s102, s103, s104, s105, s106, s107, s108, s109, s110, s111, s112, s113], []⟩ WB := by
  have c : sumsBC gA gB gC a b cn k WB [s0, s1, s2, .int .i64 k, .pointer (some ⟨gA, 0, none⟩), .pointer (some ⟨gB, 0, none⟩), .pointer (some ⟨gC, 0, none⟩), s7, s8, s9, s10, s11, s12, s13, s14, s15, s16, s17, s18, s19, s20, s21, s22, s23, s24, s25, s26, s27, s28, s29, s30, s31, s32, s33, s34, s35, s36, s37, s38, s39, s40, s41, s42, s43, s44, s45, s46, s47, s48, s49, s50, s51, s52, s53, s54, s55, s56, s57, s58, s59, s60, s61, s62, s63, s64, s65, s66, s67, s68, s69, s70, s71, s72, s73, s74, s75, s76, s77, s78, s79, s80, s81, s82, s83, s84, s85, s86, s87, s88, s89, s90, s91, s92, s93, s94, s95, s96, s97, s98, s99, s100, s101, s102, s103, s104, s105, s106, s107, s108, s109, s110, s111, s112, s113] := { tl := rfl, t3 := rfl, t4 := rfl, t5 := rfl, t6 := rfl, ca0 := ca0.out, ca1 := ca1.out, cb0 := cb0.out, cb1 := cb1.out, cc0 := cc0.out, cc1 := cc1.out, la := la.out, lb := lb.out, lc := lc.out }
  have h0 : (⟨#[s0, s1, s2, .int .i64 k, .pointer (some ⟨gA, 0, none⟩), .pointer (some ⟨gB, 0, none⟩), .pointer (some ⟨gC, 0, none⟩), s7, s8, s9, s10, s11, s12, s13, s14, s15, s16, s17, s18, s19, s20, s21, s22, s23, s24, s25, s26, s27, s28, s29, s30, s31, s32, s33, s34, s35, s36, s37, s38, s39, s40, s41, s42, s43, s44, s45, s46, s47, s48, s49, s50, s51, s52, s53, s54, s55, s56, s57, s58, s59, s60, s61, s62, s63, s64, s65, s66, s67, s68, s69, s70, s71, s72, s73, s74, s75, s76, s77, s78, s79, s80, s81, s82, s83, s84, s85, s86, s87, s88, s89, s90, s91, s92, s93, s94, s95, s96, s97, s98, s99, s100, s101, s102, s103, s104, s105, s106, s107, s108, s109, s110, s111, s112, s113], []⟩ : Act) = frm2 sumsBD [s0, s1, s2, .int .i64 k, .pointer (some ⟨gA, 0, none⟩), .pointer (some ⟨gB, 0, none⟩), .pointer (some ⟨gC, 0, none⟩), s7, s8, s9, s10, s11, s12, s13, s14, s15, s16, s17, s18, s19, s20, s21, s22, s23, s24, s25, s26, s27, s28, s29, s30, s31, s32, s33, s34, s35, s36, s37, s38, s39, s40, s41, s42, s43, s44, s45, s46, s47, s48, s49, s50, s51, s52, s53, s54, s55, s56, s57, s58, s59, s60, s61, s62, s63, s64, s65, s66, s67, s68, s69, s70, s71, s72, s73, s74, s75, s76, s77, s78, s79, s80, s81, s82, s83, s84, s85, s86, s87, s88, s89, s90, s91, s92, s93, s94, s95, s96, s97, s98, s99, s100, s101, s102, s103, s104, s105, s106, s107, s108, s109, s110, s111, s112, s113] [s61, s62, s63, s64, s65, s66, s67, s68, s69, s70, s71, s72, s73, s74, s75, s76, s77, s78, s79, s80, s81, s82, s83, s84, s85, s86, s87, s88, s89, s90, s91, s92, s93, s94] := rfl
  have hend : ∀ f : Nat → Value, frm2 sumsBD [s0, s1, s2, .int .i64 k, .pointer (some ⟨gA, 0, none⟩), .pointer (some ⟨gB, 0, none⟩), .pointer (some ⟨gC, 0, none⟩), s7, s8, s9, s10, s11, s12, s13, s14, s15, s16, s17, s18, s19, s20, s21, s22, s23, s24, s25, s26, s27, s28, s29, s30, s31, s32, s33, s34, s35, s36, s37, s38, s39, s40, s41, s42, s43, s44, s45, s46, s47, s48, s49, s50, s51, s52, s53, s54, s55, s56, s57, s58, s59, s60, s61, s62, s63, s64, s65, s66, s67, s68, s69, s70, s71, s72, s73, s74, s75, s76, s77, s78, s79, s80, s81, s82, s83, s84, s85, s86, s87, s88, s89, s90, s91, s92, s93, s94, s95, s96, s97, s98, s99, s100, s101, s102, s103, s104, s105, s106, s107, s108, s109, s110, s111, s112, s113] ((List.range 34).map f) = ⟨#[s0, s1, s2, .int .i64 k, .pointer (some ⟨gA, 0, none⟩), .pointer (some ⟨gB, 0, none⟩), .pointer (some ⟨gC, 0, none⟩), s7, s8, s9, s10, s11, s12, s13, s14, s15, s16, s17, s18, s19, s20, s21, s22, s23, s24, s25, s26, s27, s28, s29, s30, s31, s32, s33, s34, s35, s36, s37, s38, s39, s40, s41, s42, s43, s44, s45, s46, s47, s48, s49, s50, s51, s52, s53, s54, s55, s56, s57, s58, s59, s60, f 0, f 1, f 2, f 3, f 4, f 5, f 6, f 7, f 8, f 9, f 10, f 11, f 12, f 13, f 14, f 15, f 16, f 17, f 18, f 19, f 20, f 21, f 22, f 23, f 24, f 25, f 26, f 27, f 28, f 29, f 30, f 31, f 32, f 33, s95, s96, s97, s98, s99, s100, s101, s102, s103, s104, s105, s106, s107, s108, s109, s110, s111, s112, s113], []⟩ := fun f => rfl
  rw [h0]
  clear h0
  have hex : ∀ (f : Nat → Value) (w' : World), f 0 = numV (a) → f 1 = numV (b) → f 2 = .int .i64 k → f 3 = numV (sN k (a) (b)) → f 4 = numV (a) → f 5 = numV (b) → f 6 = .int .i64 k → f 7 = numV (nN k (b)) → f 8 = numV (1) → f 9 = .int .i64 k → f 10 = numV (aN k (nN k (b)) (1)) → f 11 = .int .i64 k → f 12 = numV (aN k (a) (aN k (nN k (b)) (1))) → f 13 = .bool false → f 14 = .bool false → f 15 = numV (a) → f 16 = numV (b) → f 17 = .int .i64 (cmpI a b) → f 18 = .bool (decide (cmpI a b < 0)) → f 19 = numV (b) → f 20 = numV (a) → f 21 = .int .i64 (cmpI b a) → f 22 = .bool (decide (0 < cmpI b a)) → f 23 = .bool false → f 24 = .bool false → f 25 = .bool false → f 26 = numV (a) → f 27 = numV (b) → f 28 = .int .i64 k → f 29 = numV (aN k (a) (b)) → f 30 = .int .i64 k → f 31 = .bool true → f 32 = .bool false → f 33 = .bool false → Below WB.heap.size WB w' → Q .normal ⟨#[s0, s1, s2, .int .i64 k, .pointer (some ⟨gA, 0, none⟩), .pointer (some ⟨gB, 0, none⟩), .pointer (some ⟨gC, 0, none⟩), s7, s8, s9, s10, s11, s12, s13, s14, s15, s16, s17, s18, s19, s20, s21, s22, s23, s24, s25, s26, s27, s28, s29, s30, s31, s32, s33, s34, s35, s36, s37, s38, s39, s40, s41, s42, s43, s44, s45, s46, s47, s48, s49, s50, s51, s52, s53, s54, s55, s56, s57, s58, s59, s60, f 0, f 1, f 2, f 3, f 4, f 5, f 6, f 7, f 8, f 9, f 10, f 11, f 12, f 13, f 14, f 15, f 16, f 17, f 18, f 19, f 20, f 21, f 22, f 23, f 24, f 25, f 26, f 27, f 28, f 29, f 30, f 31, f 32, f 33, s95, s96, s97, s98, s99, s100, s101, s102, s103, s104, s105, s106, s107, s108, s109, s110, s111, s112, s113], []⟩ w' := by
    intro f w' e0 e1 e2 e3 e4 e5 e6 e7 e8 e9 e10 e11 e12 e13 e14 e15 e16 e17 e18 e19 e20 e21 e22 e23 e24 e25 e26 e27 e28 e29 e30 e31 e32 e33 a
    rw [e0, e1, e2, e3, e4, e5, e6, e7, e8, e9, e10, e11, e12, e13, e14, e15, e16, e17, e18, e19, e20, e21, e22, e23, e24, e25, e26, e27, e28, e29, e30, e31, e32, e33]
    exact hexit w' a
  clear hexit
  generalize [s0, s1, s2, .int .i64 k, .pointer (some ⟨gA, 0, none⟩), .pointer (some ⟨gB, 0, none⟩), .pointer (some ⟨gC, 0, none⟩), s7, s8, s9, s10, s11, s12, s13, s14, s15, s16, s17, s18, s19, s20, s21, s22, s23, s24, s25, s26, s27, s28, s29, s30, s31, s32, s33, s34, s35, s36, s37, s38, s39, s40, s41, s42, s43, s44, s45, s46, s47, s48, s49, s50, s51, s52, s53, s54, s55, s56, s57, s58, s59, s60, s61, s62, s63, s64, s65, s66, s67, s68, s69, s70, s71, s72, s73, s74, s75, s76, s77, s78, s79, s80, s81, s82, s83, s84, s85, s86, s87, s88, s89, s90, s91, s92, s93, s94, s95, s96, s97, s98, s99, s100, s101, s102, s103, s104, s105, s106, s107, s108, s109, s110, s111, s112, s113] = T at *
  rw [sumsBO.2]
  show Code.wp Tryd.prog (.region 5 sumsBO.1 true) Q _ WB
  refine wp_region_inv2 (by kernel_rfl) (SJ (vaR WB (sumsBK gA gB gC a b cn k)) 34 sumsBD T) ?_ ?_ ?_ ?_
  · exact ⟨_, rfl, by rw [sumsBO_size]; simp, rfl, RW.init (fun i => did_none _ _) (Nat.le_refl _) (below_drewN (Below.refl _ _) 1)⟩
  · rintro L a w i hL hi hnd hdep ⟨l, hl, hLn, rfl, hI⟩
    have ht : VT Tryd.prog sumsBO.1 34 114 sumsBD WB (sumsBK gA gB gC a b cn k) T L l w i := ⟨c.tl, sumsBK_free, hl, hLn, hi, hnd, hI, hdep⟩
    match i, hi with
    | 0, _ => exact sumsB_s0 Q c ht
    | 1, _ => exact sumsB_s1 Q c ht
    | 2, _ => exact sumsB_s2 Q c ht
    | 3, _ => exact sumsB_s3 Q c ht
    | 4, _ => exact sumsB_s4 Q c ht
    | 5, _ => exact sumsB_s5 Q c ht
    | 6, _ => exact sumsB_s6 Q c ht
    | 7, _ => exact sumsB_s7 Q c ht
    | 8, _ => exact sumsB_s8 Q c ht
    | 9, _ => exact sumsB_s9 Q c ht
    | 10, _ => exact sumsB_s10 Q c ht
    | 11, _ => exact sumsB_s11 Q c ht
    | 12, _ => exact sumsB_s12 Q c ht
    | 13, _ => exact sumsB_s13 Q c ht
    | 14, _ => exact sumsB_s14 Q c ht
    | 15, _ => exact sumsB_s15 Q c ht
    | 16, _ => exact sumsB_s16 Q c ht
    | 17, _ => exact sumsB_s17 Q c ht
    | 18, _ => exact sumsB_s18 Q c ht
    | 19, _ => exact sumsB_s19 Q c ht
    | 20, _ => exact sumsB_s20 Q c ht
    | 21, _ => exact sumsB_s21 Q c ht
    | 22, _ => exact sumsB_s22 Q c ht
    | 23, _ => exact sumsB_s23 Q c ht
    | 24, _ => exact sumsB_s24 Q c ht
    | 25, _ => exact sumsB_s25 Q c ht
    | 26, _ => exact sumsB_s26 Q c ht
    | 27, _ => exact sumsB_s27 Q c ht
    | 28, _ => exact sumsB_s28 Q c ht
    | 29, _ => exact sumsB_s29 Q c ht
    | 30, _ => exact sumsB_s30 Q c ht
    | 31, _ => exact sumsB_s31 Q c ht
    | 32, _ => exact sumsB_s32 Q c ht
    | 33, _ => exact sumsB_s33 Q c ht
    | i + 34, hi => exact absurd hi (by rw [sumsBO_size]; omega)
  · exact sumsBO_back
  · rintro L a w hall ⟨l, hl, hLn, rfl, hI⟩
    have h1 := hend (nth l)
    rw [list_nth hl] at h1
    rw [h1]
    exact hex (nth l) w (hI.gotK 0 (hall 0 (by rw [sumsBO_size]; decide)) rfl) (hI.gotK 1 (hall 1 (by rw [sumsBO_size]; decide)) rfl) (hI.gotK 2 (hall 2 (by rw [sumsBO_size]; decide)) rfl) (hI.gotK 3 (hall 3 (by rw [sumsBO_size]; decide)) rfl) (hI.gotK 4 (hall 4 (by rw [sumsBO_size]; decide)) rfl) (hI.gotK 5 (hall 5 (by rw [sumsBO_size]; decide)) rfl) (hI.gotK 6 (hall 6 (by rw [sumsBO_size]; decide)) rfl) (hI.gotK 7 (hall 7 (by rw [sumsBO_size]; decide)) rfl) (hI.gotK 8 (hall 8 (by rw [sumsBO_size]; decide)) rfl) (hI.gotK 9 (hall 9 (by rw [sumsBO_size]; decide)) rfl) (hI.gotK 10 (hall 10 (by rw [sumsBO_size]; decide)) rfl) (hI.gotK 11 (hall 11 (by rw [sumsBO_size]; decide)) rfl) (hI.gotK 12 (hall 12 (by rw [sumsBO_size]; decide)) rfl) (hI.gotK 13 (hall 13 (by rw [sumsBO_size]; decide)) rfl) (hI.gotK 14 (hall 14 (by rw [sumsBO_size]; decide)) rfl) (hI.gotK 15 (hall 15 (by rw [sumsBO_size]; decide)) rfl) (hI.gotK 16 (hall 16 (by rw [sumsBO_size]; decide)) rfl) (hI.gotK 17 (hall 17 (by rw [sumsBO_size]; decide)) rfl) (hI.gotK 18 (hall 18 (by rw [sumsBO_size]; decide)) rfl) (hI.gotK 19 (hall 19 (by rw [sumsBO_size]; decide)) rfl) (hI.gotK 20 (hall 20 (by rw [sumsBO_size]; decide)) rfl) (hI.gotK 21 (hall 21 (by rw [sumsBO_size]; decide)) rfl) (hI.gotK 22 (hall 22 (by rw [sumsBO_size]; decide)) rfl) (hI.gotK 23 (hall 23 (by rw [sumsBO_size]; decide)) rfl) (hI.gotK 24 (hall 24 (by rw [sumsBO_size]; decide)) rfl) (hI.gotK 25 (hall 25 (by rw [sumsBO_size]; decide)) rfl) (hI.gotK 26 (hall 26 (by rw [sumsBO_size]; decide)) rfl) (hI.gotK 27 (hall 27 (by rw [sumsBO_size]; decide)) rfl) (hI.gotK 28 (hall 28 (by rw [sumsBO_size]; decide)) rfl) (hI.gotK 29 (hall 29 (by rw [sumsBO_size]; decide)) rfl) (hI.gotK 30 (hall 30 (by rw [sumsBO_size]; decide)) rfl) (hI.gotK 31 (hall 31 (by rw [sumsBO_size]; decide)) rfl) (hI.gotK 32 (hall 32 (by rw [sumsBO_size]; decide)) rfl) (hI.gotK 33 (hall 33 (by rw [sumsBO_size]; decide)) rfl) hI.glob

abbrev sumsDD : List (Option Nat) := [some 100, some 101, some 102, some 103, some 104, some 105, some 106, some 107, some 108, some 109, some 110, some 111, some 112]
noncomputable def sumsDO : { c : Array Oper // (Tryd.f4.body.bind (findRegion 10)) = some (.region 10 c true) } := ⟨_, rfl⟩
theorem sumsDO_size : sumsDO.1.size = 13 := rfl
theorem sumsDO0 : ∃ o, sumsDO.1[0]? = some o ∧ o.dst = some 100 ∧ o.guard = none ∧ o.op = Go.Op.load 24 (Go.Operand.tmp 4) := ⟨_, rfl, rfl, rfl, rfl⟩
theorem sumsDO1 : ∃ o, sumsDO.1[1]? = some o ∧ o.dst = some 101 ∧ o.guard = none ∧ o.op = Go.Op.move (Go.Operand.tmp 3) := ⟨_, rfl, rfl, rfl, rfl⟩
theorem sumsDO2 : ∃ o, sumsDO.1[2]? = some o ∧ o.dst = some 102 ∧ o.guard = none ∧ o.op = Go.Op.binOp Go.BinOp.sub 3 (Go.Operand.tmp 101) (Go.Operand.const (Go.Value.int Go.IntKind.i64 1)) 3 := ⟨_, rfl, rfl, rfl, rfl⟩
theorem sumsDO3 : ∃ o, sumsDO.1[3]? = some o ∧ o.dst = some 103 ∧ o.guard = none ∧ o.op = Go.Op.move (Go.Operand.tmp 9) := ⟨_, rfl, rfl, rfl, rfl⟩
theorem sumsDO4 : ∃ o, sumsDO.1[4]? = some o ∧ o.dst = some 104 ∧ o.guard = none ∧ o.op = Go.Op.call { callee := Go.Callee.value (Go.Operand.func 19), args := #[Go.Operand.tmp 100, Go.Operand.tmp 102, Go.Operand.tmp 103], argTypes := #[24, 3, 3] } := ⟨_, rfl, rfl, rfl, rfl⟩
theorem sumsDO5 : ∃ o, sumsDO.1[5]? = some o ∧ o.dst = some 105 ∧ o.guard = none ∧ o.op = Go.Op.load 24 (Go.Operand.tmp 4) := ⟨_, rfl, rfl, rfl, rfl⟩
theorem sumsDO6 : ∃ o, sumsDO.1[6]? = some o ∧ o.dst = some 106 ∧ o.guard = none ∧ o.op = Go.Op.move (Go.Operand.tmp 9) := ⟨_, rfl, rfl, rfl, rfl⟩
theorem sumsDO7 : ∃ o, sumsDO.1[7]? = some o ∧ o.dst = some 107 ∧ o.guard = none ∧ o.op = Go.Op.binOp Go.BinOp.sub 3 (Go.Operand.tmp 106) (Go.Operand.const (Go.Value.int Go.IntKind.i64 1)) 3 := ⟨_, rfl, rfl, rfl, rfl⟩
theorem sumsDO8 : ∃ o, sumsDO.1[8]? = some o ∧ o.dst = some 108 ∧ o.guard = none ∧ o.op = Go.Op.call { callee := Go.Callee.value (Go.Operand.func 19), args := #[Go.Operand.tmp 105, Go.Operand.tmp 107, Go.Operand.const (Go.Value.int Go.IntKind.i64 0)], argTypes := #[24, 3, 3] } := ⟨_, rfl, rfl, rfl, rfl⟩
theorem sumsDO9 : ∃ o, sumsDO.1[9]? = some o ∧ o.dst = some 109 ∧ o.guard = none ∧ o.op = Go.Op.move (Go.Operand.tmp 9) := ⟨_, rfl, rfl, rfl, rfl⟩
theorem sumsDO10 : ∃ o, sumsDO.1[10]? = some o ∧ o.dst = some 110 ∧ o.guard = none ∧ o.op = Go.Op.call { callee := Go.Callee.value (Go.Operand.func 18), args := #[Go.Operand.tmp 104, Go.Operand.tmp 108, Go.Operand.tmp 109], argTypes := #[24, 24, 3] } := ⟨_, rfl, rfl, rfl, rfl⟩
theorem sumsDO11 : ∃ o, sumsDO.1[11]? = some o ∧ o.dst = some 111 ∧ o.guard = none ∧ o.op = Go.Op.load 24 (Go.Operand.tmp 4) := ⟨_, rfl, rfl, rfl, rfl⟩
theorem sumsDO12 : ∃ o, sumsDO.1[12]? = some o ∧ o.dst = some 112 ∧ o.guard = none ∧ o.op = Go.Op.binOp Go.BinOp.neq 24 (Go.Operand.tmp 110) (Go.Operand.tmp 111) 24 := ⟨_, rfl, rfl, rfl, rfl⟩
theorem sumsDO_back : ∀ (i : Nat) (o : Oper), sumsDO.1[i]? = some o → ∀ e ∈ o.after, Region.binds .any e = true → e.on < i := by
  have h : ((List.range 13).all fun i => (sumsDO.1[i]?.map fun o => o.after.all fun e => !Region.binds .any e || decide (e.on < i)).getD false) = true := by kernel_rfl
  intro i o ho e he hb
  have hi : i < 13 := by
    by_cases q : i < 13
    · exact q
    · rw [Array.getElem?_eq_none (by rw [sumsDO_size]; omega)] at ho; cases ho
  have h2 := List.all_eq_true.1 h i (List.mem_range.2 hi)
  rw [ho] at h2
  simp only [Option.map_some, Option.getD_some, Array.all_eq_true'] at h2
  have h3 := h2 e he
  rw [hb] at h3
  simpa using h3
def sumsDK (gA a W j : Nat) : List (List Nat × Tw) := [isJ [] (numV (a)), isJ [] (.int .i64 (W : Int)), isJ [] (.int .i64 ((W : Int) - 1)), isJ [] (.int .i64 (j : Int)), isJ [] (numV (a / 2 ^ sh (j : Int) % 2 ^ sh ((W : Int) - 1 - (j : Int) + 1))), isJ [] (numV (a)), isJ [] (.int .i64 (j : Int)), isJ [] (.int .i64 ((j : Int) - 1)), isJ [] (numV (a / 2 ^ sh 0 % 2 ^ sh ((j : Int) - 1 - 0 + 1))), isJ [] (.int .i64 (j : Int)), isJ [] (numV ((a / 2 ^ sh (j : Int) % 2 ^ sh ((W : Int) - 1 - (j : Int) + 1)) * 2 ^ sh (j : Int) % (B * B) % 2 ^ sh 128 ||| ((a / 2 ^ sh 0 % 2 ^ sh ((j : Int) - 1 - 0 + 1)) % 2 ^ sh (j : Int)))), isJ [] (numV (a)), isJ [] (.bool false)]
theorem sumsDK_free {gA a W j : Nat} : KdFree (sumsDK gA a W j) := fun i js P hk B w w' ls v hp => by
  match i, hk with
  | 0, hk => cases hk; exact hp
  | 1, hk => cases hk; exact hp
  | 2, hk => cases hk; exact hp
  | 3, hk => cases hk; exact hp
  | 4, hk => cases hk; exact hp
  | 5, hk => cases hk; exact hp
  | 6, hk => cases hk; exact hp
  | 7, hk => cases hk; exact hp
  | 8, hk => cases hk; exact hp
  | 9, hk => cases hk; exact hp
  | 10, hk => cases hk; exact hp
  | 11, hk => cases hk; exact hp
  | 12, hk => cases hk; exact hp
  | i + 13, hk => simp [sumsDK] at hk
structure sumsDC (gA a W j : Nat) (WB : World) (T : List Value) : Prop where
  tl : T.length = 114
  t3 : nth T 3 = .int .i64 (W : Int)
  t4 : nth T 4 = .pointer (some ⟨gA, 0, none⟩)
  t9 : nth T 9 = .int .i64 (j : Int)
  ca0 : WB.cell? ⟨gA, 0, none⟩ = some (.int .u64 ((a / B : Nat) : Int))
  ca1 : WB.cell? ⟨gA, 1, none⟩ = some (.int .u64 ((a % B : Nat) : Int))
  la : a < 2 ^ W
  lW : W ≤ 128
  j0 : 0 < j
  jW : j < W
set_option maxRecDepth 100000 in
set_option maxHeartbeats 1000000 in
theorem sumsD_s0 {gA a W j : Nat} {WB w : World} {T l : List Value} {L : Array Bool} (Q : Exit → Act → World → Prop) (c : sumsDC gA a W j WB T) (h : VT Tryd.prog sumsDO.1 13 114 sumsDD WB (sumsDK gA a W j) T L l w 0) : wpOp Tryd.prog sumsDO.1 Q 0 (SJ (vaR WB (sumsDK gA a W j)) 13 sumsDD T (L.setIfInBounds 0 true)) (frm2 sumsDD T l) w := by
  obtain ⟨o, ho, hd, hg, hop⟩ := sumsDO0
  have hw := wanted_un (ops := sumsDO.1) (t := (frm2 sumsDD T l).tmps) hg
  exact h.same (v := numV (a)) ho hd rfl hw rfl (ex_load_n hop ((h.old (s := 4) rfl (by decide)).trans c.t4) (h.cell c.ca0) (h.cell c.ca1))

set_option maxRecDepth 100000 in
set_option maxHeartbeats 1000000 in
theorem sumsD_s1 {gA a W j : Nat} {WB w : World} {T l : List Value} {L : Array Bool} (Q : Exit → Act → World → Prop) (c : sumsDC gA a W j WB T) (h : VT Tryd.prog sumsDO.1 13 114 sumsDD WB (sumsDK gA a W j) T L l w 1) : wpOp Tryd.prog sumsDO.1 Q 1 (SJ (vaR WB (sumsDK gA a W j)) 13 sumsDD T (L.setIfInBounds 1 true)) (frm2 sumsDD T l) w := by
  obtain ⟨o, ho, hd, hg, hop⟩ := sumsDO1
  have hw := wanted_un (ops := sumsDO.1) (t := (frm2 sumsDD T l).tmps) hg
  exact h.same (v := .int .i64 (W : Int)) ho hd rfl hw rfl (ex_move hop ((h.old (s := 3) rfl (by decide)).trans c.t3))

set_option maxRecDepth 100000 in
set_option maxHeartbeats 1000000 in
theorem sumsD_s2 {gA a W j : Nat} {WB w : World} {T l : List Value} {L : Array Bool} (Q : Exit → Act → World → Prop) (c : sumsDC gA a W j WB T) (h : VT Tryd.prog sumsDO.1 13 114 sumsDD WB (sumsDK gA a W j) T L l w 2) : wpOp Tryd.prog sumsDO.1 Q 2 (SJ (vaR WB (sumsDK gA a W j)) 13 sumsDD T (L.setIfInBounds 2 true)) (frm2 sumsDD T l) w := by
  obtain ⟨o, ho, hd, hg, hop⟩ := sumsDO2
  have hw := wanted_un (ops := sumsDO.1) (t := (frm2 sumsDD T l).tmps) hg
  exact h.same (v := .int .i64 ((W : Int) - 1)) ho hd rfl hw rfl (ex_sub1 hop ((h.new (s := 101) (j := 1) rfl (by decide)).trans (h.rw.gotK 1 (dep_of (a := 1) (by kernel_rfl) h.dep) rfl)) (by omega) (by have := c.lW; omega))

set_option maxRecDepth 100000 in
set_option maxHeartbeats 1000000 in
theorem sumsD_s3 {gA a W j : Nat} {WB w : World} {T l : List Value} {L : Array Bool} (Q : Exit → Act → World → Prop) (c : sumsDC gA a W j WB T) (h : VT Tryd.prog sumsDO.1 13 114 sumsDD WB (sumsDK gA a W j) T L l w 3) : wpOp Tryd.prog sumsDO.1 Q 3 (SJ (vaR WB (sumsDK gA a W j)) 13 sumsDD T (L.setIfInBounds 3 true)) (frm2 sumsDD T l) w := by
  obtain ⟨o, ho, hd, hg, hop⟩ := sumsDO3
  have hw := wanted_un (ops := sumsDO.1) (t := (frm2 sumsDD T l).tmps) hg
  exact h.same (v := .int .i64 (j : Int)) ho hd rfl hw rfl (ex_move hop ((h.old (s := 9) rfl (by decide)).trans c.t9))

set_option maxRecDepth 100000 in
set_option maxHeartbeats 1000000 in
theorem sumsD_s4 {gA a W j : Nat} {WB w : World} {T l : List Value} {L : Array Bool} (Q : Exit → Act → World → Prop) (c : sumsDC gA a W j WB T) (h : VT Tryd.prog sumsDO.1 13 114 sumsDD WB (sumsDK gA a W j) T L l w 4) : wpOp Tryd.prog sumsDO.1 Q 4 (SJ (vaR WB (sumsDK gA a W j)) 13 sumsDD T (L.setIfInBounds 4 true)) (frm2 sumsDD T l) w := by
  obtain ⟨o, ho, hd, hg, hop⟩ := sumsDO4
  have hw := wanted_un (ops := sumsDO.1) (t := (frm2 sumsDD T l).tmps) hg
  have x100 := ((h.new (s := 100) (j := 0) rfl (by decide)).trans (h.rw.gotK 0 (dep_of (a := 0) (by kernel_rfl) h.dep) rfl))
  have x102 := ((h.new (s := 102) (j := 2) rfl (by decide)).trans (h.rw.gotK 2 (dep_of (a := 2) (by kernel_rfl) h.dep) rfl))
  have x103 := ((h.new (s := 103) (j := 3) rfl (by decide)).trans (h.rw.gotK 3 (dep_of (a := 3) (by kernel_rfl) h.dep) rfl))
  exact h.call (v := numV (a / 2 ^ sh (j : Int) % 2 ^ sh ((W : Int) - 1 - (j : Int) + 1))) ho hd rfl hw rfl (ex_call hop rfl rfl (args := #[numV (a), .int .i64 ((W : Int) - 1), .int .i64 (j : Int)]) (all := #[numV (a), .int .i64 ((W : Int) - 1), .int .i64 (j : Int)]) (by simp only [List.map_toArray, List.map_cons, List.map_nil]; rw [x100, x102, x103]) (by simp) (fun av W => by kernel_rfl)) (numSlice_any a ((W : Int) - 1) (j : Int) w (Nat.lt_of_lt_of_le c.la (by rw [BB_pow128]; exact Nat.pow_le_pow_right (by omega) c.lW)) (by omega) (by have := c.jW; omega) (by have := c.lW; omega))

set_option maxRecDepth 100000 in
set_option maxHeartbeats 1000000 in
theorem sumsD_s5 {gA a W j : Nat} {WB w : World} {T l : List Value} {L : Array Bool} (Q : Exit → Act → World → Prop) (c : sumsDC gA a W j WB T) (h : VT Tryd.prog sumsDO.1 13 114 sumsDD WB (sumsDK gA a W j) T L l w 5) : wpOp Tryd.prog sumsDO.1 Q 5 (SJ (vaR WB (sumsDK gA a W j)) 13 sumsDD T (L.setIfInBounds 5 true)) (frm2 sumsDD T l) w := by
  obtain ⟨o, ho, hd, hg, hop⟩ := sumsDO5
  have hw := wanted_un (ops := sumsDO.1) (t := (frm2 sumsDD T l).tmps) hg
  exact h.same (v := numV (a)) ho hd rfl hw rfl (ex_load_n hop ((h.old (s := 4) rfl (by decide)).trans c.t4) (h.cell c.ca0) (h.cell c.ca1))

set_option maxRecDepth 100000 in
set_option maxHeartbeats 1000000 in
theorem sumsD_s6 {gA a W j : Nat} {WB w : World} {T l : List Value} {L : Array Bool} (Q : Exit → Act → World → Prop) (c : sumsDC gA a W j WB T) (h : VT Tryd.prog sumsDO.1 13 114 sumsDD WB (sumsDK gA a W j) T L l w 6) : wpOp Tryd.prog sumsDO.1 Q 6 (SJ (vaR WB (sumsDK gA a W j)) 13 sumsDD T (L.setIfInBounds 6 true)) (frm2 sumsDD T l) w := by
  obtain ⟨o, ho, hd, hg, hop⟩ := sumsDO6
  have hw := wanted_un (ops := sumsDO.1) (t := (frm2 sumsDD T l).tmps) hg
  exact h.same (v := .int .i64 (j : Int)) ho hd rfl hw rfl (ex_move hop ((h.old (s := 9) rfl (by decide)).trans c.t9))

set_option maxRecDepth 100000 in
set_option maxHeartbeats 1000000 in
theorem sumsD_s7 {gA a W j : Nat} {WB w : World} {T l : List Value} {L : Array Bool} (Q : Exit → Act → World → Prop) (c : sumsDC gA a W j WB T) (h : VT Tryd.prog sumsDO.1 13 114 sumsDD WB (sumsDK gA a W j) T L l w 7) : wpOp Tryd.prog sumsDO.1 Q 7 (SJ (vaR WB (sumsDK gA a W j)) 13 sumsDD T (L.setIfInBounds 7 true)) (frm2 sumsDD T l) w := by
  obtain ⟨o, ho, hd, hg, hop⟩ := sumsDO7
  have hw := wanted_un (ops := sumsDO.1) (t := (frm2 sumsDD T l).tmps) hg
  exact h.same (v := .int .i64 ((j : Int) - 1)) ho hd rfl hw rfl (ex_sub1 hop ((h.new (s := 106) (j := 6) rfl (by decide)).trans (h.rw.gotK 6 (dep_of (a := 6) (by kernel_rfl) h.dep) rfl)) (by omega) (by have := c.lW; have := c.jW; omega))

set_option maxRecDepth 100000 in
set_option maxHeartbeats 1000000 in
theorem sumsD_s8 {gA a W j : Nat} {WB w : World} {T l : List Value} {L : Array Bool} (Q : Exit → Act → World → Prop) (c : sumsDC gA a W j WB T) (h : VT Tryd.prog sumsDO.1 13 114 sumsDD WB (sumsDK gA a W j) T L l w 8) : wpOp Tryd.prog sumsDO.1 Q 8 (SJ (vaR WB (sumsDK gA a W j)) 13 sumsDD T (L.setIfInBounds 8 true)) (frm2 sumsDD T l) w := by
  obtain ⟨o, ho, hd, hg, hop⟩ := sumsDO8
  have hw := wanted_un (ops := sumsDO.1) (t := (frm2 sumsDD T l).tmps) hg
  have x105 := ((h.new (s := 105) (j := 5) rfl (by decide)).trans (h.rw.gotK 5 (dep_of (a := 5) (by kernel_rfl) h.dep) rfl))
  have x107 := ((h.new (s := 107) (j := 7) rfl (by decide)).trans (h.rw.gotK 7 (dep_of (a := 7) (by kernel_rfl) h.dep) rfl))
  exact h.call (v := numV (a / 2 ^ sh 0 % 2 ^ sh ((j : Int) - 1 - 0 + 1))) ho hd rfl hw rfl (ex_call hop rfl rfl (args := #[numV (a), .int .i64 ((j : Int) - 1), .int .i64 0]) (all := #[numV (a), .int .i64 ((j : Int) - 1), .int .i64 0]) (by simp only [List.map_toArray, List.map_cons, List.map_nil]; rw [x105, x107]; rfl) (by simp) (fun av W => by kernel_rfl)) (numSlice_any a ((j : Int) - 1) 0 w (Nat.lt_of_lt_of_le c.la (by rw [BB_pow128]; exact Nat.pow_le_pow_right (by omega) c.lW)) (by omega) (by have := c.j0; omega) (by have := c.lW; have := c.jW; omega))

set_option maxRecDepth 100000 in
set_option maxHeartbeats 1000000 in
theorem sumsD_s9 {gA a W j : Nat} {WB w : World} {T l : List Value} {L : Array Bool} (Q : Exit → Act → World → Prop) (c : sumsDC gA a W j WB T) (h : VT Tryd.prog sumsDO.1 13 114 sumsDD WB (sumsDK gA a W j) T L l w 9) : wpOp Tryd.prog sumsDO.1 Q 9 (SJ (vaR WB (sumsDK gA a W j)) 13 sumsDD T (L.setIfInBounds 9 true)) (frm2 sumsDD T l) w := by
  obtain ⟨o, ho, hd, hg, hop⟩ := sumsDO9
  have hw := wanted_un (ops := sumsDO.1) (t := (frm2 sumsDD T l).tmps) hg
  exact h.same (v := .int .i64 (j : Int)) ho hd rfl hw rfl (ex_move hop ((h.old (s := 9) rfl (by decide)).trans c.t9))

set_option maxRecDepth 100000 in
set_option maxHeartbeats 1000000 in
theorem sumsD_s10 {gA a W j : Nat} {WB w : World} {T l : List Value} {L : Array Bool} (Q : Exit → Act → World → Prop) (c : sumsDC gA a W j WB T) (h : VT Tryd.prog sumsDO.1 13 114 sumsDD WB (sumsDK gA a W j) T L l w 10) : wpOp Tryd.prog sumsDO.1 Q 10 (SJ (vaR WB (sumsDK gA a W j)) 13 sumsDD T (L.setIfInBounds 10 true)) (frm2 sumsDD T l) w := by
  obtain ⟨o, ho, hd, hg, hop⟩ := sumsDO10
  have hw := wanted_un (ops := sumsDO.1) (t := (frm2 sumsDD T l).tmps) hg
  have x104 := ((h.new (s := 104) (j := 4) rfl (by decide)).trans (h.rw.gotK 4 (dep_of (a := 4) (by kernel_rfl) h.dep) rfl))
  have x108 := ((h.new (s := 108) (j := 8) rfl (by decide)).trans (h.rw.gotK 8 (dep_of (a := 8) (by kernel_rfl) h.dep) rfl))
  have x109 := ((h.new (s := 109) (j := 9) rfl (by decide)).trans (h.rw.gotK 9 (dep_of (a := 9) (by kernel_rfl) h.dep) rfl))
  exact h.call (v := numV ((a / 2 ^ sh (j : Int) % 2 ^ sh ((W : Int) - 1 - (j : Int) + 1)) * 2 ^ sh (j : Int) % (B * B) % 2 ^ sh 128 ||| ((a / 2 ^ sh 0 % 2 ^ sh ((j : Int) - 1 - 0 + 1)) % 2 ^ sh (j : Int)))) ho hd rfl hw rfl (ex_call hop rfl rfl (args := #[numV (a / 2 ^ sh (j : Int) % 2 ^ sh ((W : Int) - 1 - (j : Int) + 1)), numV (a / 2 ^ sh 0 % 2 ^ sh ((j : Int) - 1 - 0 + 1)), .int .i64 (j : Int)]) (all := #[numV (a / 2 ^ sh (j : Int) % 2 ^ sh ((W : Int) - 1 - (j : Int) + 1)), numV (a / 2 ^ sh 0 % 2 ^ sh ((j : Int) - 1 - 0 + 1)), .int .i64 (j : Int)]) (by simp only [List.map_toArray, List.map_cons, List.map_nil]; rw [x104, x108, x109]) (by simp) (fun av W => by kernel_rfl)) (numCat_any (a / 2 ^ sh (j : Int) % 2 ^ sh ((W : Int) - 1 - (j : Int) + 1)) (a / 2 ^ sh 0 % 2 ^ sh ((j : Int) - 1 - 0 + 1)) (j : Int) w (lt_of_pow (Nat.mod_lt _ (Nat.two_pow_pos _))) (lt_of_pow (Nat.mod_lt _ (Nat.two_pow_pos _))))

set_option maxRecDepth 100000 in
set_option maxHeartbeats 1000000 in
theorem sumsD_s11 {gA a W j : Nat} {WB w : World} {T l : List Value} {L : Array Bool} (Q : Exit → Act → World → Prop) (c : sumsDC gA a W j WB T) (h : VT Tryd.prog sumsDO.1 13 114 sumsDD WB (sumsDK gA a W j) T L l w 11) : wpOp Tryd.prog sumsDO.1 Q 11 (SJ (vaR WB (sumsDK gA a W j)) 13 sumsDD T (L.setIfInBounds 11 true)) (frm2 sumsDD T l) w := by
  obtain ⟨o, ho, hd, hg, hop⟩ := sumsDO11
  have hw := wanted_un (ops := sumsDO.1) (t := (frm2 sumsDD T l).tmps) hg
  exact h.same (v := numV (a)) ho hd rfl hw rfl (ex_load_n hop ((h.old (s := 4) rfl (by decide)).trans c.t4) (h.cell c.ca0) (h.cell c.ca1))

set_option maxRecDepth 100000 in
set_option maxHeartbeats 1000000 in
theorem sumsD_s12 {gA a W j : Nat} {WB w : World} {T l : List Value} {L : Array Bool} (Q : Exit → Act → World → Prop) (c : sumsDC gA a W j WB T) (h : VT Tryd.prog sumsDO.1 13 114 sumsDD WB (sumsDK gA a W j) T L l w 12) : wpOp Tryd.prog sumsDO.1 Q 12 (SJ (vaR WB (sumsDK gA a W j)) 13 sumsDD T (L.setIfInBounds 12 true)) (frm2 sumsDD T l) w := by
  obtain ⟨o, ho, hd, hg, hop⟩ := sumsDO12
  have hw := wanted_un (ops := sumsDO.1) (t := (frm2 sumsDD T l).tmps) hg
  exact h.same (v := .bool false) ho hd rfl hw rfl (ex_neqN hop ((h.new (s := 110) (j := 10) rfl (by decide)).trans (h.rw.gotK 10 (dep_of (a := 10) (by kernel_rfl) h.dep) rfl)) ((h.new (s := 111) (j := 11) rfl (by decide)).trans (h.rw.gotK 11 (dep_of (a := 11) (by kernel_rfl) h.dep) rfl)) (cat_parts c.lW c.j0 c.jW c.la))

set_option maxRecDepth 100000 in
set_option maxHeartbeats 4000000 in
theorem sumsD (gA a W j : Nat) (WB : World)
    (ca0 : Hid (WB.cell? ⟨gA, 0, none⟩ = some (.int .u64 ((a / B : Nat) : Int))))
    (ca1 : Hid (WB.cell? ⟨gA, 1, none⟩ = some (.int .u64 ((a % B : Nat) : Int))))
    (la : Hid (a < 2 ^ W))
    (lW : Hid (W ≤ 128))
    (j0 : Hid (0 < j))
    (jW : Hid (j < W))
    (s0 s1 s2 s5 s6 s7 s8 s10 s11 s12 s13 s14 s15 s16 s17 s18 s19 s20 s21 s22 s23 s24 s25 s26 s27 s28 s29 s30 s31 s32 s33 s34 s35 s36 s37 s38 s39 s40 s41 s42 s43 s44 s45 s46 s47 s48 s49 s50 s51 s52 s53 s54 s55 s56 s57 s58 s59 s60 s61 s62 s63 s64 s65 s66 s67 s68 s69 s70 s71 s72 s73 s74 s75 s76 s77 s78 s79 s80 s81 s82 s83 s84 s85 s86 s87 s88 s89 s90 s91 s92 s93 s94 s95 s96 s97 s98 s99 s100 s101 s102 s103 s104 s105 s106 s107 s108 s109 s110 s111 s112 s113 : Value) (Q : Exit → Act → World → Prop)
    (hexit : ∀ (w' : World), Below WB.heap.size WB w' → Q .normal ⟨#[s0, s1, s2, .int .i64 (W : Int), .pointer (some ⟨gA, 0, none⟩), s5, s6, s7, s8, .int .i64 (j : Int), s10, s11, s12, s13, s14, s15, s16, s17, s18, s19, s20, s21, s22, s23, s24, s25, s26, s27, s28, s29, s30, s31, s32, s33, s34, s35, s36, s37, s38, s39, s40, s41, s42, s43, s44, s45, s46, s47, s48, s49, s50, s51, s52, s53, s54, s55, s56, s57, s58, s59, s60, s61, s62, s63, s64, s65, s66, s67, s68, s69, s70, s71, s72, s73, s74, s75, s76, s77, s78, s79, s80, s81, s82, s83, s84, s85, s86, s87, s88, s89, s90, s91, s92, s93, s94, s95, s96, s97, s98, s99, numV (a), .int .i64 (W : Int), .int .i64 ((W : Int) - 1), .int .i64 (j : Int), numV (a / 2 ^ sh (j : Int) % 2 ^ sh ((W : Int) - 1 - (j : Int) + 1)), numV (a), .int .i64 (j : Int), .int .i64 ((j : Int) - 1), numV (a / 2 ^ sh 0 % 2 ^ sh ((j : Int) - 1 - 0 + 1)), .int .i64 (j : Int), numV ((a / 2 ^ sh (j : Int) % 2 ^ sh ((W : Int) - 1 - (j : Int) + 1)) * 2 ^ sh (j : Int) % (B * B) % 2 ^ sh 128 ||| ((a / 2 ^ sh 0 % 2 ^ sh ((j : Int) - 1 - 0 + 1)) % 2 ^ sh (j : Int))), numV (a), .bool false, s113], []⟩ w') :
    Code.wp Tryd.prog ((Tryd.f4.body.bind (findRegion 10)).getD .skip) Q ⟨#[s0, s1, s2, .int .i64 (W : Int), .pointer (some ⟨gA, 0, none⟩), s5, s6, s7, s8, .int .i64 (j : Int), s10, s11, s12, s13, s14, s15, s16, s17, s18, s19, s20, s21, s22, s23, s24, s25, s26, s27, s28, s29, s30, s31, s32, s33, s34, s35, s36, s37, s38, s39, s40, s41, s42, s43, s44, s45, s46, s47, s48, s49, s50, s51, s52, s53, s54, s55, s56, s57, s58, s59, s60, s61, s62, s63, s64, s65, s66, s67, s68, s69, s70, s71, s72, s73, s74, s75, s76, s77, s78, s79, s80, s81, s82, s83, s84, s85, s86, s87, s88, s89, s90, s91, s92, s93, s94, s95, s96, s97, s98, s99, s100, s101, s102, s103, s104, s105, s106, s107, s108, s109, s110, s111, s112, s113], []⟩ WB := by
  have c : sumsDC gA a W j WB [s0, s1, s2, .int .i64 (W : Int), .pointer (some ⟨gA, 0, none⟩), s5, s6, s7, s8, .int .i64 (j : Int), s10, s11, s12, s13, s14, s15, s16, s17, s18, s19, s20, s21, s22, s23, s24, s25, s26, s27, s28, s29, s30, s31, s32, s33, s34, s35, s36, s37, s38, s39, s40, s41, s42, s43, s44, s45, s46, s47, s48, s49, s50, s51, s52, s53, s54, s55, s56, s57, s58, s59, s60, s61, s62, s63, s64, s65, s66, s67, s68, s69, s70, s71, s72, s73, s74, s75, s76, s77, s78, s79, s80, s81, s82, s83, s84, s85, s86, s87, s88, s89, s90, s91, s92, s93, s94, s95, s96, s97, s98, s99, s100, s101, s102, s103, s104, s105, s106, s107, s108, s109, s110, s111, s112, s113] := { tl := rfl, t3 := rfl, t4 := rfl, t9 := rfl, ca0 := ca0.out, ca1 := ca1.out, la := la.out, lW := lW.out, j0 := j0.out, jW := jW.out }
  have h0 : (⟨#[s0, s1, s2, .int .i64 (W : Int), .pointer (some ⟨gA, 0, none⟩), s5, s6, s7, s8, .int .i64 (j : Int), s10, s11, s12, s13, s14, s15, s16, s17, s18, s19, s20, s21, s22, s23, s24, s25, s26, s27, s28, s29, s30, s31, s32, s33, s34, s35, s36, s37, s38, s39, s40, s41, s42, s43, s44, s45, s46, s47, s48, s49, s50, s51, s52, s53, s54, s55, s56, s57, s58, s59, s60, s61, s62, s63, s64, s65, s66, s67, s68, s69, s70, s71, s72, s73, s74, s75, s76, s77, s78, s79, s80, s81, s82, s83, s84, s85, s86, s87, s88, s89, s90, s91, s92, s93, s94, s95, s96, s97, s98, s99, s100, s101, s102, s103, s104, s105, s106, s107, s108, s109, s110, s111, s112, s113], []⟩ : Act) = frm2 sumsDD [s0, s1, s2, .int .i64 (W : Int), .pointer (some ⟨gA, 0, none⟩), s5, s6, s7, s8, .int .i64 (j : Int), s10, s11, s12, s13, s14, s15, s16, s17, s18, s19, s20, s21, s22, s23, s24, s25, s26, s27, s28, s29, s30, s31, s32, s33, s34, s35, s36, s37, s38, s39, s40, s41, s42, s43, s44, s45, s46, s47, s48, s49, s50, s51, s52, s53, s54, s55, s56, s57, s58, s59, s60, s61, s62, s63, s64, s65, s66, s67, s68, s69, s70, s71, s72, s73, s74, s75, s76, s77, s78, s79, s80, s81, s82, s83, s84, s85, s86, s87, s88, s89, s90, s91, s92, s93, s94, s95, s96, s97, s98, s99, s100, s101, s102, s103, s104, s105, s106, s107, s108, s109, s110, s111, s112, s113] [s100, s101, s102, s103, s104, s105, s106, s107, s108, s109, s110, s111, s112] := rfl
  have hend : ∀ f : Nat → Value, frm2 sumsDD [s0, s1, s2, .int .i64 (W : Int), .pointer (some ⟨gA, 0, none⟩), s5, s6, s7, s8, .int .i64 (j : Int), s10, s11, s12, s13, s14, s15, s16, s17, s18, s19, s20, s21, s22, s23, s24, s25, s26, s27, s28, s29, s30, s31, s32, s33, s34, s35, s36, s37, s38, s39, s40, s41, s42, s43, s44, s45, s46, s47, s48, s49, s50, s51, s52, s53, s54, s55, s56, s57, s58, s59, s60, s61, s62, s63, s64, s65, s66, s67, s68, s69, s70, s71, s72, s73, s74, s75, s76, s77, s78, s79, s80, s81, s82, s83, s84, s85, s86, s87, s88, s89, s90, s91, s92, s93, s94, s95, s96, s97, s98, s99, s100, s101, s102, s103, s104, s105, s106, s107, s108, s109, s110, s111, s112, s113] ((List.range 13).map f) = ⟨#[s0, s1, s2, .int .i64 (W : Int), .pointer (some ⟨gA, 0, none⟩), s5, s6, s7, s8, .int .i64 (j : Int), s10, s11, s12, s13, s14, s15, s16, s17, s18, s19, s20, s21, s22, s23, s24, s25, s26, s27, s28, s29, s30, s31, s32, s33, s34, s35, s36, s37, s38, s39, s40, s41, s42, s43, s44, s45, s46, s47, s48, s49, s50, s51, s52, s53, s54, s55, s56, s57, s58, s59, s60, s61, s62, s63, s64, s65, s66, s67, s68, s69, s70, s71, s72, s73, s74, s75, s76, s77, s78, s79, s80, s81, s82, s83, s84, s85, s86, s87, s88, s89, s90, s91, s92, s93, s94, s95, s96, s97, s98, s99, f 0, f 1, f 2, f 3, f 4, f 5, f 6, f 7, f 8, f 9, f 10, f 11, f 12, s113], []⟩ := fun f => rfl
  rw [h0]
  clear h0
  have hex : ∀ (f : Nat → Value) (w' : World), f 0 = numV (a) → f 1 = .int .i64 (W : Int) → f 2 = .int .i64 ((W : Int) - 1) → f 3 = .int .i64 (j : Int) → f 4 = numV (a / 2 ^ sh (j : Int) % 2 ^ sh ((W : Int) - 1 - (j : Int) + 1)) → f 5 = numV (a) → f 6 = .int .i64 (j : Int) → f 7 = .int .i64 ((j : Int) - 1) → f 8 = numV (a / 2 ^ sh 0 % 2 ^ sh ((j : Int) - 1 - 0 + 1)) → f 9 = .int .i64 (j : Int) → f 10 = numV ((a / 2 ^ sh (j : Int) % 2 ^ sh ((W : Int) - 1 - (j : Int) + 1)) * 2 ^ sh (j : Int) % (B * B) % 2 ^ sh 128 ||| ((a / 2 ^ sh 0 % 2 ^ sh ((j : Int) - 1 - 0 + 1)) % 2 ^ sh (j : Int))) → f 11 = numV (a) → f 12 = .bool false → Below WB.heap.size WB w' → Q .normal ⟨#[s0, s1, s2, .int .i64 (W : Int), .pointer (some ⟨gA, 0, none⟩), s5, s6, s7, s8, .int .i64 (j : Int), s10, s11, s12, s13, s14, s15, s16, s17, s18, s19, s20, s21, s22, s23, s24, s25, s26, s27, s28, s29, s30, s31, s32, s33, s34, s35, s36, s37, s38, s39, s40, s41, s42, s43, s44, s45, s46, s47, s48, s49, s50, s51, s52, s53, s54, s55, s56, s57, s58, s59, s60, s61, s62, s63, s64, s65, s66, s67, s68, s69, s70, s71, s72, s73, s74, s75, s76, s77, s78, s79, s80, s81, s82, s83, s84, s85, s86, s87, s88, s89, s90, s91, s92, s93, s94, s95, s96, s97, s98, s99, f 0, f 1, f 2, f 3, f 4, f 5, f 6, f 7, f 8, f 9, f 10, f 11, f 12, s113], []⟩ w' := by
    intro f w' e0 e1 e2 e3 e4 e5 e6 e7 e8 e9 e10 e11 e12 a
    rw [e0, e1, e2, e3, e4, e5, e6, e7, e8, e9, e10, e11, e12]
    exact hexit w' a
  clear hexit
  generalize [s0, s1, s2, .int .i64 (W : Int), .pointer (some ⟨gA, 0, none⟩), s5, s6, s7, s8, .int .i64 (j : Int), s10, s11, s12, s13, s14, s15, s16, s17, s18, s19, s20, s21, s22, s23, s24, s25, s26, s27, s28, s29, s30, s31, s32, s33, s34, s35, s36, s37, s38, s39, s40, s41, s42, s43, s44, s45, s46, s47, s48, s49, s50, s51, s52, s53, s54, s55, s56, s57, s58, s59, s60, s61, s62, s63, s64, s65, s66, s67, s68, s69, s70, s71, s72, s73, s74, s75, s76, s77, s78, s79, s80, s81, s82, s83, s84, s85, s86, s87, s88, s89, s90, s91, s92, s93, s94, s95, s96, s97, s98, s99, s100, s101, s102, s103, s104, s105, s106, s107, s108, s109, s110, s111, s112, s113] = T at *
  rw [sumsDO.2]
  show Code.wp Tryd.prog (.region 10 sumsDO.1 true) Q _ WB
  refine wp_region_inv2 (by kernel_rfl) (SJ (vaR WB (sumsDK gA a W j)) 13 sumsDD T) ?_ ?_ ?_ ?_
  · exact ⟨_, rfl, by rw [sumsDO_size]; simp, rfl, RW.init (fun i => did_none _ _) (Nat.le_refl _) (below_drewN (Below.refl _ _) 1)⟩
  · rintro L a w i hL hi hnd hdep ⟨l, hl, hLn, rfl, hI⟩
    have ht : VT Tryd.prog sumsDO.1 13 114 sumsDD WB (sumsDK gA a W j) T L l w i := ⟨c.tl, sumsDK_free, hl, hLn, hi, hnd, hI, hdep⟩
    match i, hi with
    | 0, _ => exact sumsD_s0 Q c ht
    | 1, _ => exact sumsD_s1 Q c ht
    | 2, _ => exact sumsD_s2 Q c ht
    | 3, _ => exact sumsD_s3 Q c ht
    | 4, _ => exact sumsD_s4 Q c ht
    | 5, _ => exact sumsD_s5 Q c ht
    | 6, _ => exact sumsD_s6 Q c ht
    | 7, _ => exact sumsD_s7 Q c ht
    | 8, _ => exact sumsD_s8 Q c ht
    | 9, _ => exact sumsD_s9 Q c ht
    | 10, _ => exact sumsD_s10 Q c ht
    | 11, _ => exact sumsD_s11 Q c ht
    | 12, _ => exact sumsD_s12 Q c ht
    | i + 13, hi => exact absurd hi (by rw [sumsDO_size]; omega)
  · exact sumsDO_back
  · rintro L a w hall ⟨l, hl, hLn, rfl, hI⟩
    have h1 := hend (nth l)
    rw [list_nth hl] at h1
    rw [h1]
    exact hex (nth l) w (hI.gotK 0 (hall 0 (by rw [sumsDO_size]; decide)) rfl) (hI.gotK 1 (hall 1 (by rw [sumsDO_size]; decide)) rfl) (hI.gotK 2 (hall 2 (by rw [sumsDO_size]; decide)) rfl) (hI.gotK 3 (hall 3 (by rw [sumsDO_size]; decide)) rfl) (hI.gotK 4 (hall 4 (by rw [sumsDO_size]; decide)) rfl) (hI.gotK 5 (hall 5 (by rw [sumsDO_size]; decide)) rfl) (hI.gotK 6 (hall 6 (by rw [sumsDO_size]; decide)) rfl) (hI.gotK 7 (hall 7 (by rw [sumsDO_size]; decide)) rfl) (hI.gotK 8 (hall 8 (by rw [sumsDO_size]; decide)) rfl) (hI.gotK 9 (hall 9 (by rw [sumsDO_size]; decide)) rfl) (hI.gotK 10 (hall 10 (by rw [sumsDO_size]; decide)) rfl) (hI.gotK 11 (hall 11 (by rw [sumsDO_size]; decide)) rfl) (hI.gotK 12 (hall 12 (by rw [sumsDO_size]; decide)) rfl) hI.glob

end Go.Proofs.YtfalhemeiengcaaDoor
