/-
  Lemmas, joined: Leaf, Clos, Find, Reg, Inv2, RegW.
-/
import Derived.Test.YtehcclcokgmplaaJA06
import Derived.Test.YtehcclcokgmplaaJA01
import Derived.Test.YtehcclcokgmplaaJA02
/-
  What a node that asks nothing tells.
-/
namespace Go.Proofs.Ytehcclcokgmplaa
open Go.RowKit Go.Maps

/-- A node, as a value. -/
def nodeV (op c1 c2 c3 c4 c5 : Int) : Value := .agg #[.int .u8 op, .int .i64 c1, .int .i64 c2, .int .i64 c3, .int .u64 c4, .int .u64 c5]

set_option maxRecDepth 100000 in
set_option maxHeartbeats 2000000 in
theorem leaf_const (m : Nat) (c1 c2 c3 c4 c5 : Int) (w : World) :
    Calls Try.prog 45 #[.pointer (some ⟨m, 0, none⟩), nodeV 1 c1 c2 c3 c4 c5] w fun e w' => e = .returned (.tuple #[.agg #[.int .u64 c4, .int .u64 c5], .bool true]) ∧ Below w.heap.size w w' := by
  unfold nodeV
  go_enter Try.func45, Try.ntmps45
  go_wp2_with fail
  exact bodyPost_ret (v := .tuple #[.agg #[.int .u64 c4, .int .u64 c5], .bool true]) (by simp [results, Try.results45, go_sem]) rfl ⟨rfl, (by repeat (first | exact Below.refl _ _ | assumption | refine Below.drew ?_ | refine Below.alloc ?_ (by first | omega | (simp <;> omega)) _ | refine Below.setCell ?_ (by first | omega | (simp <;> omega)) _ | refine Below.trans ?_ (Below.mono (by assumption) (by first | omega | (simp <;> omega)))))⟩

set_option maxRecDepth 100000 in
set_option maxHeartbeats 2000000 in
theorem leaf_none (m : Nat) (op c1 c2 c3 c4 c5 : Int) (w : World) (h1 : 6 < op) :
    Calls Try.prog 45 #[.pointer (some ⟨m, 0, none⟩), nodeV op c1 c2 c3 c4 c5] w fun e w' => e = .returned (.tuple #[.agg #[.int .u64 0, .int .u64 0], .bool false]) ∧ Below w.heap.size w w' := by
  unfold nodeV
  have n1 : ¬ op = 1 := by omega
  have n2 : ¬ op = 2 := by omega
  have n3 : ¬ op = 3 := by omega
  have n4 : ¬ op = 4 := by omega
  have n5 : ¬ op = 5 := by omega
  have n6 : ¬ op = 6 := by omega
  clear h1
  go_enter Try.func45, Try.ntmps45
  go_wp2_with fail
  exact bodyPost_ret (v := .tuple #[.agg #[.int .u64 0, .int .u64 0], .bool false]) (by simp [results, Try.results45, go_sem]) rfl ⟨rfl, (by repeat (first | exact Below.refl _ _ | assumption | refine Below.drew ?_ | refine Below.alloc ?_ (by first | omega | (simp <;> omega)) _ | refine Below.setCell ?_ (by first | omega | (simp <;> omega)) _ | refine Below.trans ?_ (Below.mono (by assumption) (by first | omega | (simp <;> omega)))))⟩

end Go.Proofs.Ytehcclcokgmplaa

/-
  What the closures of the maps tell.
-/
namespace Go.Proofs.Ytehcclcokgmplaa
open Go.RowKit Go.Maps

/-- A sized number, as a value. -/
def szV (n : Nat) (k : Int) : Value := .agg #[.int .u64 ((n / B : Nat) : Int), .int .u64 ((n % B : Nat) : Int), .int .i64 k]
def oneN (b : Bool) : Nat := if b then 1 else 0
def NodeAt (w : World) (g : Nat) (op c1 c2 c3 c4 c5 : Int) : Prop := w.heap[g]? = some (.cells #[.int .u8 op, .int .i64 c1, .int .i64 c2, .int .i64 c3, .int .u64 c4, .int .u64 c5] 61 (0, 0))
theorem NodeAt.below {w w' : World} {g : Nat} {op c1 c2 c3 c4 c5 : Int} (h : NodeAt w g op c1 c2 c3 c4 c5) (hb : Below w.heap.size w w') : NodeAt w' g op c1 c2 c3 c4 c5 := (hb.block g (Array.getElem?_eq_some_iff.1 h).1).trans h

set_option maxRecDepth 100000 in
set_option maxHeartbeats 1000000 in
theorem one_any (b : Bool) (w : World) : Calls Try.prog 54 #[.bool b] w (RetNum w (oneN b)) := by
  have H1 : Hid (∀ W, Calls Try.prog 53 #[.int .u64 1] W fun e w' => e = .returned (.agg #[.int .u64 0, .int .u64 1]) ∧ Below W.heap.size W w') := fun W => numOf_any 1 (by unfold B; omega) W
  cases b
  · go_enter Try.func54, Try.ntmps54
    go_wp2_with fail
    exact bodyPost_ret (v := .agg #[.int .u64 0, .int .u64 0]) (by simp [results, Try.results54, go_sem]) rfl ⟨rfl, (by repeat (first | exact Below.refl _ _ | assumption | refine Below.drew ?_ | refine Below.alloc ?_ (by first | omega | (simp <;> omega)) _ | refine Below.setCell ?_ (by first | omega | (simp <;> omega)) _ | refine Below.trans ?_ (Below.mono (by assumption) (by first | omega | (simp <;> omega)))))⟩
  · go_enter Try.func54, Try.ntmps54
    go_wp2_with (go_at_call 53; refine (H1.out _).mono ?_; rintro e w1 ⟨rfl, hb⟩; obtain ⟨hc, hf⟩ := bcell hb; have hz := hb.size; simp at hz)
    exact bodyPost_ret (v := .agg #[.int .u64 0, .int .u64 1]) (by simp [results, Try.results54, go_sem, hc]) rfl ⟨rfl, (by repeat (first | exact Below.refl _ _ | assumption | refine Below.drew ?_ | refine Below.alloc ?_ (by first | omega | (simp <;> omega)) _ | refine Below.setCell ?_ (by first | omega | (simp <;> omega)) _ | refine Below.trans ?_ (Below.mono (by assumption) (by first | omega | (simp <;> omega)))))⟩

set_option maxRecDepth 100000 in
set_option maxHeartbeats 1000000 in
theorem clos_not (g : Nat) (op c1 c2 c3 c4 c5 : Int) (a : Nat) (k : Int) (w : World) (ha : a < B * B) (hg : NodeAt w g op c1 c2 c3 c4 c5) :
    Calls Try.prog 55 #[szV a k, .pointer (some ⟨g, 0, none⟩)] w (RetNum w ((a % 2 ^ sh c1) ^^^ (2 ^ sh c1 - 1))) := by
  have HC : Hid (∀ W, Calls Try.prog 56 #[numV a, .int .i64 c1] W (RetNum W ((a % 2 ^ sh c1) ^^^ (2 ^ sh c1 - 1)))) := fun W => numNot_any a c1 W ha
  unfold NodeAt at hg
  have hgl : g < w.heap.size := (Array.getElem?_eq_some_iff.1 hg).1
  have q1 : w.cell? ⟨g, 1, none⟩ = some (.int .i64 c1) := by simp [World.cell?, hg]
  have q2 : w.cell? ⟨g, 2, none⟩ = some (.int .i64 c2) := by simp [World.cell?, hg]
  have q3 : w.cell? ⟨g, 3, none⟩ = some (.int .i64 c3) := by simp [World.cell?, hg]
  generalize (a % 2 ^ sh c1) ^^^ (2 ^ sh c1 - 1) = r at *
  obtain ⟨y3, z3, he3, -, -⟩ := numV_parts r
  obtain ⟨y, z, he, ey, ez⟩ := numV_parts a
  have HR := Lib.hid he3
  unfold szV
  rw [← ey, ← ez]
  unfold RetNum at HC
  rw [he3, he] at HC
  have HZ : Hid (numV 0 = .agg #[.int .u64 0, .int .u64 0]) := rfl
  try rw [HZ.out] at HC
  clear he he3 ey ez hg ha
  go_enter Try.func55, Try.ntmps55
  go_wp2_with (go_at_call 56; refine (HC.out _).mono ?_; rintro e w1 ⟨rfl, hb⟩; obtain ⟨hc, hf⟩ := bcell hb; have hz := hb.size; simp at hz; have L1 : w.heap.size + 1 < w1.heap.size := by omega)
  exact bodyPost_ret (v := .agg #[.int .u64 (y3 : Int), .int .u64 (z3 : Int)]) (by simp [results, Try.results55, go_sem, hc]) rfl ⟨by rw [HR.out], (by repeat (first | exact Below.refl _ _ | assumption | refine Below.drew ?_ | refine Below.alloc ?_ (by first | omega | (simp <;> omega)) _ | refine Below.setCell ?_ (by first | omega | (simp <;> omega)) _ | refine Below.trans ?_ (Below.mono (by assumption) (by first | omega | (simp <;> omega)))))⟩

set_option maxRecDepth 100000 in
set_option maxHeartbeats 1000000 in
theorem clos_neg (g : Nat) (op c1 c2 c3 c4 c5 : Int) (a : Nat) (k : Int) (w : World) (ha : a < B * B) (hg : NodeAt w g op c1 c2 c3 c4 c5) :
    Calls Try.prog 57 #[szV a k, .pointer (some ⟨g, 0, none⟩)] w (RetNum w ((0 + (B * B - a)) % (B * B) % 2 ^ sh c1)) := by
  have HC : Hid (∀ W, Calls Try.prog 58 #[numV 0, numV a, .int .i64 c1] W (RetNum W ((0 + (B * B - a)) % (B * B) % 2 ^ sh c1))) := fun W => numSub_any 0 a c1 W (by unfold B; omega) ha
  unfold NodeAt at hg
  have hgl : g < w.heap.size := (Array.getElem?_eq_some_iff.1 hg).1
  have q1 : w.cell? ⟨g, 1, none⟩ = some (.int .i64 c1) := by simp [World.cell?, hg]
  have q2 : w.cell? ⟨g, 2, none⟩ = some (.int .i64 c2) := by simp [World.cell?, hg]
  have q3 : w.cell? ⟨g, 3, none⟩ = some (.int .i64 c3) := by simp [World.cell?, hg]
  generalize (0 + (B * B - a)) % (B * B) % 2 ^ sh c1 = r at *
  obtain ⟨y3, z3, he3, -, -⟩ := numV_parts r
  obtain ⟨y, z, he, ey, ez⟩ := numV_parts a
  have HR := Lib.hid he3
  unfold szV
  rw [← ey, ← ez]
  unfold RetNum at HC
  rw [he3, he] at HC
  have HZ : Hid (numV 0 = .agg #[.int .u64 0, .int .u64 0]) := rfl
  try rw [HZ.out] at HC
  clear he he3 ey ez hg ha
  go_enter Try.func57, Try.ntmps57
  go_wp2_with (go_at_call 58; refine (HC.out _).mono ?_; rintro e w1 ⟨rfl, hb⟩; obtain ⟨hc, hf⟩ := bcell hb; have hz := hb.size; simp at hz; have L1 : w.heap.size + 1 < w1.heap.size := by omega)
  exact bodyPost_ret (v := .agg #[.int .u64 (y3 : Int), .int .u64 (z3 : Int)]) (by simp [results, Try.results57, go_sem, hc]) rfl ⟨by rw [HR.out], (by repeat (first | exact Below.refl _ _ | assumption | refine Below.drew ?_ | refine Below.alloc ?_ (by first | omega | (simp <;> omega)) _ | refine Below.setCell ?_ (by first | omega | (simp <;> omega)) _ | refine Below.trans ?_ (Below.mono (by assumption) (by first | omega | (simp <;> omega)))))⟩

set_option maxRecDepth 100000 in
set_option maxHeartbeats 1000000 in
theorem clos_slice (g : Nat) (op c1 c2 c3 c4 c5 : Int) (a : Nat) (k : Int) (w : World) (ha : a < B * B) (hg : NodeAt w g op c1 c2 c3 c4 c5) (h0 : 0 ≤ c3) (h1 : c3 ≤ c2) (h2 : c2 < 128) :
    Calls Try.prog 59 #[szV a k, .pointer (some ⟨g, 0, none⟩)] w (RetNum w (a / 2 ^ sh c3 % 2 ^ sh (c2 - c3 + 1))) := by
  have HC : Hid (∀ W, Calls Try.prog 60 #[numV a, .int .i64 c2, .int .i64 c3] W (RetNum W (a / 2 ^ sh c3 % 2 ^ sh (c2 - c3 + 1)))) := fun W => numSlice_any a c2 c3 W ha h0 h1 h2
  unfold NodeAt at hg
  have hgl : g < w.heap.size := (Array.getElem?_eq_some_iff.1 hg).1
  have q1 : w.cell? ⟨g, 1, none⟩ = some (.int .i64 c1) := by simp [World.cell?, hg]
  have q2 : w.cell? ⟨g, 2, none⟩ = some (.int .i64 c2) := by simp [World.cell?, hg]
  have q3 : w.cell? ⟨g, 3, none⟩ = some (.int .i64 c3) := by simp [World.cell?, hg]
  generalize a / 2 ^ sh c3 % 2 ^ sh (c2 - c3 + 1) = r at *
  obtain ⟨y3, z3, he3, -, -⟩ := numV_parts r
  obtain ⟨y, z, he, ey, ez⟩ := numV_parts a
  have HR := Lib.hid he3
  unfold szV
  rw [← ey, ← ez]
  unfold RetNum at HC
  rw [he3, he] at HC
  have HZ : Hid (numV 0 = .agg #[.int .u64 0, .int .u64 0]) := rfl
  try rw [HZ.out] at HC
  clear he he3 ey ez hg ha
  go_enter Try.func59, Try.ntmps59
  go_wp2_with (go_at_call 60; refine (HC.out _).mono ?_; rintro e w1 ⟨rfl, hb⟩; obtain ⟨hc, hf⟩ := bcell hb; have hz := hb.size; simp at hz; have L1 : w.heap.size + 1 < w1.heap.size := by omega)
  exact bodyPost_ret (v := .agg #[.int .u64 (y3 : Int), .int .u64 (z3 : Int)]) (by simp [results, Try.results59, go_sem, hc]) rfl ⟨by rw [HR.out], (by repeat (first | exact Below.refl _ _ | assumption | refine Below.drew ?_ | refine Below.alloc ?_ (by first | omega | (simp <;> omega)) _ | refine Below.setCell ?_ (by first | omega | (simp <;> omega)) _ | refine Below.trans ?_ (Below.mono (by assumption) (by first | omega | (simp <;> omega)))))⟩

set_option maxRecDepth 100000 in
set_option maxHeartbeats 1000000 in
theorem clos_shl (g : Nat) (op c1 c2 c3 c4 c5 : Int) (a : Nat) (k : Int) (w : World) (ha : a < B * B) (hg : NodeAt w g op c1 c2 c3 c4 c5) :
    Calls Try.prog 61 #[szV a k, .pointer (some ⟨g, 0, none⟩)] w (RetNum w (a * 2 ^ sh c2 % (B * B) % 2 ^ sh c1)) := by
  have HC : Hid (∀ W, Calls Try.prog 62 #[numV a, .int .i64 c2, .int .i64 c1] W (RetNum W (a * 2 ^ sh c2 % (B * B) % 2 ^ sh c1))) := fun W => numShl_any a c2 c1 W ha
  unfold NodeAt at hg
  have hgl : g < w.heap.size := (Array.getElem?_eq_some_iff.1 hg).1
  have q1 : w.cell? ⟨g, 1, none⟩ = some (.int .i64 c1) := by simp [World.cell?, hg]
  have q2 : w.cell? ⟨g, 2, none⟩ = some (.int .i64 c2) := by simp [World.cell?, hg]
  have q3 : w.cell? ⟨g, 3, none⟩ = some (.int .i64 c3) := by simp [World.cell?, hg]
  generalize a * 2 ^ sh c2 % (B * B) % 2 ^ sh c1 = r at *
  obtain ⟨y3, z3, he3, -, -⟩ := numV_parts r
  obtain ⟨y, z, he, ey, ez⟩ := numV_parts a
  have HR := Lib.hid he3
  unfold szV
  rw [← ey, ← ez]
  unfold RetNum at HC
  rw [he3, he] at HC
  have HZ : Hid (numV 0 = .agg #[.int .u64 0, .int .u64 0]) := rfl
  try rw [HZ.out] at HC
  clear he he3 ey ez hg ha
  go_enter Try.func61, Try.ntmps61
  go_wp2_with (go_at_call 62; refine (HC.out _).mono ?_; rintro e w1 ⟨rfl, hb⟩; obtain ⟨hc, hf⟩ := bcell hb; have hz := hb.size; simp at hz; have L1 : w.heap.size + 1 < w1.heap.size := by omega)
  exact bodyPost_ret (v := .agg #[.int .u64 (y3 : Int), .int .u64 (z3 : Int)]) (by simp [results, Try.results61, go_sem, hc]) rfl ⟨by rw [HR.out], (by repeat (first | exact Below.refl _ _ | assumption | refine Below.drew ?_ | refine Below.alloc ?_ (by first | omega | (simp <;> omega)) _ | refine Below.setCell ?_ (by first | omega | (simp <;> omega)) _ | refine Below.trans ?_ (Below.mono (by assumption) (by first | omega | (simp <;> omega)))))⟩

set_option maxRecDepth 100000 in
set_option maxHeartbeats 1000000 in
theorem clos_shr (g : Nat) (op c1 c2 c3 c4 c5 : Int) (a : Nat) (k : Int) (w : World) (ha : a < B * B) (hg : NodeAt w g op c1 c2 c3 c4 c5) :
    Calls Try.prog 63 #[szV a k, .pointer (some ⟨g, 0, none⟩)] w (RetNum w (a / 2 ^ sh c2)) := by
  have HC : Hid (∀ W, Calls Try.prog 42 #[numV a, .int .i64 c2] W (RetNum W (a / 2 ^ sh c2))) := fun W => numShr_any a c2 W ha
  unfold NodeAt at hg
  have hgl : g < w.heap.size := (Array.getElem?_eq_some_iff.1 hg).1
  have q1 : w.cell? ⟨g, 1, none⟩ = some (.int .i64 c1) := by simp [World.cell?, hg]
  have q2 : w.cell? ⟨g, 2, none⟩ = some (.int .i64 c2) := by simp [World.cell?, hg]
  have q3 : w.cell? ⟨g, 3, none⟩ = some (.int .i64 c3) := by simp [World.cell?, hg]
  generalize a / 2 ^ sh c2 = r at *
  obtain ⟨y3, z3, he3, -, -⟩ := numV_parts r
  obtain ⟨y, z, he, ey, ez⟩ := numV_parts a
  have HR := Lib.hid he3
  unfold szV
  rw [← ey, ← ez]
  unfold RetNum at HC
  rw [he3, he] at HC
  have HZ : Hid (numV 0 = .agg #[.int .u64 0, .int .u64 0]) := rfl
  try rw [HZ.out] at HC
  clear he he3 ey ez hg ha
  go_enter Try.func63, Try.ntmps63
  go_wp2_with (go_at_call 42; refine (HC.out _).mono ?_; rintro e w1 ⟨rfl, hb⟩; obtain ⟨hc, hf⟩ := bcell hb; have hz := hb.size; simp at hz; have L1 : w.heap.size + 1 < w1.heap.size := by omega)
  exact bodyPost_ret (v := .agg #[.int .u64 (y3 : Int), .int .u64 (z3 : Int)]) (by simp [results, Try.results63, go_sem, hc]) rfl ⟨by rw [HR.out], (by repeat (first | exact Below.refl _ _ | assumption | refine Below.drew ?_ | refine Below.alloc ?_ (by first | omega | (simp <;> omega)) _ | refine Below.setCell ?_ (by first | omega | (simp <;> omega)) _ | refine Below.trans ?_ (Below.mono (by assumption) (by first | omega | (simp <;> omega)))))⟩

set_option maxRecDepth 100000 in
set_option maxHeartbeats 1000000 in
theorem clos_cat (a b : Nat) (k j : Int) (w : World) (ha : a < B * B) (hb : b < B * B) :
    Calls Try.prog 64 #[szV a k, szV b j] w (RetNum w ((a * 2 ^ sh j % (B * B) % 2 ^ sh 128) ||| (b % 2 ^ sh j))) := by
  have HC : Hid (∀ W, Calls Try.prog 65 #[numV a, numV b, .int .i64 j] W (RetNum W ((a * 2 ^ sh j % (B * B) % 2 ^ sh 128) ||| (b % 2 ^ sh j)))) := fun W => numCat_any a b j W ha hb
  generalize (a * 2 ^ sh j % (B * B) % 2 ^ sh 128) ||| (b % 2 ^ sh j) = r at *
  obtain ⟨y3, z3, he3, -, -⟩ := numV_parts r
  obtain ⟨y, z, he, ey, ez⟩ := numV_parts a
  obtain ⟨y1, z1, he1, ey1, ez1⟩ := numV_parts b
  have HR := Lib.hid he3
  unfold szV
  rw [← ey, ← ez, ← ey1, ← ez1]
  unfold RetNum at HC
  rw [he3, he, he1] at HC
  clear he he1 he3 ey ez ey1 ez1 ha hb
  go_enter Try.func64, Try.ntmps64
  go_wp2_with (go_at_call 65; refine (HC.out _).mono ?_; rintro e w1 ⟨rfl, hb⟩; obtain ⟨hc, hf⟩ := bcell hb; have hz := hb.size; simp at hz; have L1 : w.heap.size + 1 < w1.heap.size := by omega)
  exact bodyPost_ret (v := .agg #[.int .u64 (y3 : Int), .int .u64 (z3 : Int)]) (by simp [results, Try.results64, go_sem, hc]) rfl ⟨by rw [HR.out], (by repeat (first | exact Below.refl _ _ | assumption | refine Below.drew ?_ | refine Below.alloc ?_ (by first | omega | (simp <;> omega)) _ | refine Below.setCell ?_ (by first | omega | (simp <;> omega)) _ | refine Below.trans ?_ (Below.mono (by assumption) (by first | omega | (simp <;> omega)))))⟩

set_option maxRecDepth 100000 in
set_option maxHeartbeats 1000000 in
theorem clos_add (g : Nat) (op c1 c2 c3 c4 c5 : Int) (a b : Nat) (k j : Int) (w : World) (ha : a < B * B) (hb : b < B * B) (hg : NodeAt w g op c1 c2 c3 c4 c5) :
    Calls Try.prog 66 #[szV a k, szV b j, .pointer (some ⟨g, 0, none⟩)] w (RetNum w ((a + b) % (B * B) % 2 ^ sh c1)) := by
  have HC : Hid (∀ W, Calls Try.prog 67 #[numV a, numV b, .int .i64 c1] W (RetNum W ((a + b) % (B * B) % 2 ^ sh c1))) := fun W => numAdd_any a b c1 W ha hb
  unfold NodeAt at hg
  have hgl : g < w.heap.size := (Array.getElem?_eq_some_iff.1 hg).1
  have hgl1 : g < w.heap.size + 1 := by omega
  have hgl2 : g < w.heap.size + 1 + 1 := by omega
  have q1 : w.cell? ⟨g, 1, none⟩ = some (.int .i64 c1) := by simp [World.cell?, hg]
  clear hg
  generalize (a + b) % (B * B) % 2 ^ sh c1 = r at *
  obtain ⟨y3, z3, he3, -, -⟩ := numV_parts r
  obtain ⟨y, z, he, ey, ez⟩ := numV_parts a
  obtain ⟨y1, z1, he1, ey1, ez1⟩ := numV_parts b
  have HR := Lib.hid he3
  unfold szV
  rw [← ey, ← ez, ← ey1, ← ez1]
  unfold RetNum at HC
  rw [he3, he, he1] at HC
  clear he he1 he3 ey ez ey1 ez1 ha hb
  go_enter Try.func66, Try.ntmps66
  go_wp2_with (go_at_call 67; refine (HC.out _).mono ?_; rintro e w1 ⟨rfl, hb⟩; obtain ⟨hc, hf⟩ := bcell hb; have hz := hb.size; simp at hz; have L1 : w.heap.size + 1 < w1.heap.size := by omega)
  exact bodyPost_ret (v := .agg #[.int .u64 (y3 : Int), .int .u64 (z3 : Int)]) (by simp [results, Try.results66, go_sem, hc]) rfl ⟨by rw [HR.out], (by repeat (first | exact Below.refl _ _ | assumption | refine Below.drew ?_ | refine Below.alloc ?_ (by first | omega | (simp <;> omega)) _ | refine Below.setCell ?_ (by first | omega | (simp <;> omega)) _ | refine Below.trans ?_ (Below.mono (by assumption) (by first | omega | (simp <;> omega)))))⟩

set_option maxRecDepth 100000 in
set_option maxHeartbeats 1000000 in
theorem clos_sub (g : Nat) (op c1 c2 c3 c4 c5 : Int) (a b : Nat) (k j : Int) (w : World) (ha : a < B * B) (hb : b < B * B) (hg : NodeAt w g op c1 c2 c3 c4 c5) :
    Calls Try.prog 68 #[szV a k, szV b j, .pointer (some ⟨g, 0, none⟩)] w (RetNum w ((a + (B * B - b)) % (B * B) % 2 ^ sh c1)) := by
  have HC : Hid (∀ W, Calls Try.prog 58 #[numV a, numV b, .int .i64 c1] W (RetNum W ((a + (B * B - b)) % (B * B) % 2 ^ sh c1))) := fun W => numSub_any a b c1 W ha hb
  unfold NodeAt at hg
  have hgl : g < w.heap.size := (Array.getElem?_eq_some_iff.1 hg).1
  have hgl1 : g < w.heap.size + 1 := by omega
  have hgl2 : g < w.heap.size + 1 + 1 := by omega
  have q1 : w.cell? ⟨g, 1, none⟩ = some (.int .i64 c1) := by simp [World.cell?, hg]
  clear hg
  generalize (a + (B * B - b)) % (B * B) % 2 ^ sh c1 = r at *
  obtain ⟨y3, z3, he3, -, -⟩ := numV_parts r
  obtain ⟨y, z, he, ey, ez⟩ := numV_parts a
  obtain ⟨y1, z1, he1, ey1, ez1⟩ := numV_parts b
  have HR := Lib.hid he3
  unfold szV
  rw [← ey, ← ez, ← ey1, ← ez1]
  unfold RetNum at HC
  rw [he3, he, he1] at HC
  clear he he1 he3 ey ez ey1 ez1 ha hb
  go_enter Try.func68, Try.ntmps68
  go_wp2_with (go_at_call 58; refine (HC.out _).mono ?_; rintro e w1 ⟨rfl, hb⟩; obtain ⟨hc, hf⟩ := bcell hb; have hz := hb.size; simp at hz; have L1 : w.heap.size + 1 < w1.heap.size := by omega)
  exact bodyPost_ret (v := .agg #[.int .u64 (y3 : Int), .int .u64 (z3 : Int)]) (by simp [results, Try.results68, go_sem, hc]) rfl ⟨by rw [HR.out], (by repeat (first | exact Below.refl _ _ | assumption | refine Below.drew ?_ | refine Below.alloc ?_ (by first | omega | (simp <;> omega)) _ | refine Below.setCell ?_ (by first | omega | (simp <;> omega)) _ | refine Below.trans ?_ (Below.mono (by assumption) (by first | omega | (simp <;> omega)))))⟩

set_option maxRecDepth 100000 in
set_option maxHeartbeats 1000000 in
theorem clos_and (a b : Nat) (k j : Int) (w : World) (ha : a < B * B) (hb : b < B * B) :
    Calls Try.prog 69 #[szV a k, szV b j] w (RetNum w (a &&& b)) := by
  have HC : Hid (∀ W, Calls Try.prog 44 #[numV a, numV b] W (RetNum W (a &&& b))) := fun W => numAnd_any a b W ha hb
  generalize a &&& b = r at *
  obtain ⟨y3, z3, he3, -, -⟩ := numV_parts r
  obtain ⟨y, z, he, ey, ez⟩ := numV_parts a
  obtain ⟨y1, z1, he1, ey1, ez1⟩ := numV_parts b
  have HR := Lib.hid he3
  unfold szV
  rw [← ey, ← ez, ← ey1, ← ez1]
  unfold RetNum at HC
  rw [he3, he, he1] at HC
  clear he he1 he3 ey ez ey1 ez1 ha hb
  go_enter Try.func69, Try.ntmps69
  go_wp2_with (go_at_call 44; refine (HC.out _).mono ?_; rintro e w1 ⟨rfl, hb⟩; obtain ⟨hc, hf⟩ := bcell hb; have hz := hb.size; simp at hz; have L1 : w.heap.size + 1 < w1.heap.size := by omega)
  exact bodyPost_ret (v := .agg #[.int .u64 (y3 : Int), .int .u64 (z3 : Int)]) (by simp [results, Try.results69, go_sem, hc]) rfl ⟨by rw [HR.out], (by repeat (first | exact Below.refl _ _ | assumption | refine Below.drew ?_ | refine Below.alloc ?_ (by first | omega | (simp <;> omega)) _ | refine Below.setCell ?_ (by first | omega | (simp <;> omega)) _ | refine Below.trans ?_ (Below.mono (by assumption) (by first | omega | (simp <;> omega)))))⟩

set_option maxRecDepth 100000 in
set_option maxHeartbeats 1000000 in
theorem clos_xor (a b : Nat) (k j : Int) (w : World) (ha : a < B * B) (hb : b < B * B) :
    Calls Try.prog 70 #[szV a k, szV b j] w (RetNum w (a ^^^ b)) := by
  have HC : Hid (∀ W, Calls Try.prog 71 #[numV a, numV b] W (RetNum W (a ^^^ b))) := fun W => numXor_any a b W ha hb
  generalize a ^^^ b = r at *
  obtain ⟨y3, z3, he3, -, -⟩ := numV_parts r
  obtain ⟨y, z, he, ey, ez⟩ := numV_parts a
  obtain ⟨y1, z1, he1, ey1, ez1⟩ := numV_parts b
  have HR := Lib.hid he3
  unfold szV
  rw [← ey, ← ez, ← ey1, ← ez1]
  unfold RetNum at HC
  rw [he3, he, he1] at HC
  clear he he1 he3 ey ez ey1 ez1 ha hb
  go_enter Try.func70, Try.ntmps70
  go_wp2_with (go_at_call 71; refine (HC.out _).mono ?_; rintro e w1 ⟨rfl, hb⟩; obtain ⟨hc, hf⟩ := bcell hb; have hz := hb.size; simp at hz; have L1 : w.heap.size + 1 < w1.heap.size := by omega)
  exact bodyPost_ret (v := .agg #[.int .u64 (y3 : Int), .int .u64 (z3 : Int)]) (by simp [results, Try.results70, go_sem, hc]) rfl ⟨by rw [HR.out], (by repeat (first | exact Below.refl _ _ | assumption | refine Below.drew ?_ | refine Below.alloc ?_ (by first | omega | (simp <;> omega)) _ | refine Below.setCell ?_ (by first | omega | (simp <;> omega)) _ | refine Below.trans ?_ (Below.mono (by assumption) (by first | omega | (simp <;> omega)))))⟩

set_option maxRecDepth 100000 in
set_option maxHeartbeats 1000000 in
theorem clos_or (a b : Nat) (k j : Int) (w : World) (ha : a < B * B) (hb : b < B * B) :
    Calls Try.prog 72 #[szV a k, szV b j] w (RetNum w (a ||| b)) := by
  have HC : Hid (∀ W, Calls Try.prog 73 #[numV a, numV b] W (RetNum W (a ||| b))) := fun W => numOr_any a b W ha hb
  generalize a ||| b = r at *
  obtain ⟨y3, z3, he3, -, -⟩ := numV_parts r
  obtain ⟨y, z, he, ey, ez⟩ := numV_parts a
  obtain ⟨y1, z1, he1, ey1, ez1⟩ := numV_parts b
  have HR := Lib.hid he3
  unfold szV
  rw [← ey, ← ez, ← ey1, ← ez1]
  unfold RetNum at HC
  rw [he3, he, he1] at HC
  clear he he1 he3 ey ez ey1 ez1 ha hb
  go_enter Try.func72, Try.ntmps72
  go_wp2_with (go_at_call 73; refine (HC.out _).mono ?_; rintro e w1 ⟨rfl, hb⟩; obtain ⟨hc, hf⟩ := bcell hb; have hz := hb.size; simp at hz; have L1 : w.heap.size + 1 < w1.heap.size := by omega)
  exact bodyPost_ret (v := .agg #[.int .u64 (y3 : Int), .int .u64 (z3 : Int)]) (by simp [results, Try.results72, go_sem, hc]) rfl ⟨by rw [HR.out], (by repeat (first | exact Below.refl _ _ | assumption | refine Below.drew ?_ | refine Below.alloc ?_ (by first | omega | (simp <;> omega)) _ | refine Below.setCell ?_ (by first | omega | (simp <;> omega)) _ | refine Below.trans ?_ (Below.mono (by assumption) (by first | omega | (simp <;> omega)))))⟩

set_option maxRecDepth 100000 in
set_option maxHeartbeats 1000000 in
theorem clos_lt (a b : Nat) (k j : Int) (w : World) (ha : a < B * B) (hb : b < B * B) :
    Calls Try.prog 75 #[szV a k, szV b j] w (RetNum w (oneN (decide (a < b)))) := by
  have HC : Hid (∀ W, Calls Try.prog 76 #[numV a, numV b] W fun e w' => e = .returned (.int .i64 (cmpI a b)) ∧ Below W.heap.size W w') := fun W => numCmp_any a b W ha hb
  have HO : Hid (∀ (t : Bool) W, Calls Try.prog 54 #[.bool t] W (RetNum W (oneN t))) := fun t W => one_any t W
  have HT : Hid (decide (cmpI a b < 0) = decide (a < b)) := by
    show _ = _
    unfold cmpI
    split
    · simp; omega
    · split <;> simp <;> omega
  obtain ⟨y, z, he, ey, ez⟩ := numV_parts a
  obtain ⟨y1, z1, he1, ey1, ez1⟩ := numV_parts b
  unfold szV
  rw [← ey, ← ez, ← ey1, ← ez1]
  rw [he, he1] at HC
  generalize cmpI a b = c at *
  clear he he1 ey ez ey1 ez1 ha hb
  go_enter Try.func75, Try.ntmps75
  go_wp2_with (go_at_call 76; refine (HC.out _).mono ?_; rintro e w1 ⟨rfl, hb⟩; obtain ⟨hc, hf⟩ := bcell hb; have hz := hb.size; simp at hz; have L1 : w.heap.size + 1 < w1.heap.size := by omega)
  rw [HT.out]
  have HO1 := HO.out (decide (a < b))
  generalize oneN (decide (a < b)) = r at *
  obtain ⟨y3, z3, he3, -, -⟩ := numV_parts r
  have HR := Lib.hid he3
  unfold RetNum at HO1
  rw [he3] at HO1
  refine (HO1 _).mono ?_
  rintro e w2 ⟨rfl, hb2⟩
  obtain ⟨hc2, hf2⟩ := bcell hb2
  have hz2 := hb2.size
  have L2 : w.heap.size + 1 < w2.heap.size := by omega
  have L3 : w.heap.size + 1 + 1 < w1.heap.size := by omega
  have L4 : w.heap.size + 1 + 1 < w2.heap.size := by omega
  clear HO1
  go_wp2_with fail
  exact bodyPost_ret (v := .agg #[.int .u64 (y3 : Int), .int .u64 (z3 : Int)]) (by simp [results, Try.results75, go_sem, hc, hc2, L3]) rfl ⟨by rw [HR.out], (by repeat (first | exact Below.refl _ _ | assumption | refine Below.drew ?_ | refine Below.alloc ?_ (by first | omega | (simp <;> omega)) _ | refine Below.setCell ?_ (by first | omega | (simp <;> omega)) _ | refine Below.trans ?_ (Below.mono (by assumption) (by first | omega | (simp <;> omega)))))⟩

set_option maxRecDepth 100000 in
set_option maxHeartbeats 1000000 in
theorem clos_le (a b : Nat) (k j : Int) (w : World) (ha : a < B * B) (hb : b < B * B) :
    Calls Try.prog 77 #[szV a k, szV b j] w (RetNum w (oneN (decide (a ≤ b)))) := by
  have HC : Hid (∀ W, Calls Try.prog 76 #[numV a, numV b] W fun e w' => e = .returned (.int .i64 (cmpI a b)) ∧ Below W.heap.size W w') := fun W => numCmp_any a b W ha hb
  have HO : Hid (∀ (t : Bool) W, Calls Try.prog 54 #[.bool t] W (RetNum W (oneN t))) := fun t W => one_any t W
  have HT : Hid (decide (cmpI a b ≤ 0) = decide (a ≤ b)) := by
    show _ = _
    unfold cmpI
    split
    · simp; omega
    · split <;> simp <;> omega
  obtain ⟨y, z, he, ey, ez⟩ := numV_parts a
  obtain ⟨y1, z1, he1, ey1, ez1⟩ := numV_parts b
  unfold szV
  rw [← ey, ← ez, ← ey1, ← ez1]
  rw [he, he1] at HC
  generalize cmpI a b = c at *
  clear he he1 ey ez ey1 ez1 ha hb
  go_enter Try.func77, Try.ntmps77
  go_wp2_with (go_at_call 76; refine (HC.out _).mono ?_; rintro e w1 ⟨rfl, hb⟩; obtain ⟨hc, hf⟩ := bcell hb; have hz := hb.size; simp at hz; have L1 : w.heap.size + 1 < w1.heap.size := by omega)
  rw [HT.out]
  have HO1 := HO.out (decide (a ≤ b))
  generalize oneN (decide (a ≤ b)) = r at *
  obtain ⟨y3, z3, he3, -, -⟩ := numV_parts r
  have HR := Lib.hid he3
  unfold RetNum at HO1
  rw [he3] at HO1
  refine (HO1 _).mono ?_
  rintro e w2 ⟨rfl, hb2⟩
  obtain ⟨hc2, hf2⟩ := bcell hb2
  have hz2 := hb2.size
  have L2 : w.heap.size + 1 < w2.heap.size := by omega
  have L3 : w.heap.size + 1 + 1 < w1.heap.size := by omega
  have L4 : w.heap.size + 1 + 1 < w2.heap.size := by omega
  clear HO1
  go_wp2_with fail
  exact bodyPost_ret (v := .agg #[.int .u64 (y3 : Int), .int .u64 (z3 : Int)]) (by simp [results, Try.results77, go_sem, hc, hc2, L3]) rfl ⟨by rw [HR.out], (by repeat (first | exact Below.refl _ _ | assumption | refine Below.drew ?_ | refine Below.alloc ?_ (by first | omega | (simp <;> omega)) _ | refine Below.setCell ?_ (by first | omega | (simp <;> omega)) _ | refine Below.trans ?_ (Below.mono (by assumption) (by first | omega | (simp <;> omega)))))⟩

theorem eqp (x y z u : Nat) (W : World) : (Go.binOp .eql 59 (.agg #[.int .u64 (x : Int), .int .u64 (y : Int)]) (.agg #[.int .u64 (z : Int), .int .u64 (u : Int)])).run Try.prog W = .ok (.bool (decide (x = z ∧ y = u))) W := by
  have e : decide (x = z ∧ y = u) = (decide ((x : Int) = z) && decide ((y : Int) = u)) := by rw [← Bool.decide_and, decide_eq_decide]; omega
  rw [e]
  by_cases h1 : (x : Int) = z <;> by_cases h2 : (y : Int) = u <;> simp [go_sem, h1, h2]
set_option maxRecDepth 100000 in
set_option maxHeartbeats 1000000 in
theorem clos_eq (a b : Nat) (k j : Int) (w : World) (_ha : a < B * B) (hb : b < B * B) :
    Calls Try.prog 74 #[szV a k, szV b j] w (RetNum w (oneN (decide (a = b)))) := by
  have HO1 : Hid (∀ W, Calls Try.prog 54 #[.bool (decide (a = b))] W (RetNum W (oneN (decide (a = b))))) := fun W => one_any _ W
  obtain ⟨y, z, he, ey, ez⟩ := numV_parts a
  obtain ⟨y1, z1, he1, ey1, ez1⟩ := numV_parts b
  have HT : decide (a = b) = decide (y = y1 ∧ z = z1) := by
    rw [decide_eq_decide, ey, ez, ey1, ez1]
    constructor
    · rintro rfl; exact ⟨rfl, rfl⟩
    · rintro ⟨h1, h2⟩
      rw [← Nat.div_add_mod a B, ← Nat.div_add_mod b B, h1, h2]
  have heq := fun W => eqp y z y1 z1 W
  rw [← HT] at heq
  unfold szV
  rw [← ey, ← ez, ← ey1, ← ez1]
  generalize decide (a = b) = t at *
  generalize oneN t = r at *
  obtain ⟨y3, z3, he3, -, -⟩ := numV_parts r
  have HR := Lib.hid he3
  unfold RetNum at HO1
  rw [he3] at HO1
  clear he he1 he3 ey ez ey1 ez1 _ha hb HT
  go_enter Try.func74, Try.ntmps74
  go_wp2_with (go_at_call 54; refine (HO1.out _).mono ?_; rintro e w1 ⟨rfl, hb⟩; obtain ⟨hc, hf⟩ := bcell hb; have hz := hb.size; simp at hz; have L1 : w.heap.size + 1 < w1.heap.size := by omega)
  exact bodyPost_ret (v := .agg #[.int .u64 (y3 : Int), .int .u64 (z3 : Int)]) (by simp [results, Try.results74, go_sem, hc]) rfl ⟨by rw [HR.out], (by repeat (first | exact Below.refl _ _ | assumption | refine Below.drew ?_ | refine Below.alloc ?_ (by first | omega | (simp <;> omega)) _ | refine Below.setCell ?_ (by first | omega | (simp <;> omega)) _ | refine Below.trans ?_ (Below.mono (by assumption) (by first | omega | (simp <;> omega)))))⟩

end Go.Proofs.Ytehcclcokgmplaa

/-
  A region of a function's code, by its number.
-/
namespace Go.Proofs.Ytehcclcokgmplaa
open Go.RowKit

def findRegion (n : Nat) : Code → Option Code
  | .region k ops any => if k = n then some (.region k ops any) else none
  | .seq a b => match findRegion n a with
    | some c => some c
    | none => findRegion n b
  | .block _ c => findRegion n c
  | .scope c => findRegion n c
  | .loop c => findRegion n c
  | .cond _ a b => match findRegion n a with
    | some c => some c
    | none => findRegion n b
  | _ => none

end Go.Proofs.Ytehcclcokgmplaa

/-
  Regions that draw their order and make memory beside calls: what holds whatever has been done.
-/
namespace Go.Proofs.Ytehcclcokgmplaa
open Go.RowKit Go.Maps

def nth (l : List Value) (i : Nat) : Value := l.getD i undef
theorem nth_set {l : List Value} {i j : Nat} {v : Value} : nth (l.set i v) j = if i = j ∧ i < l.length then v else nth l j := by
  unfold nth
  rw [List.getD_eq_getElem?_getD, List.getD_eq_getElem?_getD, List.getElem?_set]
  by_cases h : i = j
  · subst h
    rw [if_pos rfl]
    by_cases h2 : i < l.length
    · rw [if_pos h2, if_pos ⟨rfl, h2⟩]; rfl
    · rw [if_neg h2, if_neg (by omega), List.getElem?_eq_none (by omega)]
  · rw [if_neg h, if_neg (by omega)]
theorem nth_same {l : List Value} {i : Nat} {v : Value} (h : i < l.length) : nth (l.set i v) i = v := by rw [nth_set, if_pos ⟨rfl, h⟩]
theorem nth_other {l : List Value} {i j : Nat} {v : Value} (h : i ≠ j) : nth (l.set i v) j = nth l j := by rw [nth_set, if_neg (by omega)]

theorem did_other {L : Array Bool} {i j : Nat} (h : j ≠ i) : did (L.setIfInBounds i true) j = did L j := by
  by_cases hi : i < L.size
  · rw [did_set hi, decide_eq_false h, Bool.false_or]
  · rw [show L.setIfInBounds i true = L by rw [Array.setIfInBounds_eq_of_size_le (by omega)]]
theorem did_same {L : Array Bool} {i : Nat} (hi : i < L.size) : did (L.setIfInBounds i true) i = true := by rw [did_set hi]; simp

end Go.Proofs.Ytehcclcokgmplaa

/-
  A region that draws its order, by an invariant over what has been done: only the edges that bind.
-/
namespace Go.Proofs.Ytehcclcokgmplaa
open Go.RowKit Go.Maps

theorem wp_region_inv2 {P : Program} {ops : Array Oper} {Q : Exit → Act → World → Prop} {id : Nat} {a : Act} {w : World} (hm : P.follows .mixedOrders = true) (I : Array Bool → Act → World → Prop)
    (h0 : I (Array.replicate ops.size false) a w.drew)
    (hstep : ∀ L a w i, L.size = ops.size → i < ops.size → did L i = false → (∀ o, ops[i]? = some o → ∀ e ∈ o.after, Region.binds .any e = true → did L e.on = true) → I L a w → wpOp P ops Q i (I (L.setIfInBounds i true)) a w)
    (hback : ∀ (i : Nat) (o : Oper), ops[i]? = some o → ∀ e ∈ o.after, Region.binds .any e = true → e.on < i)
    (hend : ∀ L a w, (∀ i, i < ops.size → did L i = true) → I L a w → Q .normal a w) : (Code.region id ops true).wp P Q a w := by
  refine wp_region_any hm (wpAny_inv I hstep (fun L a w hL hr hI => hend L a w ?_ hI) ops.size _ a _ (by simp) (fun i hi _ => by omega) ?_ ?_ h0)
  · intro i
    induction i using Nat.strongRecOn with
    | _ i ih =>
      intro hi
      cases hd : did L i
      · exfalso
        have : i ∈ Region.ready .any ops L := by
          rw [mem_ready]
          refine ⟨?_, ops[i], Array.getElem?_eq_getElem hi, fun e he hb => ?_⟩
          · unfold did at hd
            simpa [hL, hi] using hd
          · have hlt := hback i _ (Array.getElem?_eq_getElem hi) e he hb
            exact ih e.on hlt (by omega)
        rw [hr] at this
        cases this
      · rfl
  · unfold Region.ready
    exact Nat.le_trans (List.length_filter_le _ _) (by simp)
  · exact Nat.le_trans (List.length_filter_le _ _) (by simp)

end Go.Proofs.Ytehcclcokgmplaa

/-
  Regions that draw their order and make memory: what each operation tells, and of which blocks of its own; what holds whatever has been done.
-/
namespace Go.Proofs.Ytehcclcokgmplaa
open Go.RowKit Go.Maps

/-- What is told of an operation: of its own blocks, the world, the values it hangs on, its own value. -/
abbrev Tw := (Nat → Prop) → World → List Value → Value → Prop

/-- kd: on which others an operation's value hangs, and what is told of it and of its own blocks; dep: the old blocks that facts may hang on; G: what holds of the world besides. -/
structure Rw where
  n0 : Nat
  dep : Nat → Prop
  kd : List (List Nat × Tw)
  G : Array Bool → List Value → World → Prop

def NewB (w w' : World) (k : Nat) : Prop := w.heap.size ≤ k ∧ k < w'.heap.size

structure RWg (S : Rw) (L : Array Bool) (l : List Value) (w : World) (B : Nat → Nat → Prop) : Prop where
  glob : S.G L l w
  size : S.n0 ≤ w.heap.size
  ok : ∀ (i : Nat) (js : List Nat) (P : Tw), did L i = true → S.kd[i]? = some (js, P) → (∀ j ∈ js, did L j = true) ∧ P (B i) w (js.map (nth l)) (nth l i)
  blk : ∀ i k, did L i = true → B i k → S.n0 ≤ k ∧ k < w.heap.size
  apart : ∀ i j k, did L i = true → did L j = true → B i k → B j k → i = j
def RW (S : Rw) (L : Array Bool) (l : List Value) (w : World) : Prop := ∃ B, RWg S L l w B

structure Rw.Fine (S : Rw) : Prop where
  old : ∀ k, S.dep k → k < S.n0
  stab : ∀ (i : Nat) (js : List Nat) (P : Tw), S.kd[i]? = some (js, P) → ∀ (B : Nat → Prop) (w w' : World) (ls : List Value) (v : Value), P B w ls v → (∀ k, B k → k < w.heap.size) → (∀ k, B k ∨ S.dep k → w'.heap[k]? = w.heap[k]?) → w.heap.size ≤ w'.heap.size → P B w' ls v

variable {S : Rw} {w w' : World} {L : Array Bool} {l : List Value}
theorem RW.init (h : ∀ i, did L i = false) (hs : S.n0 ≤ w.heap.size) (hG : S.G L l w) : RW S L l w :=
  ⟨fun _ _ => False, hG, hs, (fun i js P h1 => by rw [h] at h1; cases h1), (fun i k h1 => by rw [h] at h1; cases h1), fun i j k h1 => by rw [h] at h1; cases h1⟩
theorem RW.glob (h : RW S L l w) : S.G L l w := by obtain ⟨B, h⟩ := h; exact h.glob
theorem RWg.turn {B : Nat → Nat → Prop} (i : Nat) (v : Value) {js : List Nat} {P : Tw} (h : RWg S L l w B) (hn : did L i = false) (hL : i < L.size) (hl : i < l.length) (hk : S.kd[i]? = some (js, P)) (hjs : ∀ j ∈ js, did L j = true) (hsz : w.heap.size ≤ w'.heap.size)
    (hold : ∀ (j : Nat) (js' : List Nat) (P' : Tw), did L j = true → S.kd[j]? = some (js', P') → P' (B j) w (js'.map (nth l)) (nth l j) → P' (B j) w' (js'.map (nth l)) (nth l j))
    (hG : S.G (L.setIfInBounds i true) (l.set i v) w') (hnew : P (NewB w w') w' (js.map (nth l)) v) : RW S (L.setIfInBounds i true) (l.set i v) w' := by
  have keep : ∀ js : List Nat, (∀ j ∈ js, did L j = true) → js.map (nth (l.set i v)) = js.map (nth l) := fun js hjs => List.map_congr_left fun j hj => nth_other (fun q => by have := hjs j hj; rw [← q, hn] at this; cases this)
  have dd : ∀ j, did L j = true → did (L.setIfInBounds i true) j = true := fun j hj => by
    by_cases e : j = i
    · subst e; exact did_same hL
    · rw [did_other e]; exact hj
  refine ⟨fun j k => if j = i then NewB w w' k else B j k, hG, Nat.le_trans h.size hsz, fun j js' P' hj hk' => ?_, fun j k hj hb => ?_, fun j m k hj hm hb hc => ?_⟩
  · by_cases e : j = i
    · subst e
      rw [hk] at hk'
      cases hk'
      refine ⟨fun m hm => dd m (hjs m hm), ?_⟩
      rw [keep _ hjs, nth_same hl]
      simpa using hnew
    · rw [did_other e] at hj
      obtain ⟨a1, a2⟩ := h.ok j js' P' hj hk'
      refine ⟨fun m hm => dd m (a1 m hm), ?_⟩
      rw [keep _ a1, nth_other (fun q => e q.symm)]
      have := hold j js' P' hj hk' a2
      simpa [e] using this
  · by_cases e : j = i
    · subst e
      simp only [if_pos] at hb
      exact ⟨Nat.le_trans h.size hb.1, hb.2⟩
    · rw [did_other e] at hj
      simp only [e, if_false] at hb
      have := h.blk j k hj hb
      omega
  · by_cases e : j = i <;> by_cases e2 : m = i
    · rw [e, e2]
    · exfalso
      simp only [e, e2, if_true, if_false] at hb hc
      rw [did_other e2] at hm
      have := (h.blk m k hm hc).2
      have := hb.1
      omega
    · exfalso
      simp only [e, e2, if_true, if_false] at hb hc
      rw [did_other e] at hj
      have := (h.blk j k hj hb).2
      have := hc.1
      omega
    · simp only [e, e2, if_false] at hb hc
      rw [did_other e] at hj
      rw [did_other e2] at hm
      exact h.apart j m k hj hm hb hc

end Go.Proofs.Ytehcclcokgmplaa
