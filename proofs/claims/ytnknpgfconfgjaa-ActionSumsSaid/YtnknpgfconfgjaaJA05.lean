/-
  Lemmas, joined: Clos, Find, Inv, Two.
-/
import Derived.Test.YtnknpgfconfgjaaJA04
import Derived.Test.YtnknpgfconfgjaaJA01
import Derived.Test.YtnknpgfconfgjaaJA03
import Derived.RegionTactic
/-
  What the closures of the maps tell.
-/
namespace Go.Proofs.Ytnknpgfconfgjaa
open Go.RowKit Go.Maps

/-- A sized number, as a value. -/
def szV (n : Nat) (k : Int) : Value := .agg #[.int .u64 ((n / B : Nat) : Int), .int .u64 ((n % B : Nat) : Int), .int .i64 k]
def oneN (b : Bool) : Nat := if b then 1 else 0
def NodeAt (w : World) (g : Nat) (op c1 c2 c3 c4 c5 : Int) : Prop := w.heap[g]? = some (.cells #[.int .u8 op, .int .i64 c1, .int .i64 c2, .int .i64 c3, .int .u64 c4, .int .u64 c5] 33 (0, 0))
theorem NodeAt.below {w w' : World} {g : Nat} {op c1 c2 c3 c4 c5 : Int} (h : NodeAt w g op c1 c2 c3 c4 c5) (hb : Below w.heap.size w w') : NodeAt w' g op c1 c2 c3 c4 c5 := (hb.block g (Array.getElem?_eq_some_iff.1 h).1).trans h

set_option maxRecDepth 100000 in
set_option maxHeartbeats 1000000 in
theorem one_any (b : Bool) (w : World) : Calls Try.prog 48 #[.bool b] w (RetNum w (oneN b)) := by
  have H1 : Hid (∀ W, Calls Try.prog 47 #[.int .u64 1] W fun e w' => e = .returned (.agg #[.int .u64 0, .int .u64 1]) ∧ Below W.heap.size W w') := fun W => numOf_any 1 (by unfold B; omega) W
  cases b
  · go_enter Try.func48, Try.ntmps48
    go_wp2_with fail
    exact bodyPost_ret (v := .agg #[.int .u64 0, .int .u64 0]) (by simp [results, Try.results48, go_sem]) rfl ⟨rfl, (by repeat (first | exact Below.refl _ _ | assumption | refine Below.drew ?_ | refine Below.alloc ?_ (by first | omega | (simp <;> omega)) _ | refine Below.setCell ?_ (by first | omega | (simp <;> omega)) _ | refine Below.trans ?_ (Below.mono (by assumption) (by first | omega | (simp <;> omega)))))⟩
  · go_enter Try.func48, Try.ntmps48
    go_wp2_with (go_at_call 47; refine (H1.out _).mono ?_; rintro e w1 ⟨rfl, hb⟩; obtain ⟨hc, hf⟩ := bcell hb; have hz := hb.size; simp at hz)
    exact bodyPost_ret (v := .agg #[.int .u64 0, .int .u64 1]) (by simp [results, Try.results48, go_sem, hc, hf, hz]) rfl ⟨rfl, (by repeat (first | exact Below.refl _ _ | assumption | refine Below.drew ?_ | refine Below.alloc ?_ (by first | omega | (simp <;> omega)) _ | refine Below.setCell ?_ (by first | omega | (simp <;> omega)) _ | refine Below.trans ?_ (Below.mono (by assumption) (by first | omega | (simp <;> omega)))))⟩

set_option maxRecDepth 100000 in
set_option maxHeartbeats 1000000 in
theorem clos_not (g : Nat) (op c1 c2 c3 c4 c5 : Int) (a : Nat) (k : Int) (w : World) (ha : a < B * B) (hg : NodeAt w g op c1 c2 c3 c4 c5) :
    Calls Try.prog 49 #[szV a k, .pointer (some ⟨g, 0, none⟩)] w (RetNum w ((a % 2 ^ sh c1) ^^^ (2 ^ sh c1 - 1))) := by
  have HC : Hid (∀ W, Calls Try.prog 50 #[numV a, .int .i64 c1] W (RetNum W ((a % 2 ^ sh c1) ^^^ (2 ^ sh c1 - 1)))) := fun W => numNot_any a c1 W ha
  unfold NodeAt at hg
  have hgl : g < w.heap.size := (Array.getElem?_eq_some_iff.1 hg).1
  have q1 : w.cell? ⟨g, 1, none⟩ = some (.int .i64 c1) := by simp [World.cell?, hg]
  have q2 : w.cell? ⟨g, 2, none⟩ = some (.int .i64 c2) := by simp [World.cell?, hg]
  have q3 : w.cell? ⟨g, 3, none⟩ = some (.int .i64 c3) := by simp [World.cell?, hg]
  generalize (a % 2 ^ sh c1) ^^^ (2 ^ sh c1 - 1) = r at *
  obtain ⟨y3, z3, he3, -, -⟩ := numV_parts r
  obtain ⟨y, z, he, ey, ez⟩ := numV_parts a
  have HR := Lib.hid he3
  unfold szV
  rw [← ey, ← ez]
  unfold RetNum at HC
  rw [he3, he] at HC
  have HZ : Hid (numV 0 = .agg #[.int .u64 0, .int .u64 0]) := rfl
  try rw [HZ.out] at HC
  clear he he3 ey ez hg ha
  go_enter Try.func49, Try.ntmps49
  go_wp2_with (go_at_call 50; refine (HC.out _).mono ?_; rintro e w1 ⟨rfl, hb⟩; obtain ⟨hc, hf⟩ := bcell hb; have hz := hb.size; simp at hz; have L1 : w.heap.size + 1 < w1.heap.size := by omega)
  exact bodyPost_ret (v := .agg #[.int .u64 (y3 : Int), .int .u64 (z3 : Int)]) (by simp [results, Try.results49, go_sem, hc, hf, L1]) rfl ⟨by rw [HR.out], (by repeat (first | exact Below.refl _ _ | assumption | refine Below.drew ?_ | refine Below.alloc ?_ (by first | omega | (simp <;> omega)) _ | refine Below.setCell ?_ (by first | omega | (simp <;> omega)) _ | refine Below.trans ?_ (Below.mono (by assumption) (by first | omega | (simp <;> omega)))))⟩

set_option maxRecDepth 100000 in
set_option maxHeartbeats 1000000 in
theorem clos_neg (g : Nat) (op c1 c2 c3 c4 c5 : Int) (a : Nat) (k : Int) (w : World) (ha : a < B * B) (hg : NodeAt w g op c1 c2 c3 c4 c5) :
    Calls Try.prog 51 #[szV a k, .pointer (some ⟨g, 0, none⟩)] w (RetNum w ((0 + (B * B - a)) % (B * B) % 2 ^ sh c1)) := by
  have HC : Hid (∀ W, Calls Try.prog 52 #[numV 0, numV a, .int .i64 c1] W (RetNum W ((0 + (B * B - a)) % (B * B) % 2 ^ sh c1))) := fun W => numSub_any 0 a c1 W (by unfold B; omega) ha
  unfold NodeAt at hg
  have hgl : g < w.heap.size := (Array.getElem?_eq_some_iff.1 hg).1
  have q1 : w.cell? ⟨g, 1, none⟩ = some (.int .i64 c1) := by simp [World.cell?, hg]
  have q2 : w.cell? ⟨g, 2, none⟩ = some (.int .i64 c2) := by simp [World.cell?, hg]
  have q3 : w.cell? ⟨g, 3, none⟩ = some (.int .i64 c3) := by simp [World.cell?, hg]
  generalize (0 + (B * B - a)) % (B * B) % 2 ^ sh c1 = r at *
  obtain ⟨y3, z3, he3, -, -⟩ := numV_parts r
  obtain ⟨y, z, he, ey, ez⟩ := numV_parts a
  have HR := Lib.hid he3
  unfold szV
  rw [← ey, ← ez]
  unfold RetNum at HC
  rw [he3, he] at HC
  have HZ : Hid (numV 0 = .agg #[.int .u64 0, .int .u64 0]) := rfl
  try rw [HZ.out] at HC
  clear he he3 ey ez hg ha
  go_enter Try.func51, Try.ntmps51
  go_wp2_with (go_at_call 52; refine (HC.out _).mono ?_; rintro e w1 ⟨rfl, hb⟩; obtain ⟨hc, hf⟩ := bcell hb; have hz := hb.size; simp at hz; have L1 : w.heap.size + 1 < w1.heap.size := by omega)
  exact bodyPost_ret (v := .agg #[.int .u64 (y3 : Int), .int .u64 (z3 : Int)]) (by simp [results, Try.results51, go_sem, hc, hf, L1]) rfl ⟨by rw [HR.out], (by repeat (first | exact Below.refl _ _ | assumption | refine Below.drew ?_ | refine Below.alloc ?_ (by first | omega | (simp <;> omega)) _ | refine Below.setCell ?_ (by first | omega | (simp <;> omega)) _ | refine Below.trans ?_ (Below.mono (by assumption) (by first | omega | (simp <;> omega)))))⟩

set_option maxRecDepth 100000 in
set_option maxHeartbeats 1000000 in
theorem clos_slice (g : Nat) (op c1 c2 c3 c4 c5 : Int) (a : Nat) (k : Int) (w : World) (ha : a < B * B) (hg : NodeAt w g op c1 c2 c3 c4 c5) (h0 : 0 ≤ c3) (h1 : c3 ≤ c2) (h2 : c2 < 128) :
    Calls Try.prog 53 #[szV a k, .pointer (some ⟨g, 0, none⟩)] w (RetNum w (a / 2 ^ sh c3 % 2 ^ sh (c2 - c3 + 1))) := by
  have HC : Hid (∀ W, Calls Try.prog 54 #[numV a, .int .i64 c2, .int .i64 c3] W (RetNum W (a / 2 ^ sh c3 % 2 ^ sh (c2 - c3 + 1)))) := fun W => numSlice_any a c2 c3 W ha h0 h1 h2
  unfold NodeAt at hg
  have hgl : g < w.heap.size := (Array.getElem?_eq_some_iff.1 hg).1
  have q1 : w.cell? ⟨g, 1, none⟩ = some (.int .i64 c1) := by simp [World.cell?, hg]
  have q2 : w.cell? ⟨g, 2, none⟩ = some (.int .i64 c2) := by simp [World.cell?, hg]
  have q3 : w.cell? ⟨g, 3, none⟩ = some (.int .i64 c3) := by simp [World.cell?, hg]
  generalize a / 2 ^ sh c3 % 2 ^ sh (c2 - c3 + 1) = r at *
  obtain ⟨y3, z3, he3, -, -⟩ := numV_parts r
  obtain ⟨y, z, he, ey, ez⟩ := numV_parts a
  have HR := Lib.hid he3
  unfold szV
  rw [← ey, ← ez]
  unfold RetNum at HC
  rw [he3, he] at HC
  have HZ : Hid (numV 0 = .agg #[.int .u64 0, .int .u64 0]) := rfl
  try rw [HZ.out] at HC
  clear he he3 ey ez hg ha
  go_enter Try.func53, Try.ntmps53
  go_wp2_with (go_at_call 54; refine (HC.out _).mono ?_; rintro e w1 ⟨rfl, hb⟩; obtain ⟨hc, hf⟩ := bcell hb; have hz := hb.size; simp at hz; have L1 : w.heap.size + 1 < w1.heap.size := by omega)
  exact bodyPost_ret (v := .agg #[.int .u64 (y3 : Int), .int .u64 (z3 : Int)]) (by simp [results, Try.results53, go_sem, hc, hf, L1]) rfl ⟨by rw [HR.out], (by repeat (first | exact Below.refl _ _ | assumption | refine Below.drew ?_ | refine Below.alloc ?_ (by first | omega | (simp <;> omega)) _ | refine Below.setCell ?_ (by first | omega | (simp <;> omega)) _ | refine Below.trans ?_ (Below.mono (by assumption) (by first | omega | (simp <;> omega)))))⟩

set_option maxRecDepth 100000 in
set_option maxHeartbeats 1000000 in
theorem clos_cat (a b : Nat) (k j : Int) (w : World) (ha : a < B * B) (hb : b < B * B) :
    Calls Try.prog 59 #[szV a k, szV b j] w (RetNum w ((a * 2 ^ sh j % (B * B) % 2 ^ sh 128) ||| (b % 2 ^ sh j))) := by
  have HC : Hid (∀ W, Calls Try.prog 60 #[numV a, numV b, .int .i64 j] W (RetNum W ((a * 2 ^ sh j % (B * B) % 2 ^ sh 128) ||| (b % 2 ^ sh j)))) := fun W => numCat_any a b j W ha hb
  generalize (a * 2 ^ sh j % (B * B) % 2 ^ sh 128) ||| (b % 2 ^ sh j) = r at *
  obtain ⟨y3, z3, he3, -, -⟩ := numV_parts r
  obtain ⟨y, z, he, ey, ez⟩ := numV_parts a
  obtain ⟨y1, z1, he1, ey1, ez1⟩ := numV_parts b
  have HR := Lib.hid he3
  unfold szV
  rw [← ey, ← ez, ← ey1, ← ez1]
  unfold RetNum at HC
  rw [he3, he, he1] at HC
  clear he he1 he3 ey ez ey1 ez1 ha hb
  go_enter Try.func59, Try.ntmps59
  go_wp2_with (go_at_call 60; refine (HC.out _).mono ?_; rintro e w1 ⟨rfl, hb⟩; obtain ⟨hc, hf⟩ := bcell hb; have hz := hb.size; simp at hz; have L1 : w.heap.size + 1 < w1.heap.size := by omega)
  exact bodyPost_ret (v := .agg #[.int .u64 (y3 : Int), .int .u64 (z3 : Int)]) (by simp [results, Try.results59, go_sem, hc, hf, L1]) rfl ⟨by rw [HR.out], (by repeat (first | exact Below.refl _ _ | assumption | refine Below.drew ?_ | refine Below.alloc ?_ (by first | omega | (simp <;> omega)) _ | refine Below.setCell ?_ (by first | omega | (simp <;> omega)) _ | refine Below.trans ?_ (Below.mono (by assumption) (by first | omega | (simp <;> omega)))))⟩

set_option maxRecDepth 100000 in
set_option maxHeartbeats 1000000 in
theorem clos_add (g : Nat) (op c1 c2 c3 c4 c5 : Int) (a b : Nat) (k j : Int) (w : World) (ha : a < B * B) (hb : b < B * B) (hg : NodeAt w g op c1 c2 c3 c4 c5) :
    Calls Try.prog 61 #[szV a k, szV b j, .pointer (some ⟨g, 0, none⟩)] w (RetNum w ((a + b) % (B * B) % 2 ^ sh c1)) := by
  have HC : Hid (∀ W, Calls Try.prog 62 #[numV a, numV b, .int .i64 c1] W (RetNum W ((a + b) % (B * B) % 2 ^ sh c1))) := fun W => numAdd_any a b c1 W ha hb
  unfold NodeAt at hg
  have hgl : g < w.heap.size := (Array.getElem?_eq_some_iff.1 hg).1
  have hgl1 : g < w.heap.size + 1 := by omega
  have hgl2 : g < w.heap.size + 1 + 1 := by omega
  have q1 : w.cell? ⟨g, 1, none⟩ = some (.int .i64 c1) := by simp [World.cell?, hg]
  clear hg
  generalize (a + b) % (B * B) % 2 ^ sh c1 = r at *
  obtain ⟨y3, z3, he3, -, -⟩ := numV_parts r
  obtain ⟨y, z, he, ey, ez⟩ := numV_parts a
  obtain ⟨y1, z1, he1, ey1, ez1⟩ := numV_parts b
  have HR := Lib.hid he3
  unfold szV
  rw [← ey, ← ez, ← ey1, ← ez1]
  unfold RetNum at HC
  rw [he3, he, he1] at HC
  clear he he1 he3 ey ez ey1 ez1 ha hb
  go_enter Try.func61, Try.ntmps61
  go_wp2_with (go_at_call 62; refine (HC.out _).mono ?_; rintro e w1 ⟨rfl, hb⟩; obtain ⟨hc, hf⟩ := bcell hb; have hz := hb.size; simp at hz; have L1 : w.heap.size + 1 < w1.heap.size := by omega)
  exact bodyPost_ret (v := .agg #[.int .u64 (y3 : Int), .int .u64 (z3 : Int)]) (by simp [results, Try.results61, go_sem, hc, hf, L1]) rfl ⟨by rw [HR.out], (by repeat (first | exact Below.refl _ _ | assumption | refine Below.drew ?_ | refine Below.alloc ?_ (by first | omega | (simp <;> omega)) _ | refine Below.setCell ?_ (by first | omega | (simp <;> omega)) _ | refine Below.trans ?_ (Below.mono (by assumption) (by first | omega | (simp <;> omega)))))⟩

set_option maxRecDepth 100000 in
set_option maxHeartbeats 1000000 in
theorem clos_sub (g : Nat) (op c1 c2 c3 c4 c5 : Int) (a b : Nat) (k j : Int) (w : World) (ha : a < B * B) (hb : b < B * B) (hg : NodeAt w g op c1 c2 c3 c4 c5) :
    Calls Try.prog 63 #[szV a k, szV b j, .pointer (some ⟨g, 0, none⟩)] w (RetNum w ((a + (B * B - b)) % (B * B) % 2 ^ sh c1)) := by
  have HC : Hid (∀ W, Calls Try.prog 52 #[numV a, numV b, .int .i64 c1] W (RetNum W ((a + (B * B - b)) % (B * B) % 2 ^ sh c1))) := fun W => numSub_any a b c1 W ha hb
  unfold NodeAt at hg
  have hgl : g < w.heap.size := (Array.getElem?_eq_some_iff.1 hg).1
  have hgl1 : g < w.heap.size + 1 := by omega
  have hgl2 : g < w.heap.size + 1 + 1 := by omega
  have q1 : w.cell? ⟨g, 1, none⟩ = some (.int .i64 c1) := by simp [World.cell?, hg]
  clear hg
  generalize (a + (B * B - b)) % (B * B) % 2 ^ sh c1 = r at *
  obtain ⟨y3, z3, he3, -, -⟩ := numV_parts r
  obtain ⟨y, z, he, ey, ez⟩ := numV_parts a
  obtain ⟨y1, z1, he1, ey1, ez1⟩ := numV_parts b
  have HR := Lib.hid he3
  unfold szV
  rw [← ey, ← ez, ← ey1, ← ez1]
  unfold RetNum at HC
  rw [he3, he, he1] at HC
  clear he he1 he3 ey ez ey1 ez1 ha hb
  go_enter Try.func63, Try.ntmps63
  go_wp2_with (go_at_call 52; refine (HC.out _).mono ?_; rintro e w1 ⟨rfl, hb⟩; obtain ⟨hc, hf⟩ := bcell hb; have hz := hb.size; simp at hz; have L1 : w.heap.size + 1 < w1.heap.size := by omega)
  exact bodyPost_ret (v := .agg #[.int .u64 (y3 : Int), .int .u64 (z3 : Int)]) (by simp [results, Try.results63, go_sem, hc, hf, L1]) rfl ⟨by rw [HR.out], (by repeat (first | exact Below.refl _ _ | assumption | refine Below.drew ?_ | refine Below.alloc ?_ (by first | omega | (simp <;> omega)) _ | refine Below.setCell ?_ (by first | omega | (simp <;> omega)) _ | refine Below.trans ?_ (Below.mono (by assumption) (by first | omega | (simp <;> omega)))))⟩

set_option maxRecDepth 100000 in
set_option maxHeartbeats 1000000 in
theorem clos_lt (a b : Nat) (k j : Int) (w : World) (ha : a < B * B) (hb : b < B * B) :
    Calls Try.prog 70 #[szV a k, szV b j] w (RetNum w (oneN (decide (a < b)))) := by
  have HC : Hid (∀ W, Calls Try.prog 71 #[numV a, numV b] W fun e w' => e = .returned (.int .i64 (cmpI a b)) ∧ Below W.heap.size W w') := fun W => numCmp_any a b W ha hb
  have HO : Hid (∀ (t : Bool) W, Calls Try.prog 48 #[.bool t] W (RetNum W (oneN t))) := fun t W => one_any t W
  have HT : Hid (decide (cmpI a b < 0) = decide (a < b)) := by
    show _ = _
    unfold cmpI
    split
    · simp; omega
    · split <;> simp <;> omega
  obtain ⟨y, z, he, ey, ez⟩ := numV_parts a
  obtain ⟨y1, z1, he1, ey1, ez1⟩ := numV_parts b
  unfold szV
  rw [← ey, ← ez, ← ey1, ← ez1]
  rw [he, he1] at HC
  generalize cmpI a b = c at *
  clear he he1 ey ez ey1 ez1 ha hb
  go_enter Try.func70, Try.ntmps70
  go_wp2_with (go_at_call 71; refine (HC.out _).mono ?_; rintro e w1 ⟨rfl, hb⟩; obtain ⟨hc, hf⟩ := bcell hb; have hz := hb.size; simp at hz; have L1 : w.heap.size + 1 < w1.heap.size := by omega)
  rw [HT.out]
  have HO1 := HO.out (decide (a < b))
  generalize oneN (decide (a < b)) = r at *
  obtain ⟨y3, z3, he3, -, -⟩ := numV_parts r
  have HR := Lib.hid he3
  unfold RetNum at HO1
  rw [he3] at HO1
  refine (HO1 _).mono ?_
  rintro e w2 ⟨rfl, hb2⟩
  obtain ⟨hc2, hf2⟩ := bcell hb2
  have hz2 := hb2.size
  have L2 : w.heap.size + 1 < w2.heap.size := by omega
  have L3 : w.heap.size + 1 + 1 < w1.heap.size := by omega
  have L4 : w.heap.size + 1 + 1 < w2.heap.size := by omega
  clear HO1
  go_wp2_with fail
  exact bodyPost_ret (v := .agg #[.int .u64 (y3 : Int), .int .u64 (z3 : Int)]) (by simp [results, Try.results70, go_sem, hc, hf, hc2, hf2, L1, L2, L3, L4]) rfl ⟨by rw [HR.out], (by repeat (first | exact Below.refl _ _ | assumption | refine Below.drew ?_ | refine Below.alloc ?_ (by first | omega | (simp <;> omega)) _ | refine Below.setCell ?_ (by first | omega | (simp <;> omega)) _ | refine Below.trans ?_ (Below.mono (by assumption) (by first | omega | (simp <;> omega)))))⟩

set_option maxRecDepth 100000 in
set_option maxHeartbeats 1000000 in
theorem clos_le (a b : Nat) (k j : Int) (w : World) (ha : a < B * B) (hb : b < B * B) :
    Calls Try.prog 72 #[szV a k, szV b j] w (RetNum w (oneN (decide (a ≤ b)))) := by
  have HC : Hid (∀ W, Calls Try.prog 71 #[numV a, numV b] W fun e w' => e = .returned (.int .i64 (cmpI a b)) ∧ Below W.heap.size W w') := fun W => numCmp_any a b W ha hb
  have HO : Hid (∀ (t : Bool) W, Calls Try.prog 48 #[.bool t] W (RetNum W (oneN t))) := fun t W => one_any t W
  have HT : Hid (decide (cmpI a b ≤ 0) = decide (a ≤ b)) := by
    show _ = _
    unfold cmpI
    split
    · simp; omega
    · split <;> simp <;> omega
  obtain ⟨y, z, he, ey, ez⟩ := numV_parts a
  obtain ⟨y1, z1, he1, ey1, ez1⟩ := numV_parts b
  unfold szV
  rw [← ey, ← ez, ← ey1, ← ez1]
  rw [he, he1] at HC
  generalize cmpI a b = c at *
  clear he he1 ey ez ey1 ez1 ha hb
  go_enter Try.func72, Try.ntmps72
  go_wp2_with (go_at_call 71; refine (HC.out _).mono ?_; rintro e w1 ⟨rfl, hb⟩; obtain ⟨hc, hf⟩ := bcell hb; have hz := hb.size; simp at hz; have L1 : w.heap.size + 1 < w1.heap.size := by omega)
  rw [HT.out]
  have HO1 := HO.out (decide (a ≤ b))
  generalize oneN (decide (a ≤ b)) = r at *
  obtain ⟨y3, z3, he3, -, -⟩ := numV_parts r
  have HR := Lib.hid he3
  unfold RetNum at HO1
  rw [he3] at HO1
  refine (HO1 _).mono ?_
  rintro e w2 ⟨rfl, hb2⟩
  obtain ⟨hc2, hf2⟩ := bcell hb2
  have hz2 := hb2.size
  have L2 : w.heap.size + 1 < w2.heap.size := by omega
  have L3 : w.heap.size + 1 + 1 < w1.heap.size := by omega
  have L4 : w.heap.size + 1 + 1 < w2.heap.size := by omega
  clear HO1
  go_wp2_with fail
  exact bodyPost_ret (v := .agg #[.int .u64 (y3 : Int), .int .u64 (z3 : Int)]) (by simp [results, Try.results72, go_sem, hc, hf, hc2, hf2, L1, L2, L3, L4]) rfl ⟨by rw [HR.out], (by repeat (first | exact Below.refl _ _ | assumption | refine Below.drew ?_ | refine Below.alloc ?_ (by first | omega | (simp <;> omega)) _ | refine Below.setCell ?_ (by first | omega | (simp <;> omega)) _ | refine Below.trans ?_ (Below.mono (by assumption) (by first | omega | (simp <;> omega)))))⟩

end Go.Proofs.Ytnknpgfconfgjaa

/-
  A region of a function's code, by its number.
-/
namespace Go.Proofs.Ytnknpgfconfgjaa
open Go.RowKit

def findRegion (n : Nat) : Code → Option Code
  | .region k ops any => if k = n then some (.region k ops any) else none
  | .seq a b => match findRegion n a with
    | some c => some c
    | none => findRegion n b
  | .block _ c => findRegion n c
  | .scope c => findRegion n c
  | .loop c => findRegion n c
  | .cond _ a b => match findRegion n a with
    | some c => some c
    | none => findRegion n b
  | _ => none

end Go.Proofs.Ytnknpgfconfgjaa

/-
  A region that draws its order, by an invariant over what has been done.
-/
namespace Go.Proofs.Ytnknpgfconfgjaa
open Go.RowKit

/-- Has an operation been done? -/
def did (L : Array Bool) (i : Nat) : Bool := L.getD i false

theorem did_set {L : Array Bool} {i j : Nat} (hi : i < L.size) : did (L.setIfInBounds i true) j = (decide (j = i) || did L j) := by
  unfold did
  by_cases h : i = j
  · subst h
    simp [hi]
  · rw [getD_set_ne false h]
    have : decide (j = i) = false := by simp; omega
    rw [this, Bool.false_or]

theorem did_none (n i : Nat) : did (Array.replicate n false) i = false := by
  unfold did
  rw [Array.getD_eq_getD_getElem?, Array.getElem?_replicate]
  split <;> rfl
theorem filter_le {p q : Nat → Bool} (h : ∀ j, q j = true → p j = true) : ∀ l : List Nat, (l.filter q).length ≤ (l.filter p).length
  | [] => Nat.le_refl _
  | x :: l => by
    have ih := filter_le h l
    rw [List.filter_cons, List.filter_cons]
    cases hq : q x
    · simp only [Bool.false_eq_true, if_false]
      split
      · simp only [List.length_cons]; omega
      · exact ih
    · rw [h x hq]
      simp only [if_true, List.length_cons]
      omega
theorem filter_lt {p q : Nat → Bool} (h : ∀ j, q j = true → p j = true) {i : Nat} (hp : p i = true) (hq : q i = false) : ∀ l : List Nat, i ∈ l → (l.filter q).length < (l.filter p).length
  | [], hi => by cases hi
  | x :: l, hi => by
    rw [List.filter_cons, List.filter_cons]
    by_cases e : x = i
    · subst e
      have := filter_le h l
      rw [hp, hq]
      simp only [Bool.false_eq_true, if_false, if_true, List.length_cons]
      omega
    · have ih := filter_lt h hp hq l (by
        rcases List.mem_cons.1 hi with h1 | h1
        · exact absurd h1.symm e
        · exact h1)
      cases hq' : q x
      · simp only [Bool.false_eq_true, if_false]
        split
        · simp only [List.length_cons]; omega
        · exact ih
      · rw [h x hq']
        simp only [if_true, List.length_cons]
        omega

theorem wpAny_inv {P : Program} {md : Region.Mode} {ops : Array Oper} {Q : Exit → Act → World → Prop} (I : Array Bool → Act → World → Prop)
    (hstep : ∀ L a w i, L.size = ops.size → i < ops.size → did L i = false → (∀ o, ops[i]? = some o → ∀ e ∈ o.after, Region.binds md e = true → did L e.on = true) → I L a w → wpOp P ops Q i (I (L.setIfInBounds i true)) a w)
    (hend : ∀ L a w, L.size = ops.size → Region.ready md ops L = [] → I L a w → Q .normal a w) :
    ∀ (n : Nat) (L : Array Bool) (a : Act) (w : World), L.size = ops.size → (∀ i, i < ops.size → did L i = false → 0 < n) → (Region.ready md ops L).length ≤ ops.size → ((List.range ops.size).filter fun i => !did L i).length ≤ n → I L a w → wpAny P md ops Q n L a w := by
  intro n
  induction n with
  | zero =>
    intro L a w hL hn _ hlen hI
    have hr : Region.ready md ops L = [] := by
      rw [List.eq_nil_iff_forall_not_mem]
      intro i hi
      obtain ⟨h1, o, ho, -⟩ := mem_ready.1 hi
      have hlt : i < ops.size := (Array.getElem?_eq_some_iff.1 ho).1
      have : did L i = false := by unfold did; simpa [hL, hlt] using h1
      exact absurd (hn i hlt this) (by omega)
    exact ⟨hr, hend L a w hL hr hI⟩
  | succ n ih =>
    intro L a w hL hn hrl hlen hI
    refine ⟨fun hr => hend L a w hL hr hI, fun i hi => ?_⟩
    obtain ⟨h1, o, ho, hall⟩ := mem_ready.1 hi
    have hlt : i < ops.size := (Array.getElem?_eq_some_iff.1 ho).1
    have hd : did L i = false := by unfold did; simpa [hL, hlt] using h1
    refine wpOp_mono (fun a' w' hI' => ?_) (hstep L a w i hL hlt hd (fun o' ho' e he hb => by rw [ho] at ho'; cases ho'; exact hall e he hb) hI)
    have hset : ((List.range ops.size).filter fun j => !did (L.setIfInBounds i true) j).length < ((List.range ops.size).filter fun j => !did L j).length := by
      refine filter_lt (fun j hj => ?_) (i := i) (by simp [hd]) (by rw [did_set (by omega)]; simp) _ (List.mem_range.2 hlt)
      rw [did_set (by omega)] at hj
      cases h : did L j
      · rfl
      · rw [h] at hj; simp at hj
    refine ih _ a' w' (by simpa using hL) (fun j hj hdj => ?_) ?_ (by omega) hI'
    · rcases Nat.eq_zero_or_pos n with h0 | h0
      · exfalso
        have hm : j ∈ (List.range ops.size).filter fun j => !did (L.setIfInBounds i true) j := by
          rw [List.mem_filter, List.mem_range]
          exact ⟨hj, by simp [hdj]⟩
        have := List.length_pos_of_mem hm
        omega
      · exact h0
    · unfold Region.ready
      exact Nat.le_trans (List.length_filter_le _ _) (by simp)

theorem wp_region_inv {P : Program} {ops : Array Oper} {Q : Exit → Act → World → Prop} {id : Nat} {a : Act} {w : World} (hm : P.follows .mixedOrders = true) (I : Array Bool → Act → World → Prop)
    (h0 : I (Array.replicate ops.size false) a w.drew)
    (hstep : ∀ L a w i, L.size = ops.size → i < ops.size → did L i = false → (∀ o, ops[i]? = some o → ∀ e ∈ o.after, Region.binds .any e = true → did L e.on = true) → I L a w → wpOp P ops Q i (I (L.setIfInBounds i true)) a w)
    (hback : ∀ (i : Nat) (o : Oper), ops[i]? = some o → ∀ e ∈ o.after, e.on < i)
    (hend : ∀ L a w, (∀ i, i < ops.size → did L i = true) → I L a w → Q .normal a w) : (Code.region id ops true).wp P Q a w := by
  refine wp_region_any hm (wpAny_inv I hstep (fun L a w hL hr hI => hend L a w ?_ hI) ops.size _ a _ (by simp) (fun i hi _ => by omega) ?_ ?_ h0)
  · intro i
    induction i using Nat.strongRecOn with
    | _ i ih =>
      intro hi
      cases hd : did L i
      · exfalso
        have : i ∈ Region.ready .any ops L := by
          rw [mem_ready]
          refine ⟨?_, ops[i], Array.getElem?_eq_getElem hi, fun e he hb => ?_⟩
          · unfold did at hd
            simpa [hL, hi] using hd
          · have hlt := hback i _ (Array.getElem?_eq_getElem hi) e he
            exact ih e.on hlt (by omega)
        rw [hr] at this
        cases this
      · rfl
  · unfold Region.ready
    exact Nat.le_trans (List.length_filter_le _ _) (by simp)
  · exact Nat.le_trans (List.length_filter_le _ _) (by simp)

end Go.Proofs.Ytnknpgfconfgjaa

/-
  What holds while both numbers' bits are taken: two loads, two calls, two new rows, two stores, in any order that is open.
-/
namespace Go.Proofs.Ytnknpgfconfgjaa
open Go.RowKit

structure TwoI (A C : Value) (fa fb : Nat → Bool) (W0 : World) (L : Array Bool) (v5 v6 v8 v9 v10 v11 : Value) (w : World) : Prop where
  below : Below W0.heap.size W0 w
  h0 : did L 0 = true → v8 = A
  h1 : did L 1 = true → v9 = .agg (rowA fa)
  h2 : did L 2 = true → v10 = C
  h3 : did L 3 = true → v11 = .agg (rowA fb)
  h4 : did L 4 = true → ∃ g, v5 = .pointer (some ⟨g, 0, none⟩) ∧ W0.heap.size ≤ g ∧ w.heap[g]? = some (.cells (rowA (if did L 6 then fa else fun _ => false)) 70 (0, 0))
  h5 : did L 5 = true → ∃ g, v6 = .pointer (some ⟨g, 0, none⟩) ∧ W0.heap.size ≤ g ∧ w.heap[g]? = some (.cells (rowA (if did L 7 then fb else fun _ => false)) 70 (0, 0))
  ne : did L 4 = true → did L 5 = true → v5 ≠ v6
  l6 : did L 6 = true → did L 4 = true
  l7 : did L 7 = true → did L 5 = true

variable {A C : Value} {fa fb : Nat → Bool} {W0 : World} {L : Array Bool} {v5 v6 v8 v9 v10 v11 : Value} {w w' : World}

theorem TwoI.init (h : did L = fun _ => false) (hb : Below W0.heap.size W0 w) : TwoI A C fa fb W0 L v5 v6 v8 v9 v10 v11 w := by
  constructor <;> first | exact hb | (intro h1; rw [h] at h1; cases h1)

theorem lt_of_block {g : Nat} {o : Obj} (h : w.heap[g]? = some o) : g < w.heap.size := (Array.getElem?_eq_some_iff.1 h).1

/-- Behind a call the rows are there still. -/
theorem TwoI.below' (h : TwoI A C fa fb W0 L v5 v6 v8 v9 v10 v11 w) (hb : Below w.heap.size w w') : TwoI A C fa fb W0 L v5 v6 v8 v9 v10 v11 w' := by
  obtain ⟨b, h0, h1, h2, h3, h4, h5, hn, h6, h7⟩ := h
  refine ⟨b.trans (hb.mono b.size), h0, h1, h2, h3, fun hd => ?_, fun hd => ?_, hn, h6, h7⟩
  · obtain ⟨g, e1, e2, e3⟩ := h4 hd
    exact ⟨g, e1, e2, (hb.block g (lt_of_block e3)).trans e3⟩
  · obtain ⟨g, e1, e2, e3⟩ := h5 hd
    exact ⟨g, e1, e2, (hb.block g (lt_of_block e3)).trans e3⟩

theorem TwoI.s0 (hL : L.size = 8) (h : TwoI A C fa fb W0 L v5 v6 v8 v9 v10 v11 w) : TwoI A C fa fb W0 (L.setIfInBounds 0 true) v5 v6 A v9 v10 v11 w := by
  obtain ⟨b, h0, h1, h2, h3, h4, h5, hn, h6, h7⟩ := h
  constructor <;> (try simp only [did_set (show 0 < L.size by omega)]) <;> first | assumption | (intros; rfl) | (simp; done) | (simpa using ‹_›)
theorem TwoI.s1 (hL : L.size = 8) (h : TwoI A C fa fb W0 L v5 v6 v8 v9 v10 v11 w) : TwoI A C fa fb W0 (L.setIfInBounds 1 true) v5 v6 v8 (.agg (rowA fa)) v10 v11 w := by
  obtain ⟨b, h0, h1, h2, h3, h4, h5, hn, h6, h7⟩ := h
  constructor <;> (try simp only [did_set (show 1 < L.size by omega)]) <;> first | assumption | (intros; rfl) | (simp; done) | (simpa using ‹_›)
theorem TwoI.s2 (hL : L.size = 8) (h : TwoI A C fa fb W0 L v5 v6 v8 v9 v10 v11 w) : TwoI A C fa fb W0 (L.setIfInBounds 2 true) v5 v6 v8 v9 C v11 w := by
  obtain ⟨b, h0, h1, h2, h3, h4, h5, hn, h6, h7⟩ := h
  constructor <;> (try simp only [did_set (show 2 < L.size by omega)]) <;> first | assumption | (intros; rfl) | (simp; done) | (simpa using ‹_›)
theorem TwoI.s3 (hL : L.size = 8) (h : TwoI A C fa fb W0 L v5 v6 v8 v9 v10 v11 w) : TwoI A C fa fb W0 (L.setIfInBounds 3 true) v5 v6 v8 v9 v10 (.agg (rowA fb)) w := by
  obtain ⟨b, h0, h1, h2, h3, h4, h5, hn, h6, h7⟩ := h
  constructor <;> (try simp only [did_set (show 3 < L.size by omega)]) <;> first | assumption | (intros; rfl) | (simp; done) | (simpa using ‹_›)

theorem TwoI.s4 (hL : L.size = 8) (h4n : did L 4 = false) (h : TwoI A C fa fb W0 L v5 v6 v8 v9 v10 v11 w) :
    TwoI A C fa fb W0 (L.setIfInBounds 4 true) (.pointer (some ⟨w.heap.size, 0, none⟩)) v6 v8 v9 v10 v11 (w.alloc (.cells (rowA fun _ => false) 70)) := by
  have h' := h.below' ((Below.refl w.heap.size w).alloc (Nat.le_refl _) (.cells (rowA fun _ => false) 70))
  obtain ⟨b, h0, h1, h2, h3, h4, h5, hn, h6, h7⟩ := h'
  have n6 : did L 6 = false := by
    cases h : did L 6
    · rfl
    · rw [h6 h] at h4n; cases h4n
  have hsz := h.below.size
  constructor <;> try simp only [did_set (show 4 < L.size by omega)]
  · exact b
  · simpa using h0
  · simpa using h1
  · simpa using h2
  · simpa using h3
  · intro _
    refine ⟨w.heap.size, rfl, hsz, ?_⟩
    rw [heap_new, n6]
    rfl
  · simpa using h5
  · intro _ hd
    obtain ⟨g, e1, e2, e3⟩ := h.h5 (by simpa using hd)
    rw [e1]
    intro e
    simp at e
    have := lt_of_block e3
    omega
  · simp
  · simpa using h7

theorem TwoI.s5 (hL : L.size = 8) (h5n : did L 5 = false) (h : TwoI A C fa fb W0 L v5 v6 v8 v9 v10 v11 w) :
    TwoI A C fa fb W0 (L.setIfInBounds 5 true) v5 (.pointer (some ⟨w.heap.size, 0, none⟩)) v8 v9 v10 v11 (w.alloc (.cells (rowA fun _ => false) 70)) := by
  have h' := h.below' ((Below.refl w.heap.size w).alloc (Nat.le_refl _) (.cells (rowA fun _ => false) 70))
  obtain ⟨b, h0, h1, h2, h3, h4, h5, hn, h6, h7⟩ := h'
  have n7 : did L 7 = false := by
    cases h : did L 7
    · rfl
    · rw [h7 h] at h5n; cases h5n
  have hsz := h.below.size
  constructor <;> try simp only [did_set (show 5 < L.size by omega)]
  · exact b
  · simpa using h0
  · simpa using h1
  · simpa using h2
  · simpa using h3
  · simpa using h4
  · intro _
    refine ⟨w.heap.size, rfl, hsz, ?_⟩
    rw [heap_new, n7]
    rfl
  · intro hd _
    obtain ⟨g, e1, e2, e3⟩ := h.h4 (by simpa using hd)
    rw [e1]
    intro e
    simp at e
    have := lt_of_block e3
    omega
  · simpa using h6
  · simp

theorem TwoI.s6 (hL : L.size = 8) {g : Nat} (hd4 : did L 4 = true) (hg : v5 = .pointer (some ⟨g, 0, none⟩)) (h : TwoI A C fa fb W0 L v5 v6 v8 v9 v10 v11 w) :
    TwoI A C fa fb W0 (L.setIfInBounds 6 true) v5 v6 v8 v9 v10 v11 (w.setRow g (rowA fa)) := by
  obtain ⟨b, h0, h1, h2, h3, h4, h5, hn, h6, h7⟩ := h
  obtain ⟨g', e1, e2, e3⟩ := h4 hd4
  rw [hg] at e1
  simp at e1
  subst e1
  constructor <;> try simp only [did_set (show 6 < L.size by omega)]
  · exact below_setRow b e2 _
  · simpa using h0
  · simpa using h1
  · simpa using h2
  · simpa using h3
  · intro _
    exact ⟨g, hg, e2, by rw [setRow_heap _ _ _ _ _ _ e3]; simp⟩
  · intro hd
    have hd5 : did L 5 = true := by simpa using hd
    obtain ⟨k, k1, k2, k3⟩ := h5 hd5
    refine ⟨k, k1, k2, ?_⟩
    rw [setRow_other]
    · simpa using k3
    · rintro rfl
      exact hn hd4 hd5 (by rw [hg, k1])
  · simpa using hn
  · simpa using hd4
  · simpa using h7

theorem TwoI.s7 (hL : L.size = 8) {g : Nat} (hd5 : did L 5 = true) (hg : v6 = .pointer (some ⟨g, 0, none⟩)) (h : TwoI A C fa fb W0 L v5 v6 v8 v9 v10 v11 w) :
    TwoI A C fa fb W0 (L.setIfInBounds 7 true) v5 v6 v8 v9 v10 v11 (w.setRow g (rowA fb)) := by
  obtain ⟨b, h0, h1, h2, h3, h4, h5, hn, h6, h7⟩ := h
  obtain ⟨g', e1, e2, e3⟩ := h5 hd5
  rw [hg] at e1
  simp at e1
  subst e1
  constructor <;> try simp only [did_set (show 7 < L.size by omega)]
  · exact below_setRow b e2 _
  · simpa using h0
  · simpa using h1
  · simpa using h2
  · simpa using h3
  · intro hd
    have hd4 : did L 4 = true := by simpa using hd
    obtain ⟨k, k1, k2, k3⟩ := h4 hd4
    refine ⟨k, k1, k2, ?_⟩
    rw [setRow_other]
    · simpa using k3
    · rintro rfl
      exact hn hd4 hd5 (by rw [hg, k1])
  · intro _
    exact ⟨g, hg, e2, by rw [setRow_heap _ _ _ _ _ _ e3]; simp⟩
  · simpa using hn
  · simpa using h6
  · simpa using hd5

/-- What is there behind all. -/
theorem TwoI.all (hall : ∀ i, i < 8 → did L i = true) (h : TwoI A C fa fb W0 L v5 v6 v8 v9 v10 v11 w) :
    v8 = A ∧ v9 = .agg (rowA fa) ∧ v10 = C ∧ v11 = .agg (rowA fb) ∧ ∃ x y, x ≠ y ∧ v5 = .pointer (some ⟨x, 0, none⟩) ∧ v6 = .pointer (some ⟨y, 0, none⟩) ∧ W0.heap.size ≤ x ∧ W0.heap.size ≤ y ∧
      w.heap[x]? = some (.cells (rowA fa) 70 (0, 0)) ∧ w.heap[y]? = some (.cells (rowA fb) 70 (0, 0)) ∧ Below W0.heap.size W0 w := by
  obtain ⟨b, h0, h1, h2, h3, h4, h5, hn, h6, h7⟩ := h
  obtain ⟨x, x1, x2, x3⟩ := h4 (hall 4 (by omega))
  obtain ⟨y, y1, y2, y3⟩ := h5 (hall 5 (by omega))
  rw [hall 6 (by omega)] at x3
  rw [hall 7 (by omega)] at y3
  refine ⟨h0 (hall 0 (by omega)), h1 (hall 1 (by omega)), h2 (hall 2 (by omega)), h3 (hall 3 (by omega)), x, y, ?_, x1, y1, x2, y2, by simpa using x3, by simpa using y3, b⟩
  rintro rfl
  exact hn (hall 4 (by omega)) (hall 5 (by omega)) (by rw [x1, y1])

theorem store_wanted {P : Program} {ops : Array Oper} {o : Oper} {a : Act} {w : World} {K : Act → World → Prop} {Q : Exit → Act → World → Prop} {E : Prop} (hgd : o.guard = none) (h : Oper.wp P o a w K Q) :
    if Region.wanted o (yielded ops a.tmps) = true then Oper.wp P o a w K Q else E := by
  rw [if_pos (by simp [Region.wanted, hgd])]
  exact h

theorem BB_pow2 : B * B = 2 ^ 128 := by rw [B_pow, ← Nat.pow_add]

end Go.Proofs.Ytnknpgfconfgjaa
