/-
  Lemmas, joined: Clos, Find, Inv, Reg, Inv2, RegW, Ab, Ab2.
-/
import Derived.Test.YtpgpjaackaedhaaJD06
import Derived.Test.YtpgpjaackaedhaaJD01
import Derived.RegionTactic
/-
  What the closures of the maps tell.
-/
namespace Go.Proofs.Ytpgpjaackaedhaa
open Go.RowKit Go.Maps

/-- A sized number, as a value. -/
def szV (n : Nat) (k : Int) : Value := .agg #[.int .u64 ((n / B : Nat) : Int), .int .u64 ((n % B : Nat) : Int), .int .i64 k]
def oneN (b : Bool) : Nat := if b then 1 else 0
def NodeAt (w : World) (g : Nat) (op c1 c2 c3 c4 c5 : Int) : Prop := w.heap[g]? = some (.cells #[.int .u8 op, .int .i64 c1, .int .i64 c2, .int .i64 c3, .int .u64 c4, .int .u64 c5] 35 (0, 0))
theorem NodeAt.below {w w' : World} {g : Nat} {op c1 c2 c3 c4 c5 : Int} (h : NodeAt w g op c1 c2 c3 c4 c5) (hb : Below w.heap.size w w') : NodeAt w' g op c1 c2 c3 c4 c5 := (hb.block g (Array.getElem?_eq_some_iff.1 h).1).trans h

set_option maxRecDepth 100000 in
set_option maxHeartbeats 1000000 in
theorem one_any (b : Bool) (w : World) : Calls Try.prog 59 #[.bool b] w (RetNum w (oneN b)) := by
  have H1 : Hid (∀ W, Calls Try.prog 24 #[.int .u64 1] W fun e w' => e = .returned (.agg #[.int .u64 0, .int .u64 1]) ∧ Below W.heap.size W w') := fun W => numOf_any 1 (by unfold B; omega) W
  cases b
  · go_enter Try.func59, Try.ntmps59
    go_wp2_with fail
    exact bodyPost_ret (v := .agg #[.int .u64 0, .int .u64 0]) (by simp [results, Try.results59, go_sem]) rfl ⟨rfl, (by repeat (first | exact Below.refl _ _ | assumption | refine Below.drew ?_ | refine Below.alloc ?_ (by first | omega | (simp <;> omega)) _ | refine Below.setCell ?_ (by first | omega | (simp <;> omega)) _ | refine Below.trans ?_ (Below.mono (by assumption) (by first | omega | (simp <;> omega)))))⟩
  · go_enter Try.func59, Try.ntmps59
    go_wp2_with (go_at_call 24; refine (H1.out _).mono ?_; rintro e w1 ⟨rfl, hb⟩; obtain ⟨hc, hf⟩ := bcell hb; have hz := hb.size; simp at hz)
    exact bodyPost_ret (v := .agg #[.int .u64 0, .int .u64 1]) (by simp [results, Try.results59, go_sem, hc, hf, hz]) rfl ⟨rfl, (by repeat (first | exact Below.refl _ _ | assumption | refine Below.drew ?_ | refine Below.alloc ?_ (by first | omega | (simp <;> omega)) _ | refine Below.setCell ?_ (by first | omega | (simp <;> omega)) _ | refine Below.trans ?_ (Below.mono (by assumption) (by first | omega | (simp <;> omega)))))⟩

set_option maxRecDepth 100000 in
set_option maxHeartbeats 1000000 in
theorem clos_not (g : Nat) (op c1 c2 c3 c4 c5 : Int) (a : Nat) (k : Int) (w : World) (ha : a < B * B) (hg : NodeAt w g op c1 c2 c3 c4 c5) :
    Calls Try.prog 60 #[szV a k, .pointer (some ⟨g, 0, none⟩)] w (RetNum w ((a % 2 ^ sh c1) ^^^ (2 ^ sh c1 - 1))) := by
  have HC : Hid (∀ W, Calls Try.prog 61 #[numV a, .int .i64 c1] W (RetNum W ((a % 2 ^ sh c1) ^^^ (2 ^ sh c1 - 1)))) := fun W => numNot_any a c1 W ha
  unfold NodeAt at hg
  have hgl : g < w.heap.size := (Array.getElem?_eq_some_iff.1 hg).1
  have q1 : w.cell? ⟨g, 1, none⟩ = some (.int .i64 c1) := by simp [World.cell?, hg]
  have q2 : w.cell? ⟨g, 2, none⟩ = some (.int .i64 c2) := by simp [World.cell?, hg]
  have q3 : w.cell? ⟨g, 3, none⟩ = some (.int .i64 c3) := by simp [World.cell?, hg]
  generalize (a % 2 ^ sh c1) ^^^ (2 ^ sh c1 - 1) = r at *
  obtain ⟨y3, z3, he3, -, -⟩ := numV_parts r
  obtain ⟨y, z, he, ey, ez⟩ := numV_parts a
  have HR := Lib.hid he3
  unfold szV
  rw [← ey, ← ez]
  unfold RetNum at HC
  rw [he3, he] at HC
  have HZ : Hid (numV 0 = .agg #[.int .u64 0, .int .u64 0]) := rfl
  try rw [HZ.out] at HC
  clear he he3 ey ez hg ha
  go_enter Try.func60, Try.ntmps60
  go_wp2_with (go_at_call 61; refine (HC.out _).mono ?_; rintro e w1 ⟨rfl, hb⟩; obtain ⟨hc, hf⟩ := bcell hb; have hz := hb.size; simp at hz; have L1 : w.heap.size + 1 < w1.heap.size := by omega)
  exact bodyPost_ret (v := .agg #[.int .u64 (y3 : Int), .int .u64 (z3 : Int)]) (by simp [results, Try.results60, go_sem, hc, hf, L1]) rfl ⟨by rw [HR.out], (by repeat (first | exact Below.refl _ _ | assumption | refine Below.drew ?_ | refine Below.alloc ?_ (by first | omega | (simp <;> omega)) _ | refine Below.setCell ?_ (by first | omega | (simp <;> omega)) _ | refine Below.trans ?_ (Below.mono (by assumption) (by first | omega | (simp <;> omega)))))⟩

set_option maxRecDepth 100000 in
set_option maxHeartbeats 1000000 in
theorem clos_neg (g : Nat) (op c1 c2 c3 c4 c5 : Int) (a : Nat) (k : Int) (w : World) (ha : a < B * B) (hg : NodeAt w g op c1 c2 c3 c4 c5) :
    Calls Try.prog 62 #[szV a k, .pointer (some ⟨g, 0, none⟩)] w (RetNum w ((0 + (B * B - a)) % (B * B) % 2 ^ sh c1)) := by
  have HC : Hid (∀ W, Calls Try.prog 63 #[numV 0, numV a, .int .i64 c1] W (RetNum W ((0 + (B * B - a)) % (B * B) % 2 ^ sh c1))) := fun W => numSub_any 0 a c1 W (by unfold B; omega) ha
  unfold NodeAt at hg
  have hgl : g < w.heap.size := (Array.getElem?_eq_some_iff.1 hg).1
  have q1 : w.cell? ⟨g, 1, none⟩ = some (.int .i64 c1) := by simp [World.cell?, hg]
  have q2 : w.cell? ⟨g, 2, none⟩ = some (.int .i64 c2) := by simp [World.cell?, hg]
  have q3 : w.cell? ⟨g, 3, none⟩ = some (.int .i64 c3) := by simp [World.cell?, hg]
  generalize (0 + (B * B - a)) % (B * B) % 2 ^ sh c1 = r at *
  obtain ⟨y3, z3, he3, -, -⟩ := numV_parts r
  obtain ⟨y, z, he, ey, ez⟩ := numV_parts a
  have HR := Lib.hid he3
  unfold szV
  rw [← ey, ← ez]
  unfold RetNum at HC
  rw [he3, he] at HC
  have HZ : Hid (numV 0 = .agg #[.int .u64 0, .int .u64 0]) := rfl
  try rw [HZ.out] at HC
  clear he he3 ey ez hg ha
  go_enter Try.func62, Try.ntmps62
  go_wp2_with (go_at_call 63; refine (HC.out _).mono ?_; rintro e w1 ⟨rfl, hb⟩; obtain ⟨hc, hf⟩ := bcell hb; have hz := hb.size; simp at hz; have L1 : w.heap.size + 1 < w1.heap.size := by omega)
  exact bodyPost_ret (v := .agg #[.int .u64 (y3 : Int), .int .u64 (z3 : Int)]) (by simp [results, Try.results62, go_sem, hc, hf, L1]) rfl ⟨by rw [HR.out], (by repeat (first | exact Below.refl _ _ | assumption | refine Below.drew ?_ | refine Below.alloc ?_ (by first | omega | (simp <;> omega)) _ | refine Below.setCell ?_ (by first | omega | (simp <;> omega)) _ | refine Below.trans ?_ (Below.mono (by assumption) (by first | omega | (simp <;> omega)))))⟩

set_option maxRecDepth 100000 in
set_option maxHeartbeats 1000000 in
theorem clos_slice (g : Nat) (op c1 c2 c3 c4 c5 : Int) (a : Nat) (k : Int) (w : World) (ha : a < B * B) (hg : NodeAt w g op c1 c2 c3 c4 c5) (h0 : 0 ≤ c3) (h1 : c3 ≤ c2) (h2 : c2 < 128) :
    Calls Try.prog 64 #[szV a k, .pointer (some ⟨g, 0, none⟩)] w (RetNum w (a / 2 ^ sh c3 % 2 ^ sh (c2 - c3 + 1))) := by
  have HC : Hid (∀ W, Calls Try.prog 65 #[numV a, .int .i64 c2, .int .i64 c3] W (RetNum W (a / 2 ^ sh c3 % 2 ^ sh (c2 - c3 + 1)))) := fun W => numSlice_any a c2 c3 W ha h0 h1 h2
  unfold NodeAt at hg
  have hgl : g < w.heap.size := (Array.getElem?_eq_some_iff.1 hg).1
  have q1 : w.cell? ⟨g, 1, none⟩ = some (.int .i64 c1) := by simp [World.cell?, hg]
  have q2 : w.cell? ⟨g, 2, none⟩ = some (.int .i64 c2) := by simp [World.cell?, hg]
  have q3 : w.cell? ⟨g, 3, none⟩ = some (.int .i64 c3) := by simp [World.cell?, hg]
  generalize a / 2 ^ sh c3 % 2 ^ sh (c2 - c3 + 1) = r at *
  obtain ⟨y3, z3, he3, -, -⟩ := numV_parts r
  obtain ⟨y, z, he, ey, ez⟩ := numV_parts a
  have HR := Lib.hid he3
  unfold szV
  rw [← ey, ← ez]
  unfold RetNum at HC
  rw [he3, he] at HC
  have HZ : Hid (numV 0 = .agg #[.int .u64 0, .int .u64 0]) := rfl
  try rw [HZ.out] at HC
  clear he he3 ey ez hg ha
  go_enter Try.func64, Try.ntmps64
  go_wp2_with (go_at_call 65; refine (HC.out _).mono ?_; rintro e w1 ⟨rfl, hb⟩; obtain ⟨hc, hf⟩ := bcell hb; have hz := hb.size; simp at hz; have L1 : w.heap.size + 1 < w1.heap.size := by omega)
  exact bodyPost_ret (v := .agg #[.int .u64 (y3 : Int), .int .u64 (z3 : Int)]) (by simp [results, Try.results64, go_sem, hc, hf, L1]) rfl ⟨by rw [HR.out], (by repeat (first | exact Below.refl _ _ | assumption | refine Below.drew ?_ | refine Below.alloc ?_ (by first | omega | (simp <;> omega)) _ | refine Below.setCell ?_ (by first | omega | (simp <;> omega)) _ | refine Below.trans ?_ (Below.mono (by assumption) (by first | omega | (simp <;> omega)))))⟩

set_option maxRecDepth 100000 in
set_option maxHeartbeats 1000000 in
theorem clos_cat (a b : Nat) (k j : Int) (w : World) (ha : a < B * B) (hb : b < B * B) :
    Calls Try.prog 68 #[szV a k, szV b j] w (RetNum w ((a * 2 ^ sh j % (B * B) % 2 ^ sh 128) ||| (b % 2 ^ sh j))) := by
  have HC : Hid (∀ W, Calls Try.prog 69 #[numV a, numV b, .int .i64 j] W (RetNum W ((a * 2 ^ sh j % (B * B) % 2 ^ sh 128) ||| (b % 2 ^ sh j)))) := fun W => numCat_any a b j W ha hb
  generalize (a * 2 ^ sh j % (B * B) % 2 ^ sh 128) ||| (b % 2 ^ sh j) = r at *
  obtain ⟨y3, z3, he3, -, -⟩ := numV_parts r
  obtain ⟨y, z, he, ey, ez⟩ := numV_parts a
  obtain ⟨y1, z1, he1, ey1, ez1⟩ := numV_parts b
  have HR := Lib.hid he3
  unfold szV
  rw [← ey, ← ez, ← ey1, ← ez1]
  unfold RetNum at HC
  rw [he3, he, he1] at HC
  clear he he1 he3 ey ez ey1 ez1 ha hb
  go_enter Try.func68, Try.ntmps68
  go_wp2_with (go_at_call 69; refine (HC.out _).mono ?_; rintro e w1 ⟨rfl, hb⟩; obtain ⟨hc, hf⟩ := bcell hb; have hz := hb.size; simp at hz; have L1 : w.heap.size + 1 < w1.heap.size := by omega)
  exact bodyPost_ret (v := .agg #[.int .u64 (y3 : Int), .int .u64 (z3 : Int)]) (by simp [results, Try.results68, go_sem, hc, hf, L1]) rfl ⟨by rw [HR.out], (by repeat (first | exact Below.refl _ _ | assumption | refine Below.drew ?_ | refine Below.alloc ?_ (by first | omega | (simp <;> omega)) _ | refine Below.setCell ?_ (by first | omega | (simp <;> omega)) _ | refine Below.trans ?_ (Below.mono (by assumption) (by first | omega | (simp <;> omega)))))⟩

set_option maxRecDepth 100000 in
set_option maxHeartbeats 1000000 in
theorem clos_add (g : Nat) (op c1 c2 c3 c4 c5 : Int) (a b : Nat) (k j : Int) (w : World) (ha : a < B * B) (hb : b < B * B) (hg : NodeAt w g op c1 c2 c3 c4 c5) :
    Calls Try.prog 70 #[szV a k, szV b j, .pointer (some ⟨g, 0, none⟩)] w (RetNum w ((a + b) % (B * B) % 2 ^ sh c1)) := by
  have HC : Hid (∀ W, Calls Try.prog 71 #[numV a, numV b, .int .i64 c1] W (RetNum W ((a + b) % (B * B) % 2 ^ sh c1))) := fun W => numAdd_any a b c1 W ha hb
  unfold NodeAt at hg
  have hgl : g < w.heap.size := (Array.getElem?_eq_some_iff.1 hg).1
  have hgl1 : g < w.heap.size + 1 := by omega
  have hgl2 : g < w.heap.size + 1 + 1 := by omega
  have q1 : w.cell? ⟨g, 1, none⟩ = some (.int .i64 c1) := by simp [World.cell?, hg]
  clear hg
  generalize (a + b) % (B * B) % 2 ^ sh c1 = r at *
  obtain ⟨y3, z3, he3, -, -⟩ := numV_parts r
  obtain ⟨y, z, he, ey, ez⟩ := numV_parts a
  obtain ⟨y1, z1, he1, ey1, ez1⟩ := numV_parts b
  have HR := Lib.hid he3
  unfold szV
  rw [← ey, ← ez, ← ey1, ← ez1]
  unfold RetNum at HC
  rw [he3, he, he1] at HC
  clear he he1 he3 ey ez ey1 ez1 ha hb
  go_enter Try.func70, Try.ntmps70
  go_wp2_with (go_at_call 71; refine (HC.out _).mono ?_; rintro e w1 ⟨rfl, hb⟩; obtain ⟨hc, hf⟩ := bcell hb; have hz := hb.size; simp at hz; have L1 : w.heap.size + 1 < w1.heap.size := by omega)
  exact bodyPost_ret (v := .agg #[.int .u64 (y3 : Int), .int .u64 (z3 : Int)]) (by simp [results, Try.results70, go_sem, hc, hf, L1]) rfl ⟨by rw [HR.out], (by repeat (first | exact Below.refl _ _ | assumption | refine Below.drew ?_ | refine Below.alloc ?_ (by first | omega | (simp <;> omega)) _ | refine Below.setCell ?_ (by first | omega | (simp <;> omega)) _ | refine Below.trans ?_ (Below.mono (by assumption) (by first | omega | (simp <;> omega)))))⟩

set_option maxRecDepth 100000 in
set_option maxHeartbeats 1000000 in
theorem clos_sub (g : Nat) (op c1 c2 c3 c4 c5 : Int) (a b : Nat) (k j : Int) (w : World) (ha : a < B * B) (hb : b < B * B) (hg : NodeAt w g op c1 c2 c3 c4 c5) :
    Calls Try.prog 72 #[szV a k, szV b j, .pointer (some ⟨g, 0, none⟩)] w (RetNum w ((a + (B * B - b)) % (B * B) % 2 ^ sh c1)) := by
  have HC : Hid (∀ W, Calls Try.prog 63 #[numV a, numV b, .int .i64 c1] W (RetNum W ((a + (B * B - b)) % (B * B) % 2 ^ sh c1))) := fun W => numSub_any a b c1 W ha hb
  unfold NodeAt at hg
  have hgl : g < w.heap.size := (Array.getElem?_eq_some_iff.1 hg).1
  have hgl1 : g < w.heap.size + 1 := by omega
  have hgl2 : g < w.heap.size + 1 + 1 := by omega
  have q1 : w.cell? ⟨g, 1, none⟩ = some (.int .i64 c1) := by simp [World.cell?, hg]
  clear hg
  generalize (a + (B * B - b)) % (B * B) % 2 ^ sh c1 = r at *
  obtain ⟨y3, z3, he3, -, -⟩ := numV_parts r
  obtain ⟨y, z, he, ey, ez⟩ := numV_parts a
  obtain ⟨y1, z1, he1, ey1, ez1⟩ := numV_parts b
  have HR := Lib.hid he3
  unfold szV
  rw [← ey, ← ez, ← ey1, ← ez1]
  unfold RetNum at HC
  rw [he3, he, he1] at HC
  clear he he1 he3 ey ez ey1 ez1 ha hb
  go_enter Try.func72, Try.ntmps72
  go_wp2_with (go_at_call 63; refine (HC.out _).mono ?_; rintro e w1 ⟨rfl, hb⟩; obtain ⟨hc, hf⟩ := bcell hb; have hz := hb.size; simp at hz; have L1 : w.heap.size + 1 < w1.heap.size := by omega)
  exact bodyPost_ret (v := .agg #[.int .u64 (y3 : Int), .int .u64 (z3 : Int)]) (by simp [results, Try.results72, go_sem, hc, hf, L1]) rfl ⟨by rw [HR.out], (by repeat (first | exact Below.refl _ _ | assumption | refine Below.drew ?_ | refine Below.alloc ?_ (by first | omega | (simp <;> omega)) _ | refine Below.setCell ?_ (by first | omega | (simp <;> omega)) _ | refine Below.trans ?_ (Below.mono (by assumption) (by first | omega | (simp <;> omega)))))⟩

set_option maxRecDepth 100000 in
set_option maxHeartbeats 1000000 in
theorem clos_lt (a b : Nat) (k j : Int) (w : World) (ha : a < B * B) (hb : b < B * B) :
    Calls Try.prog 78 #[szV a k, szV b j] w (RetNum w (oneN (decide (a < b)))) := by
  have HC : Hid (∀ W, Calls Try.prog 79 #[numV a, numV b] W fun e w' => e = .returned (.int .i64 (cmpI a b)) ∧ Below W.heap.size W w') := fun W => numCmp_any a b W ha hb
  have HO : Hid (∀ (t : Bool) W, Calls Try.prog 59 #[.bool t] W (RetNum W (oneN t))) := fun t W => one_any t W
  have HT : Hid (decide (cmpI a b < 0) = decide (a < b)) := by
    show _ = _
    unfold cmpI
    split
    · simp; omega
    · split <;> simp <;> omega
  obtain ⟨y, z, he, ey, ez⟩ := numV_parts a
  obtain ⟨y1, z1, he1, ey1, ez1⟩ := numV_parts b
  unfold szV
  rw [← ey, ← ez, ← ey1, ← ez1]
  rw [he, he1] at HC
  generalize cmpI a b = c at *
  clear he he1 ey ez ey1 ez1 ha hb
  go_enter Try.func78, Try.ntmps78
  go_wp2_with (go_at_call 79; refine (HC.out _).mono ?_; rintro e w1 ⟨rfl, hb⟩; obtain ⟨hc, hf⟩ := bcell hb; have hz := hb.size; simp at hz; have L1 : w.heap.size + 1 < w1.heap.size := by omega)
  rw [HT.out]
  have HO1 := HO.out (decide (a < b))
  generalize oneN (decide (a < b)) = r at *
  obtain ⟨y3, z3, he3, -, -⟩ := numV_parts r
  have HR := Lib.hid he3
  unfold RetNum at HO1
  rw [he3] at HO1
  refine (HO1 _).mono ?_
  rintro e w2 ⟨rfl, hb2⟩
  obtain ⟨hc2, hf2⟩ := bcell hb2
  have hz2 := hb2.size
  have L2 : w.heap.size + 1 < w2.heap.size := by omega
  have L3 : w.heap.size + 1 + 1 < w1.heap.size := by omega
  have L4 : w.heap.size + 1 + 1 < w2.heap.size := by omega
  clear HO1
  go_wp2_with fail
  exact bodyPost_ret (v := .agg #[.int .u64 (y3 : Int), .int .u64 (z3 : Int)]) (by simp [results, Try.results78, go_sem, hc, hf, hc2, hf2, L1, L2, L3, L4]) rfl ⟨by rw [HR.out], (by repeat (first | exact Below.refl _ _ | assumption | refine Below.drew ?_ | refine Below.alloc ?_ (by first | omega | (simp <;> omega)) _ | refine Below.setCell ?_ (by first | omega | (simp <;> omega)) _ | refine Below.trans ?_ (Below.mono (by assumption) (by first | omega | (simp <;> omega)))))⟩

set_option maxRecDepth 100000 in
set_option maxHeartbeats 1000000 in
theorem clos_le (a b : Nat) (k j : Int) (w : World) (ha : a < B * B) (hb : b < B * B) :
    Calls Try.prog 80 #[szV a k, szV b j] w (RetNum w (oneN (decide (a ≤ b)))) := by
  have HC : Hid (∀ W, Calls Try.prog 79 #[numV a, numV b] W fun e w' => e = .returned (.int .i64 (cmpI a b)) ∧ Below W.heap.size W w') := fun W => numCmp_any a b W ha hb
  have HO : Hid (∀ (t : Bool) W, Calls Try.prog 59 #[.bool t] W (RetNum W (oneN t))) := fun t W => one_any t W
  have HT : Hid (decide (cmpI a b ≤ 0) = decide (a ≤ b)) := by
    show _ = _
    unfold cmpI
    split
    · simp; omega
    · split <;> simp <;> omega
  obtain ⟨y, z, he, ey, ez⟩ := numV_parts a
  obtain ⟨y1, z1, he1, ey1, ez1⟩ := numV_parts b
  unfold szV
  rw [← ey, ← ez, ← ey1, ← ez1]
  rw [he, he1] at HC
  generalize cmpI a b = c at *
  clear he he1 ey ez ey1 ez1 ha hb
  go_enter Try.func80, Try.ntmps80
  go_wp2_with (go_at_call 79; refine (HC.out _).mono ?_; rintro e w1 ⟨rfl, hb⟩; obtain ⟨hc, hf⟩ := bcell hb; have hz := hb.size; simp at hz; have L1 : w.heap.size + 1 < w1.heap.size := by omega)
  rw [HT.out]
  have HO1 := HO.out (decide (a ≤ b))
  generalize oneN (decide (a ≤ b)) = r at *
  obtain ⟨y3, z3, he3, -, -⟩ := numV_parts r
  have HR := Lib.hid he3
  unfold RetNum at HO1
  rw [he3] at HO1
  refine (HO1 _).mono ?_
  rintro e w2 ⟨rfl, hb2⟩
  obtain ⟨hc2, hf2⟩ := bcell hb2
  have hz2 := hb2.size
  have L2 : w.heap.size + 1 < w2.heap.size := by omega
  have L3 : w.heap.size + 1 + 1 < w1.heap.size := by omega
  have L4 : w.heap.size + 1 + 1 < w2.heap.size := by omega
  clear HO1
  go_wp2_with fail
  exact bodyPost_ret (v := .agg #[.int .u64 (y3 : Int), .int .u64 (z3 : Int)]) (by simp [results, Try.results80, go_sem, hc, hf, hc2, hf2, L1, L2, L3, L4]) rfl ⟨by rw [HR.out], (by repeat (first | exact Below.refl _ _ | assumption | refine Below.drew ?_ | refine Below.alloc ?_ (by first | omega | (simp <;> omega)) _ | refine Below.setCell ?_ (by first | omega | (simp <;> omega)) _ | refine Below.trans ?_ (Below.mono (by assumption) (by first | omega | (simp <;> omega)))))⟩

end Go.Proofs.Ytpgpjaackaedhaa

/-
  A region of a function's code, by its number.
-/
namespace Go.Proofs.Ytpgpjaackaedhaa
open Go.RowKit

def findRegion (n : Nat) : Code → Option Code
  | .region k ops any => if k = n then some (.region k ops any) else none
  | .seq a b => match findRegion n a with
    | some c => some c
    | none => findRegion n b
  | .block _ c => findRegion n c
  | .scope c => findRegion n c
  | .loop c => findRegion n c
  | .cond _ a b => match findRegion n a with
    | some c => some c
    | none => findRegion n b
  | _ => none

end Go.Proofs.Ytpgpjaackaedhaa

/-
  A region that draws its order, by an invariant over what has been done.
-/
namespace Go.Proofs.Ytpgpjaackaedhaa
open Go.RowKit

/-- Has an operation been done? -/
def did (L : Array Bool) (i : Nat) : Bool := L.getD i false

theorem did_set {L : Array Bool} {i j : Nat} (hi : i < L.size) : did (L.setIfInBounds i true) j = (decide (j = i) || did L j) := by
  unfold did
  by_cases h : i = j
  · subst h
    simp [hi]
  · rw [getD_set_ne false h]
    have : decide (j = i) = false := by simp; omega
    rw [this, Bool.false_or]

theorem did_none (n i : Nat) : did (Array.replicate n false) i = false := by
  unfold did
  rw [Array.getD_eq_getD_getElem?, Array.getElem?_replicate]
  split <;> rfl
theorem filter_le {p q : Nat → Bool} (h : ∀ j, q j = true → p j = true) : ∀ l : List Nat, (l.filter q).length ≤ (l.filter p).length
  | [] => Nat.le_refl _
  | x :: l => by
    have ih := filter_le h l
    rw [List.filter_cons, List.filter_cons]
    cases hq : q x
    · simp only [Bool.false_eq_true, if_false]
      split
      · simp only [List.length_cons]; omega
      · exact ih
    · rw [h x hq]
      simp only [if_true, List.length_cons]
      omega
theorem filter_lt {p q : Nat → Bool} (h : ∀ j, q j = true → p j = true) {i : Nat} (hp : p i = true) (hq : q i = false) : ∀ l : List Nat, i ∈ l → (l.filter q).length < (l.filter p).length
  | [], hi => by cases hi
  | x :: l, hi => by
    rw [List.filter_cons, List.filter_cons]
    by_cases e : x = i
    · subst e
      have := filter_le h l
      rw [hp, hq]
      simp only [Bool.false_eq_true, if_false, if_true, List.length_cons]
      omega
    · have ih := filter_lt h hp hq l (by
        rcases List.mem_cons.1 hi with h1 | h1
        · exact absurd h1.symm e
        · exact h1)
      cases hq' : q x
      · simp only [Bool.false_eq_true, if_false]
        split
        · simp only [List.length_cons]; omega
        · exact ih
      · rw [h x hq']
        simp only [if_true, List.length_cons]
        omega

theorem wpAny_inv {P : Program} {md : Region.Mode} {ops : Array Oper} {Q : Exit → Act → World → Prop} (I : Array Bool → Act → World → Prop)
    (hstep : ∀ L a w i, L.size = ops.size → i < ops.size → did L i = false → (∀ o, ops[i]? = some o → ∀ e ∈ o.after, Region.binds md e = true → did L e.on = true) → I L a w → wpOp P ops Q i (I (L.setIfInBounds i true)) a w)
    (hend : ∀ L a w, L.size = ops.size → Region.ready md ops L = [] → I L a w → Q .normal a w) :
    ∀ (n : Nat) (L : Array Bool) (a : Act) (w : World), L.size = ops.size → (∀ i, i < ops.size → did L i = false → 0 < n) → (Region.ready md ops L).length ≤ ops.size → ((List.range ops.size).filter fun i => !did L i).length ≤ n → I L a w → wpAny P md ops Q n L a w := by
  intro n
  induction n with
  | zero =>
    intro L a w hL hn _ hlen hI
    have hr : Region.ready md ops L = [] := by
      rw [List.eq_nil_iff_forall_not_mem]
      intro i hi
      obtain ⟨h1, o, ho, -⟩ := mem_ready.1 hi
      have hlt : i < ops.size := (Array.getElem?_eq_some_iff.1 ho).1
      have : did L i = false := by unfold did; simpa [hL, hlt] using h1
      exact absurd (hn i hlt this) (by omega)
    exact ⟨hr, hend L a w hL hr hI⟩
  | succ n ih =>
    intro L a w hL hn hrl hlen hI
    refine ⟨fun hr => hend L a w hL hr hI, fun i hi => ?_⟩
    obtain ⟨h1, o, ho, hall⟩ := mem_ready.1 hi
    have hlt : i < ops.size := (Array.getElem?_eq_some_iff.1 ho).1
    have hd : did L i = false := by unfold did; simpa [hL, hlt] using h1
    refine wpOp_mono (fun a' w' hI' => ?_) (hstep L a w i hL hlt hd (fun o' ho' e he hb => by rw [ho] at ho'; cases ho'; exact hall e he hb) hI)
    have hset : ((List.range ops.size).filter fun j => !did (L.setIfInBounds i true) j).length < ((List.range ops.size).filter fun j => !did L j).length := by
      refine filter_lt (fun j hj => ?_) (i := i) (by simp [hd]) (by rw [did_set (by omega)]; simp) _ (List.mem_range.2 hlt)
      rw [did_set (by omega)] at hj
      cases h : did L j
      · rfl
      · rw [h] at hj; simp at hj
    refine ih _ a' w' (by simpa using hL) (fun j hj hdj => ?_) ?_ (by omega) hI'
    · rcases Nat.eq_zero_or_pos n with h0 | h0
      · exfalso
        have hm : j ∈ (List.range ops.size).filter fun j => !did (L.setIfInBounds i true) j := by
          rw [List.mem_filter, List.mem_range]
          exact ⟨hj, by simp [hdj]⟩
        have := List.length_pos_of_mem hm
        omega
      · exact h0
    · unfold Region.ready
      exact Nat.le_trans (List.length_filter_le _ _) (by simp)

end Go.Proofs.Ytpgpjaackaedhaa

/-
  Regions that draw their order and make memory beside calls: what holds whatever has been done.
-/
namespace Go.Proofs.Ytpgpjaackaedhaa
open Go.RowKit Go.Maps

def nth (l : List Value) (i : Nat) : Value := l.getD i undef
theorem nth_set {l : List Value} {i j : Nat} {v : Value} : nth (l.set i v) j = if i = j ∧ i < l.length then v else nth l j := by
  unfold nth
  rw [List.getD_eq_getElem?_getD, List.getD_eq_getElem?_getD, List.getElem?_set]
  by_cases h : i = j
  · subst h
    rw [if_pos rfl]
    by_cases h2 : i < l.length
    · rw [if_pos h2, if_pos ⟨rfl, h2⟩]; rfl
    · rw [if_neg h2, if_neg (by omega), List.getElem?_eq_none (by omega)]
  · rw [if_neg h, if_neg (by omega)]
theorem nth_same {l : List Value} {i : Nat} {v : Value} (h : i < l.length) : nth (l.set i v) i = v := by rw [nth_set, if_pos ⟨rfl, h⟩]
theorem nth_other {l : List Value} {i j : Nat} {v : Value} (h : i ≠ j) : nth (l.set i v) j = nth l j := by rw [nth_set, if_neg (by omega)]

theorem did_other {L : Array Bool} {i j : Nat} (h : j ≠ i) : did (L.setIfInBounds i true) j = did L j := by
  by_cases hi : i < L.size
  · rw [did_set hi, decide_eq_false h, Bool.false_or]
  · rw [show L.setIfInBounds i true = L by rw [Array.setIfInBounds_eq_of_size_le (by omega)]]
theorem did_same {L : Array Bool} {i : Nat} (hi : i < L.size) : did (L.setIfInBounds i true) i = true := by rw [did_set hi]; simp

end Go.Proofs.Ytpgpjaackaedhaa

/-
  A region that draws its order, by an invariant over what has been done: only the edges that bind.
-/
namespace Go.Proofs.Ytpgpjaackaedhaa
open Go.RowKit Go.Maps

theorem wp_region_inv2 {P : Program} {ops : Array Oper} {Q : Exit → Act → World → Prop} {id : Nat} {a : Act} {w : World} (hm : P.follows .mixedOrders = true) (I : Array Bool → Act → World → Prop)
    (h0 : I (Array.replicate ops.size false) a w.drew)
    (hstep : ∀ L a w i, L.size = ops.size → i < ops.size → did L i = false → (∀ o, ops[i]? = some o → ∀ e ∈ o.after, Region.binds .any e = true → did L e.on = true) → I L a w → wpOp P ops Q i (I (L.setIfInBounds i true)) a w)
    (hback : ∀ (i : Nat) (o : Oper), ops[i]? = some o → ∀ e ∈ o.after, Region.binds .any e = true → e.on < i)
    (hend : ∀ L a w, (∀ i, i < ops.size → did L i = true) → I L a w → Q .normal a w) : (Code.region id ops true).wp P Q a w := by
  refine wp_region_any hm (wpAny_inv I hstep (fun L a w hL hr hI => hend L a w ?_ hI) ops.size _ a _ (by simp) (fun i hi _ => by omega) ?_ ?_ h0)
  · intro i
    induction i using Nat.strongRecOn with
    | _ i ih =>
      intro hi
      cases hd : did L i
      · exfalso
        have : i ∈ Region.ready .any ops L := by
          rw [mem_ready]
          refine ⟨?_, ops[i], Array.getElem?_eq_getElem hi, fun e he hb => ?_⟩
          · unfold did at hd
            simpa [hL, hi] using hd
          · have hlt := hback i _ (Array.getElem?_eq_getElem hi) e he hb
            exact ih e.on hlt (by omega)
        rw [hr] at this
        cases this
      · rfl
  · unfold Region.ready
    exact Nat.le_trans (List.length_filter_le _ _) (by simp)
  · exact Nat.le_trans (List.length_filter_le _ _) (by simp)

end Go.Proofs.Ytpgpjaackaedhaa

/-
  Regions that draw their order and make memory: what each operation tells, and of which blocks of its own; what holds whatever has been done.
-/
namespace Go.Proofs.Ytpgpjaackaedhaa
open Go.RowKit Go.Maps

/-- What is told of an operation: of its own blocks, the world, the values it hangs on, its own value. -/
abbrev Tw := (Nat → Prop) → World → List Value → Value → Prop

/-- kd: on which others an operation's value hangs, and what is told of it and of its own blocks; dep: the old blocks that facts may hang on; G: what holds of the world besides. -/
structure Rw where
  n0 : Nat
  dep : Nat → Prop
  kd : List (List Nat × Tw)
  G : Array Bool → List Value → World → Prop

def NewB (w w' : World) (k : Nat) : Prop := w.heap.size ≤ k ∧ k < w'.heap.size

structure RWg (S : Rw) (L : Array Bool) (l : List Value) (w : World) (B : Nat → Nat → Prop) : Prop where
  glob : S.G L l w
  size : S.n0 ≤ w.heap.size
  ok : ∀ (i : Nat) (js : List Nat) (P : Tw), did L i = true → S.kd[i]? = some (js, P) → (∀ j ∈ js, did L j = true) ∧ P (B i) w (js.map (nth l)) (nth l i)
  blk : ∀ i k, did L i = true → B i k → S.n0 ≤ k ∧ k < w.heap.size
  apart : ∀ i j k, did L i = true → did L j = true → B i k → B j k → i = j
def RW (S : Rw) (L : Array Bool) (l : List Value) (w : World) : Prop := ∃ B, RWg S L l w B

structure Rw.Fine (S : Rw) : Prop where
  old : ∀ k, S.dep k → k < S.n0
  stab : ∀ (i : Nat) (js : List Nat) (P : Tw), S.kd[i]? = some (js, P) → ∀ (B : Nat → Prop) (w w' : World) (ls : List Value) (v : Value), P B w ls v → (∀ k, B k → k < w.heap.size) → (∀ k, B k ∨ S.dep k → w'.heap[k]? = w.heap[k]?) → w.heap.size ≤ w'.heap.size → P B w' ls v

variable {S : Rw} {w w' : World} {L : Array Bool} {l : List Value}
theorem RW.init (h : ∀ i, did L i = false) (hs : S.n0 ≤ w.heap.size) (hG : S.G L l w) : RW S L l w :=
  ⟨fun _ _ => False, hG, hs, (fun i js P h1 => by rw [h] at h1; cases h1), (fun i k h1 => by rw [h] at h1; cases h1), fun i j k h1 => by rw [h] at h1; cases h1⟩
theorem RW.glob (h : RW S L l w) : S.G L l w := by obtain ⟨B, h⟩ := h; exact h.glob
theorem RWg.turn {B : Nat → Nat → Prop} (i : Nat) (v : Value) {js : List Nat} {P : Tw} (h : RWg S L l w B) (hn : did L i = false) (hL : i < L.size) (hl : i < l.length) (hk : S.kd[i]? = some (js, P)) (hjs : ∀ j ∈ js, did L j = true) (hsz : w.heap.size ≤ w'.heap.size)
    (hold : ∀ (j : Nat) (js' : List Nat) (P' : Tw), did L j = true → S.kd[j]? = some (js', P') → P' (B j) w (js'.map (nth l)) (nth l j) → P' (B j) w' (js'.map (nth l)) (nth l j))
    (hG : S.G (L.setIfInBounds i true) (l.set i v) w') (hnew : P (NewB w w') w' (js.map (nth l)) v) : RW S (L.setIfInBounds i true) (l.set i v) w' := by
  have keep : ∀ js : List Nat, (∀ j ∈ js, did L j = true) → js.map (nth (l.set i v)) = js.map (nth l) := fun js hjs => List.map_congr_left fun j hj => nth_other (fun q => by have := hjs j hj; rw [← q, hn] at this; cases this)
  have dd : ∀ j, did L j = true → did (L.setIfInBounds i true) j = true := fun j hj => by
    by_cases e : j = i
    · subst e; exact did_same hL
    · rw [did_other e]; exact hj
  refine ⟨fun j k => if j = i then NewB w w' k else B j k, hG, Nat.le_trans h.size hsz, fun j js' P' hj hk' => ?_, fun j k hj hb => ?_, fun j m k hj hm hb hc => ?_⟩
  · by_cases e : j = i
    · subst e
      rw [hk] at hk'
      cases hk'
      refine ⟨fun m hm => dd m (hjs m hm), ?_⟩
      rw [keep _ hjs, nth_same hl]
      simpa using hnew
    · rw [did_other e] at hj
      obtain ⟨a1, a2⟩ := h.ok j js' P' hj hk'
      refine ⟨fun m hm => dd m (a1 m hm), ?_⟩
      rw [keep _ a1, nth_other (fun q => e q.symm)]
      have := hold j js' P' hj hk' a2
      simpa [e] using this
  · by_cases e : j = i
    · subst e
      simp only [if_pos] at hb
      exact ⟨Nat.le_trans h.size hb.1, hb.2⟩
    · rw [did_other e] at hj
      simp only [e, if_false] at hb
      have := h.blk j k hj hb
      omega
  · by_cases e : j = i <;> by_cases e2 : m = i
    · rw [e, e2]
    · exfalso
      simp only [e, e2, if_true, if_false] at hb hc
      rw [did_other e2] at hm
      have := (h.blk m k hm hc).2
      have := hb.1
      omega
    · exfalso
      simp only [e, e2, if_true, if_false] at hb hc
      rw [did_other e] at hj
      have := (h.blk j k hj hb).2
      have := hc.1
      omega
    · simp only [e, e2, if_false] at hb hc
      rw [did_other e] at hj
      rw [did_other e2] at hm
      exact h.apart j m k hj hm hb hc

end Go.Proofs.Ytpgpjaackaedhaa

/-
  Regions that draw their order over a frame that is not written out: the slots that the region writes are a list's.
-/
namespace Go.Proofs.Ytpgpjaackaedhaa
open Go.RowKit Go.Maps

section
variable {lo : Nat} {T l : List Value}
end

theorem list_nth : ∀ {n : Nat} {l : List Value}, l.length = n → (List.range n).map (nth l) = l := by
  intro n l h
  refine List.ext_getElem (by simp [h]) fun i h1 h2 => ?_
  simp only [List.getElem_map, List.getElem_range]
  unfold nth
  rw [List.getD_eq_getElem?_getD, List.getElem?_eq_getElem h2]; rfl

/-- The region's own condition stays whatever is done. -/
def GStays (S : Rw) : Prop := ∀ (i : Nat) (v : Value) (L : Array Bool) (l : List Value) (w w' : World), Below w.heap.size w w' → S.G L l w → S.G (L.setIfInBounds i true) (l.set i v) w'

section
variable {P : Program} {S : Rw} {n lo : Nat} {T l : List Value} {L : Array Bool} {ops : Array Oper} {i : Nat} {o : Oper} {w : World} {Q : Exit → Act → World → Prop}

theorem wanted_un {t : Array Value} (h : o.guard = none) : Region.wanted o (yielded ops t) = true := by unfold Region.wanted; rw [h]
/-- What a step stands on. -/
structure At (S : Rw) (n lo : Nat) (T : List Value) (L : Array Bool) (l : List Value) (w : World) (i : Nat) : Prop where
  len : l.length = n
  size : L.size = n
  lt : i < n
  old : lo ≤ T.length
  fine : S.Fine
  stays : GStays S
  non : did L i = false
  rw : RW S L l w

-- what single operations yield
variable {ev : Operand → Value} {v : Value}
theorem ex_move {x : Operand} (h : o.op = .move x) (hv : ev x = v) : (execOp ev o).run P w = .ok (.value v) w := by
  unfold execOp; rw [h, ← hv]; rfl
theorem ex_call {c : Call} {x : Operand} {f : FuncId} {cap args all : Array Value} (h : o.op = .call c) (hc : c.callee = .value x) (hx : ev x = .func (.func f) #[] cap) (ha : c.args.map ev = args) (hall : args ++ cap = all) (hf : ∀ av W, (callFunc f av).run P W = .ok (.enter f av) W) : (execOp ev o).run P w = .ok (.enter f all) w := by
  subst hall; unfold execOp resolve; rw [h]; simp [go_sem, hc, hx, ha, hf]
end

/-- An operation hangs on another one. -/
theorem dep_of {i a : Nat} {L : Array Bool} {ops : Array Oper} (hb : (ops[i]?.map fun o => o.after.any fun e => decide (e.on = a) && Region.binds .any e) = some true) (hdep : ∀ o, ops[i]? = some o → ∀ e ∈ o.after, Region.binds .any e = true → did L e.on = true) : did L a = true := by
  cases h : ops[i]? with
  | none => rw [h] at hb; cases hb
  | some o =>
    rw [h] at hb
    simp only [Option.map_some, Option.some.injEq, Array.any_eq_true'] at hb
    obtain ⟨e, he, h2⟩ := hb
    simp only [Bool.and_eq_true, decide_eq_true_eq] at h2
    rw [← h2.1]
    exact hdep o h e he h2.2

end Go.Proofs.Ytpgpjaackaedhaa

/-
  Regions that draw their order over a frame that is not written out, wherever the slots lie that the region writes; operations without a slot; a condition that turns on what has been done.
-/
namespace Go.Proofs.Ytpgpjaackaedhaa
open Go.RowKit Go.Maps

/-- Which operation writes a slot. -/
def slotOf : List (Option Nat) → Nat → Option Nat
  | [], _ => none
  | d :: ds, s => if d = some s then some 0 else (slotOf ds s).map (· + 1)
def pickF (ds : List (Option Nat)) (T l : List Value) (s : Nat) : Value := match slotOf ds s with | some i => nth l i | none => nth T s
/-- An act whose slots are l's where the region writes, else T's. -/
def frm2 (ds : List (Option Nat)) (T l : List Value) : Act := ⟨((List.range T.length).map (pickF ds T l)).toArray, []⟩

theorem slotOf_spec : ∀ {ds : List (Option Nat)} {s i : Nat}, slotOf ds s = some i → ds[i]? = some (some s)
  | [], _, _, h => by cases h
  | d :: ds, s, i, h => by
    unfold slotOf at h
    split at h
    · rename_i e; cases h; rw [e]; rfl
    · cases q : slotOf ds s with
      | none => rw [q] at h; cases h
      | some j => rw [q] at h; cases h; exact slotOf_spec (ds := ds) q

section
variable {ds : List (Option Nat)} {T l : List Value}
theorem frm2_at {s : Nat} (h : s < T.length) : (frm2 ds T l).tmps[s]? = some (pickF ds T l s) := by
  unfold frm2; simp [h]
theorem frm2_eval {s : Nat} (h : s < T.length) : (frm2 ds T l).eval (.tmp s) = pickF ds T l s := by
  show (frm2 ds T l).tmps.getD s undef = _
  rw [Array.getD_eq_getD_getElem?, frm2_at h]; rfl
theorem frm2_new {s i : Nat} (h : s < T.length) (hs : slotOf ds s = some i) : (frm2 ds T l).eval (.tmp s) = nth l i := by
  rw [frm2_eval h]; unfold pickF; rw [hs]
theorem frm2_old {s : Nat} (h : s < T.length) (hs : slotOf ds s = none) : (frm2 ds T l).eval (.tmp s) = nth T s := by
  rw [frm2_eval h]; unfold pickF; rw [hs]
theorem frm2_put {d i : Nat} (v : Value) (hs : slotOf ds d = some i) (h : i < l.length) : (frm2 ds T l).put (some d) v = frm2 ds T (l.set i v) := by
  unfold frm2 Act.put
  simp only [Act.mk.injEq, and_true]
  apply Array.ext
  · simp
  · intro j h1 h2
    simp only [Array.size_setIfInBounds, List.size_toArray, List.length_map, List.length_range] at h1
    rw [Array.getElem_setIfInBounds (by simpa using h1)]
    simp only [List.getElem_toArray, List.getElem_map, List.getElem_range]
    by_cases e : d = j
    · subst e
      rw [if_pos rfl]
      unfold pickF; rw [hs]
      exact (nth_same h).symm
    · rw [if_neg e]
      unfold pickF
      cases q : slotOf ds j with
      | none => rfl
      | some k =>
        have hne : i ≠ k := fun q2 => by
          have h1 := slotOf_spec hs
          have h2 := slotOf_spec q
          rw [q2, h2] at h1
          cases h1
          exact e rfl
        exact (nth_other hne).symm
end

def SJ (S : Rw) (n : Nat) (ds : List (Option Nat)) (T : List Value) (L : Array Bool) (a : Act) (w : World) : Prop := ∃ l : List Value, l.length = n ∧ L.size = n ∧ a = frm2 ds T l ∧ RW S L l w

section
variable {P : Program} {S : Rw} {n : Nat} {ds : List (Option Nat)} {T l : List Value} {L : Array Bool} {ops : Array Oper} {i : Nat} {o : Oper} {w w' : World} {Q : Exit → Act → World → Prop} {v : Value}

end

end Go.Proofs.Ytpgpjaackaedhaa
