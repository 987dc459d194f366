/-
  Lemmas, joined: ActB, ActV, NodeA.
-/
import Derived.Test.YtehcclcokgmplaaJA19
import Derived.Test.YtehcclcokgmplaaJA08
import Derived.Test.YtehcclcokgmplaaJA10
import Derived.Deep.RegionHeld3
/-
  What the machine's leaves tell: a field, metadata, a parameter, the port, whether a header is valid.
-/
namespace Go.Proofs.Ytehcclcokgmplaa
open Go.RowKit

/-- What a leaf answers. -/
def LeafR (base X : Nat) (x : Pkt) (r v f mm : Value) (fs : List Value) (S : Nat → Prop) (w : World) (n : Nat) (A : Bool) (e : Ending) (w' : World) : Prop :=
  e = .returned (.tuple #[numV n, .bool true]) ∧ PktB base w' X (x.acc A) r v f mm fs ∧ Fr S w w'

set_option maxRecDepth 100000 in
set_option maxHeartbeats 6400000 in
theorem lf_meta {base : Nat} {w : World} {X m : Nat} {x : Pkt} {r v f mm ga : Value} {fs : List Value} (hP : PktB base w X x r v f mm fs) (h0 : w.cell? ⟨m, 0, none⟩ = some (.pointer (some ⟨X, 0, none⟩))) (h1 : w.cell? ⟨m, 1, none⟩ = some ga) (k c4 c5 : Int) {i n : Nat} (hn : x.metas[i]? = some n) (bb : Int) :
    Calls Try.prog 45 #[.pointer (some ⟨m, 0, none⟩), nodeV 3 k (i : Int) bb c4 c5] w (LeafR base X x r v f mm fs (· = X) w (n) (false)) := by
  have HP := Lib.hid hP
  have HM : Hid (∀ W, Below w.heap.size w W → W.cell? ⟨m, 0, none⟩ = some (.pointer (some ⟨X, 0, none⟩)) ∧ W.cell? ⟨m, 1, none⟩ = some ga) := fun W hb => ⟨(hb.cell (cell_there h0).1).trans h0, (hb.cell (cell_there h1).1).trans h1⟩
  have HAM : Hid (∀ W, Below w.heap.size w W → Calls Try.prog 52 #[mm, .int .i64 (i : Int)] W (RetNum W n)) := fun W hb => among_any (hP.below hb).hm.row hn
  obtain ⟨R, hR⟩ : ∃ R, R = n := ⟨_, rfl⟩
  obtain ⟨y3, z3, he3, -, -⟩ := numV_parts R
  have HE3 : Hid (numV (n) = .agg #[.int .u64 (y3 : Int), .int .u64 (z3 : Int)]) := by show _ = _; rw [← hR]; exact he3
  rw [← hR]
  have HR3 := Lib.hid he3
  clear hP h0 h1 he3 hR hn
  unfold nodeV
  go_enter Try.func45, Try.ntmps45
  go_upto_region 1 with fail
  obtain ⟨W0, hW0⟩ : ∃ W0, W0 = (w.alloc (.cells #[.int .u8 3, .int .i64 k, .int .i64 (i : Int), .int .i64 bb, .int .u64 c4, .int .u64 c5] 61)).alloc (.cells #[.int .u64 0, .int .u64 0] 59) := ⟨_, rfl⟩
  have HB0 : Hid (Below w.heap.size w W0) := by show Below _ _ _; rw [hW0]; exact (by repeat (first | exact Below.refl _ _ | assumption | refine Below.drew ?_ | refine Below.alloc ?_ (by first | omega | (simp <;> omega)) _ | refine Below.setCell ?_ (by first | omega | (simp <;> omega)) _ | refine Below.trans ?_ (Below.mono (by assumption) (by first | omega | (simp <;> omega)))))
  have HX0 : Hid (Bx2 W0 (w.heap.size + 1) 0 0) := by
    show _ = _
    rw [hW0]
    have := heap_new (w.alloc (.cells #[.int .u8 3, .int .i64 k, .int .i64 (i : Int), .int .i64 bb, .int .u64 c4, .int .u64 c5] 61)) (.cells #[.int .u64 0, .int .u64 0] 59)
    simp only [World.size_alloc] at this
    exact this
  have HN0 : Hid (NodeAt W0 w.heap.size 3 k (i : Int) bb c4 c5) := by show _ = _; rw [hW0, Below.heap_alloc _ _ _ (by simp)]; exact heap_new _ _
  rw [← hW0]
  clear hW0
  have hN0 := HN0.out
  unfold NodeAt at hN0
  have q0 : W0.cell? ⟨w.heap.size, 0, none⟩ = some (.int .u8 3) := by simp [World.cell?, hN0]
  have q2 : W0.cell? ⟨w.heap.size, 2, none⟩ = some (.int .i64 (i : Int)) := by simp [World.cell?, hN0]
  have q3 : W0.cell? ⟨w.heap.size, 3, none⟩ = some (.int .i64 bb) := by simp [World.cell?, hN0]
  clear hN0
  obtain ⟨m0, m1⟩ := HM.out W0 HB0.out
  obtain ⟨b0, b1, g0, g1⟩ := HX0.out.cells
  have s4 := (HP.out.below HB0.out).cell (i := 4) rfl
  go_upto_region 7 with fail
  go_region_with (first | (go_at_call 52; refine (HAM.out _ HB0.out.drew).mono ?_; rintro e w3 ⟨rfl, hb3⟩; try rw [HE3.out]; have HB3 : Hid (Below W0.heap.size W0 w3) := Below.trans (Below.drew (Below.refl _ _)) hb3; have HF3 : Hid (Fr (· = X) w w3) := (Fr.of_below HB0.out).trans (Fr.of_below HB3.out); have HP3 : Hid (PktB base w3 X (x.acc false) r v f mm fs) := (HP.out.below (HB0.out.trans (HB3.out.mono HB0.out.size))).acc0; have hX3 : Bx2 w3 (w.heap.size + 1) 0 0 := (hb3.block _ (lt_of_some HX0.out)).trans HX0.out; clear b0 b1 g0 g1; obtain ⟨b0, b1, g0, g1⟩ := hX3.cells; clear hX3))
  all_goals
    go_wp2_with fail
    refine bodyPost_ret (v := .tuple #[.agg #[.int .u64 (y3 : Int), .int .u64 (z3 : Int)], .bool true]) ?_ rfl ⟨by rw [HR3.out], ?_, ?_⟩
    · simp [results, Try.results45, go_sem, b0, b1]
    · exact HP3.out.kept fun k hk => set2_other w3 (w.heap.size + 1) 0 1 _ _ (by have := (HP.out.blk hk).2; omega)
    · exact (HF3.out.set (.inr (by omega)) _).set (.inr (by omega)) _

set_option maxRecDepth 100000 in
set_option maxHeartbeats 6400000 in
theorem lf_param {base : Nat} {w : World} {X m : Nat} {x : Pkt} {r v f mm ga : Value} {fs : List Value} (hP : PktB base w X x r v f mm fs) (h0 : w.cell? ⟨m, 0, none⟩ = some (.pointer (some ⟨X, 0, none⟩))) (h1 : w.cell? ⟨m, 1, none⟩ = some ga) (k c4 c5 : Int) {i n : Nat} {args : List Nat} (hg : NRow w ga args) (hn : args[i]? = some n) (bb : Int) :
    Calls Try.prog 45 #[.pointer (some ⟨m, 0, none⟩), nodeV 4 k (i : Int) bb c4 c5] w (LeafR base X x r v f mm fs (· = X) w (n) (false)) := by
  have HP := Lib.hid hP
  have HM : Hid (∀ W, Below w.heap.size w W → W.cell? ⟨m, 0, none⟩ = some (.pointer (some ⟨X, 0, none⟩)) ∧ W.cell? ⟨m, 1, none⟩ = some ga) := fun W hb => ⟨(hb.cell (cell_there h0).1).trans h0, (hb.cell (cell_there h1).1).trans h1⟩
  have HAM : Hid (∀ W, Below w.heap.size w W → Calls Try.prog 52 #[ga, .int .i64 (i : Int)] W (RetNum W n)) := fun W hb => among_any (hg.below keepN hb) hn
  obtain ⟨R, hR⟩ : ∃ R, R = n := ⟨_, rfl⟩
  obtain ⟨y3, z3, he3, -, -⟩ := numV_parts R
  have HE3 : Hid (numV (n) = .agg #[.int .u64 (y3 : Int), .int .u64 (z3 : Int)]) := by show _ = _; rw [← hR]; exact he3
  rw [← hR]
  have HR3 := Lib.hid he3
  clear hP h0 h1 he3 hR hn hg
  unfold nodeV
  go_enter Try.func45, Try.ntmps45
  go_upto_region 1 with fail
  obtain ⟨W0, hW0⟩ : ∃ W0, W0 = (w.alloc (.cells #[.int .u8 4, .int .i64 k, .int .i64 (i : Int), .int .i64 bb, .int .u64 c4, .int .u64 c5] 61)).alloc (.cells #[.int .u64 0, .int .u64 0] 59) := ⟨_, rfl⟩
  have HB0 : Hid (Below w.heap.size w W0) := by show Below _ _ _; rw [hW0]; exact (by repeat (first | exact Below.refl _ _ | assumption | refine Below.drew ?_ | refine Below.alloc ?_ (by first | omega | (simp <;> omega)) _ | refine Below.setCell ?_ (by first | omega | (simp <;> omega)) _ | refine Below.trans ?_ (Below.mono (by assumption) (by first | omega | (simp <;> omega)))))
  have HX0 : Hid (Bx2 W0 (w.heap.size + 1) 0 0) := by
    show _ = _
    rw [hW0]
    have := heap_new (w.alloc (.cells #[.int .u8 4, .int .i64 k, .int .i64 (i : Int), .int .i64 bb, .int .u64 c4, .int .u64 c5] 61)) (.cells #[.int .u64 0, .int .u64 0] 59)
    simp only [World.size_alloc] at this
    exact this
  have HN0 : Hid (NodeAt W0 w.heap.size 4 k (i : Int) bb c4 c5) := by show _ = _; rw [hW0, Below.heap_alloc _ _ _ (by simp)]; exact heap_new _ _
  rw [← hW0]
  clear hW0
  have hN0 := HN0.out
  unfold NodeAt at hN0
  have q0 : W0.cell? ⟨w.heap.size, 0, none⟩ = some (.int .u8 4) := by simp [World.cell?, hN0]
  have q2 : W0.cell? ⟨w.heap.size, 2, none⟩ = some (.int .i64 (i : Int)) := by simp [World.cell?, hN0]
  have q3 : W0.cell? ⟨w.heap.size, 3, none⟩ = some (.int .i64 bb) := by simp [World.cell?, hN0]
  clear hN0
  obtain ⟨m0, m1⟩ := HM.out W0 HB0.out
  obtain ⟨b0, b1, g0, g1⟩ := HX0.out.cells
  go_upto_region 9 with fail
  go_region_with (first | (go_at_call 52; refine (HAM.out _ HB0.out.drew).mono ?_; rintro e w3 ⟨rfl, hb3⟩; try rw [HE3.out]; have HB3 : Hid (Below W0.heap.size W0 w3) := Below.trans (Below.drew (Below.refl _ _)) hb3; have HF3 : Hid (Fr (· = X) w w3) := (Fr.of_below HB0.out).trans (Fr.of_below HB3.out); have HP3 : Hid (PktB base w3 X (x.acc false) r v f mm fs) := (HP.out.below (HB0.out.trans (HB3.out.mono HB0.out.size))).acc0; have hX3 : Bx2 w3 (w.heap.size + 1) 0 0 := (hb3.block _ (lt_of_some HX0.out)).trans HX0.out; clear b0 b1 g0 g1; obtain ⟨b0, b1, g0, g1⟩ := hX3.cells; clear hX3))
  all_goals
    go_wp2_with fail
    refine bodyPost_ret (v := .tuple #[.agg #[.int .u64 (y3 : Int), .int .u64 (z3 : Int)], .bool true]) ?_ rfl ⟨by rw [HR3.out], ?_, ?_⟩
    · simp [results, Try.results45, go_sem, b0, b1]
    · exact HP3.out.kept fun k hk => set2_other w3 (w.heap.size + 1) 0 1 _ _ (by have := (HP.out.blk hk).2; omega)
    · exact (HF3.out.set (.inr (by omega)) _).set (.inr (by omega)) _

set_option maxRecDepth 100000 in
set_option maxHeartbeats 6400000 in
theorem lf_field {base : Nat} {w : World} {X m : Nat} {x : Pkt} {r v f mm ga : Value} {fs : List Value} (hP : PktB base w X x r v f mm fs) (h0 : w.cell? ⟨m, 0, none⟩ = some (.pointer (some ⟨X, 0, none⟩))) (h1 : w.cell? ⟨m, 1, none⟩ = some ga) (k c4 c5 : Int) {i j n : Nat} {l : List Nat} {vb : Bool} (hl : x.fields[i]? = some l) (hn : l[j]? = some n) (hv : x.valid[i]? = some vb) :
    Calls Try.prog 45 #[.pointer (some ⟨m, 0, none⟩), nodeV 2 k (i : Int) (j : Int) c4 c5] w (LeafR base X x r v f mm fs (· = X) w (if vb then n else 0) (!vb)) := by
  have HP := Lib.hid hP
  have HM : Hid (∀ W, Below w.heap.size w W → W.cell? ⟨m, 0, none⟩ = some (.pointer (some ⟨X, 0, none⟩)) ∧ W.cell? ⟨m, 1, none⟩ = some ga) := fun W hb => ⟨(hb.cell (cell_there h0).1).trans h0, (hb.cell (cell_there h1).1).trans h1⟩
  have HAM : Hid (∀ W, Below w.heap.size w W → Calls Try.prog 51 #[.pointer (some ⟨X, 0, none⟩), .int .i64 (i : Int), .int .i64 (j : Int)] W fun e w' => e = .returned (numV (if vb then n else 0)) ∧ PktB base w' X (x.acc !vb) r v f mm fs ∧ Fr (· = X) W w') := fun W hb => get_any (hP.below hb) hl hn hv
  obtain ⟨R, hR⟩ : ∃ R, R = if vb then n else 0 := ⟨_, rfl⟩
  obtain ⟨y3, z3, he3, -, -⟩ := numV_parts R
  have HE3 : Hid (numV (if vb then n else 0) = .agg #[.int .u64 (y3 : Int), .int .u64 (z3 : Int)]) := by show _ = _; rw [← hR]; exact he3
  rw [← hR]
  have HR3 := Lib.hid he3
  clear hP h0 h1 he3 hR hl hn hv
  unfold nodeV
  go_enter Try.func45, Try.ntmps45
  go_upto_region 1 with fail
  obtain ⟨W0, hW0⟩ : ∃ W0, W0 = (w.alloc (.cells #[.int .u8 2, .int .i64 k, .int .i64 (i : Int), .int .i64 (j : Int), .int .u64 c4, .int .u64 c5] 61)).alloc (.cells #[.int .u64 0, .int .u64 0] 59) := ⟨_, rfl⟩
  have HB0 : Hid (Below w.heap.size w W0) := by show Below _ _ _; rw [hW0]; exact (by repeat (first | exact Below.refl _ _ | assumption | refine Below.drew ?_ | refine Below.alloc ?_ (by first | omega | (simp <;> omega)) _ | refine Below.setCell ?_ (by first | omega | (simp <;> omega)) _ | refine Below.trans ?_ (Below.mono (by assumption) (by first | omega | (simp <;> omega)))))
  have HX0 : Hid (Bx2 W0 (w.heap.size + 1) 0 0) := by
    show _ = _
    rw [hW0]
    have := heap_new (w.alloc (.cells #[.int .u8 2, .int .i64 k, .int .i64 (i : Int), .int .i64 (j : Int), .int .u64 c4, .int .u64 c5] 61)) (.cells #[.int .u64 0, .int .u64 0] 59)
    simp only [World.size_alloc] at this
    exact this
  have HN0 : Hid (NodeAt W0 w.heap.size 2 k (i : Int) (j : Int) c4 c5) := by show _ = _; rw [hW0, Below.heap_alloc _ _ _ (by simp)]; exact heap_new _ _
  rw [← hW0]
  clear hW0
  have hN0 := HN0.out
  unfold NodeAt at hN0
  have q0 : W0.cell? ⟨w.heap.size, 0, none⟩ = some (.int .u8 2) := by simp [World.cell?, hN0]
  have q2 : W0.cell? ⟨w.heap.size, 2, none⟩ = some (.int .i64 (i : Int)) := by simp [World.cell?, hN0]
  have q3 : W0.cell? ⟨w.heap.size, 3, none⟩ = some (.int .i64 (j : Int)) := by simp [World.cell?, hN0]
  clear hN0
  obtain ⟨m0, m1⟩ := HM.out W0 HB0.out
  obtain ⟨b0, b1, g0, g1⟩ := HX0.out.cells
  go_upto_region 5 with fail
  go_region_with (first | (go_at_call 51; refine (HAM.out _ HB0.out.drew).mono ?_; rintro e w3 ⟨rfl, hp3, hf3⟩; try rw [HE3.out]; have HF3 : Hid (Fr (· = X) w w3) := (Fr.of_below HB0.out.drew).trans hf3; have HP3 : Hid (PktB base w3 X (x.acc !vb) r v f mm fs) := hp3; have hX3 : Bx2 w3 (w.heap.size + 1) 0 0 := (hf3.block _ (lt_of_some HX0.out) (by have := HP.out.lt; show ¬ w.heap.size + 1 = X; omega)).trans HX0.out; clear hp3 hf3; clear b0 b1 g0 g1; obtain ⟨b0, b1, g0, g1⟩ := hX3.cells; clear hX3))
  all_goals
    go_wp2_with fail
    refine bodyPost_ret (v := .tuple #[.agg #[.int .u64 (y3 : Int), .int .u64 (z3 : Int)], .bool true]) ?_ rfl ⟨by rw [HR3.out], ?_, ?_⟩
    · simp [results, Try.results45, go_sem, b0, b1]
    · exact HP3.out.kept fun k hk => set2_other w3 (w.heap.size + 1) 0 1 _ _ (by have := (HP.out.blk hk).2; omega)
    · exact (HF3.out.set (.inr (by omega)) _).set (.inr (by omega)) _

set_option maxRecDepth 100000 in
set_option maxHeartbeats 6400000 in
theorem lf_port {base : Nat} {w : World} {X m : Nat} {x : Pkt} {r v f mm ga : Value} {fs : List Value} (hP : PktB base w X x r v f mm fs) (h0 : w.cell? ⟨m, 0, none⟩ = some (.pointer (some ⟨X, 0, none⟩))) (h1 : w.cell? ⟨m, 1, none⟩ = some ga) (k c4 c5 : Int) (hp0 : 0 ≤ x.port) (hp1 : x.port ≤ 511) (aa bb : Int) :
    Calls Try.prog 45 #[.pointer (some ⟨m, 0, none⟩), nodeV 5 k aa bb c4 c5] w (LeafR base X x r v f mm fs (· = X) w (x.port.toNat) (false)) := by
  have HP := Lib.hid hP
  have HM : Hid (∀ W, Below w.heap.size w W → W.cell? ⟨m, 0, none⟩ = some (.pointer (some ⟨X, 0, none⟩)) ∧ W.cell? ⟨m, 1, none⟩ = some ga) := fun W hb => ⟨(hb.cell (cell_there h0).1).trans h0, (hb.cell (cell_there h1).1).trans h1⟩
  have HAM : Hid (∀ W, Calls Try.prog 53 #[.int .u64 x.port] W (RetNum W x.port.toNat)) := fun W => by
    have h := numOf_any x.port.toNat (by unfold B; omega) W
    have e1 : ((x.port.toNat : Nat) : Int) = x.port := by omega
    rw [e1] at h
    exact h
  obtain ⟨R, hR⟩ : ∃ R, R = x.port.toNat := ⟨_, rfl⟩
  obtain ⟨y3, z3, he3, -, -⟩ := numV_parts R
  have HE3 : Hid (numV (x.port.toNat) = .agg #[.int .u64 (y3 : Int), .int .u64 (z3 : Int)]) := by show _ = _; rw [← hR]; exact he3
  rw [← hR]
  have HR3 := Lib.hid he3
  clear hP h0 h1 he3 hR
  unfold nodeV
  go_enter Try.func45, Try.ntmps45
  go_upto_region 1 with fail
  obtain ⟨W0, hW0⟩ : ∃ W0, W0 = (w.alloc (.cells #[.int .u8 5, .int .i64 k, .int .i64 aa, .int .i64 bb, .int .u64 c4, .int .u64 c5] 61)).alloc (.cells #[.int .u64 0, .int .u64 0] 59) := ⟨_, rfl⟩
  have HB0 : Hid (Below w.heap.size w W0) := by show Below _ _ _; rw [hW0]; exact (by repeat (first | exact Below.refl _ _ | assumption | refine Below.drew ?_ | refine Below.alloc ?_ (by first | omega | (simp <;> omega)) _ | refine Below.setCell ?_ (by first | omega | (simp <;> omega)) _ | refine Below.trans ?_ (Below.mono (by assumption) (by first | omega | (simp <;> omega)))))
  have HX0 : Hid (Bx2 W0 (w.heap.size + 1) 0 0) := by
    show _ = _
    rw [hW0]
    have := heap_new (w.alloc (.cells #[.int .u8 5, .int .i64 k, .int .i64 aa, .int .i64 bb, .int .u64 c4, .int .u64 c5] 61)) (.cells #[.int .u64 0, .int .u64 0] 59)
    simp only [World.size_alloc] at this
    exact this
  have HN0 : Hid (NodeAt W0 w.heap.size 5 k aa bb c4 c5) := by show _ = _; rw [hW0, Below.heap_alloc _ _ _ (by simp)]; exact heap_new _ _
  rw [← hW0]
  clear hW0
  have hN0 := HN0.out
  unfold NodeAt at hN0
  have q0 : W0.cell? ⟨w.heap.size, 0, none⟩ = some (.int .u8 5) := by simp [World.cell?, hN0]
  have q2 : W0.cell? ⟨w.heap.size, 2, none⟩ = some (.int .i64 aa) := by simp [World.cell?, hN0]
  have q3 : W0.cell? ⟨w.heap.size, 3, none⟩ = some (.int .i64 bb) := by simp [World.cell?, hN0]
  clear hN0
  obtain ⟨m0, m1⟩ := HM.out W0 HB0.out
  obtain ⟨b0, b1, g0, g1⟩ := HX0.out.cells
  have s0 := (HP.out.below HB0.out).cell (i := 0) rfl
  have hmx : max x.port 0 = x.port := by omega
  have hmy : max 0 x.port = x.port := by omega
  have hwr : (IntKind.u64).wrap x.port = x.port := by rw [IntKind.wrap_u64]; omega
  have hgt : ¬ x.port < 0 := by omega
  go_upto_region 11 with fail
  go_wp2_with (go_at_call 53; refine (HAM.out _).mono ?_; rintro e w3 ⟨rfl, hb3⟩; try rw [HE3.out]; have HB3 : Hid (Below W0.heap.size W0 w3) := hb3; have HF3 : Hid (Fr (· = X) w w3) := (Fr.of_below HB0.out).trans (Fr.of_below HB3.out); have HP3 : Hid (PktB base w3 X (x.acc false) r v f mm fs) := (HP.out.below (HB0.out.trans (HB3.out.mono HB0.out.size))).acc0; have hX3 : Bx2 w3 (w.heap.size + 1) 0 0 := (hb3.block _ (lt_of_some HX0.out)).trans HX0.out; clear b0 b1 g0 g1; obtain ⟨b0, b1, g0, g1⟩ := hX3.cells; clear hX3)
  refine bodyPost_ret (v := .tuple #[.agg #[.int .u64 (y3 : Int), .int .u64 (z3 : Int)], .bool true]) ?_ rfl ⟨by rw [HR3.out], ?_, ?_⟩
  · simp [results, Try.results45, go_sem, b0, b1]
  · exact HP3.out.kept fun k hk => set2_other w3 (w.heap.size + 1) 0 1 _ _ (by have := (HP.out.blk hk).2; omega)
  · exact (HF3.out.set (.inr (by omega)) _).set (.inr (by omega)) _

end Go.Proofs.Ytehcclcokgmplaa

/-
  What the machine's leaves tell: whether a header is valid.
-/
namespace Go.Proofs.Ytehcclcokgmplaa
open Go.RowKit

set_option maxRecDepth 100000 in
set_option maxHeartbeats 6400000 in
theorem lf_valid {base : Nat} {w : World} {X m : Nat} {x : Pkt} {r v f mm ga : Value} {fs : List Value} (hP : PktB base w X x r v f mm fs) (h0 : w.cell? ⟨m, 0, none⟩ = some (.pointer (some ⟨X, 0, none⟩))) (h1 : w.cell? ⟨m, 1, none⟩ = some ga) (k c4 c5 : Int) {i : Nat} {vb : Bool} (hv : x.valid[i]? = some vb) (bb : Int) :
    Calls Try.prog 45 #[.pointer (some ⟨m, 0, none⟩), nodeV 6 k (i : Int) bb c4 c5] w (LeafR base X x r v f mm fs (· = X) w (truthN vb) (false)) := by
  have HP := Lib.hid hP
  have HM : Hid (∀ W, Below w.heap.size w W → W.cell? ⟨m, 0, none⟩ = some (.pointer (some ⟨X, 0, none⟩)) ∧ W.cell? ⟨m, 1, none⟩ = some ga) := fun W hb => ⟨(hb.cell (cell_there h0).1).trans h0, (hb.cell (cell_there h1).1).trans h1⟩
  have HVI := Lib.hid hv
  have HML : Hid (m < w.heap.size) := (cell_there h0).1
  have HLI : Hid ((i : Int) < (x.valid.length : Int)) := by show _ < _; have := (List.getElem?_eq_some_iff.1 hv).1; omega
  have HAM : Hid (∀ W, Calls Try.prog 54 #[.bool vb] W (RetNum W (truthN vb))) := fun W => one_any vb W
  obtain ⟨R, hR⟩ : ∃ R, R = truthN vb := ⟨_, rfl⟩
  obtain ⟨y3, z3, he3, -, -⟩ := numV_parts R
  have HE3 : Hid (numV (truthN vb) = .agg #[.int .u64 (y3 : Int), .int .u64 (z3 : Int)]) := by show _ = _; rw [← hR]; exact he3
  rw [← hR]
  have HR3 := Lib.hid he3
  clear hP h0 h1 he3 hR hv
  unfold nodeV
  go_enter Try.func45, Try.ntmps45
  go_upto_region 1 with fail
  obtain ⟨W0, hW0⟩ : ∃ W0, W0 = (w.alloc (.cells #[.int .u8 6, .int .i64 k, .int .i64 (i : Int), .int .i64 bb, .int .u64 c4, .int .u64 c5] 61)).alloc (.cells #[.int .u64 0, .int .u64 0] 59) := ⟨_, rfl⟩
  have HB0 : Hid (Below w.heap.size w W0) := by show Below _ _ _; rw [hW0]; exact (by repeat (first | exact Below.refl _ _ | assumption | refine Below.drew ?_ | refine Below.alloc ?_ (by first | omega | (simp <;> omega)) _ | refine Below.setCell ?_ (by first | omega | (simp <;> omega)) _ | refine Below.trans ?_ (Below.mono (by assumption) (by first | omega | (simp <;> omega)))))
  have HX0 : Hid (Bx2 W0 (w.heap.size + 1) 0 0) := by
    show _ = _
    rw [hW0]
    have := heap_new (w.alloc (.cells #[.int .u8 6, .int .i64 k, .int .i64 (i : Int), .int .i64 bb, .int .u64 c4, .int .u64 c5] 61)) (.cells #[.int .u64 0, .int .u64 0] 59)
    simp only [World.size_alloc] at this
    exact this
  have HN0 : Hid (NodeAt W0 w.heap.size 6 k (i : Int) bb c4 c5) := by show _ = _; rw [hW0, Below.heap_alloc _ _ _ (by simp)]; exact heap_new _ _
  rw [← hW0]
  clear hW0
  have hN0 := HN0.out
  unfold NodeAt at hN0
  have q0 : W0.cell? ⟨w.heap.size, 0, none⟩ = some (.int .u8 6) := by simp [World.cell?, hN0]
  have q2 : W0.cell? ⟨w.heap.size, 2, none⟩ = some (.int .i64 (i : Int)) := by simp [World.cell?, hN0]
  have q3 : W0.cell? ⟨w.heap.size, 3, none⟩ = some (.int .i64 bb) := by simp [World.cell?, hN0]
  clear hN0
  obtain ⟨m0, m1⟩ := HM.out W0 HB0.out
  obtain ⟨b0, b1, g0, g1⟩ := HX0.out.cells
  have hP0 := HP.out.below HB0.out
  obtain ⟨vg, vc, hve, -, cv⟩ := hP0.getValid HVI.out
  have hvl := (HP.out.blk (k := vg) (.inr ⟨v, by simp, by rw [hve]; rfl⟩)).2
  have c2 := hP0.cell (i := 2) rfl
  rw [hve] at c2
  have hXl := HP.out.lt
  have hml := HML.out
  have i1 : (i : Int) < (x.valid.length : Int) := HLI.out
  have i0 : 0 ≤ (i : Int) := by omega
  clear hP0 hve
  generalize x.valid.length = vn at *
  have HQ := Lib.hid (And.intro q2 (And.intro m0 (And.intro c2 cv)))
  have HON : Hid (∀ W, BS w.heap.size (w.heap.size + 1) W0 W → Calls Try.prog 54 #[.bool vb] W fun e w' => e = .returned (.agg #[.int .u64 (y3 : Int), .int .u64 (z3 : Int)]) ∧ BR w.heap.size (w.heap.size + 1) (y3 : Int) (z3 : Int) W w') := fun W hS => by
    refine (HAM.out W).mono ?_
    rintro e w' ⟨rfl, hb⟩
    rw [HE3.out]
    exact ⟨rfl, BR.of_below (Nat.le_trans HB0.out.size hS.low.size) hb⟩
  go_upto_region 13 with fail
  clear b0 b1 g0 g1 q0 q2 q3 m0 m1 c2 cv
  refine OutR.region_outR (BR w.heap.size (w.heap.size + 1) (y3 : Int) (z3 : Int)) (BR.refl _ _ _ _) (by kernel_rfl) (BS w.heap.size (w.heap.size + 1) W0) (fun _ _ h hr => h.step hr) (by kernel_rfl) (BS.start HX0.out) ?_
  refine ⟨.eq ?_, trivial, rfl, fun aa ww ll hh => ?_, ?_⟩
  rotate_left
  · have e3 := (hh.old 3 (by kernel_rfl)).trans (evalO rfl)
    simp only [nthO] at e3
    refine OutR.out_val (BR.refl _ _ _ _) (wanted_none rfl) ?_
    clear hh
    generalize aa.eval = ev at e3 ⊢
    go_simp
    try rfl
  refine ⟨.eq ?_, trivial, rfl, fun aa ww ll hh => ?_, ?_⟩
  rotate_left
  · have e58 := hh.get 0 0 (by kernel_rfl) rfl rfl rfl
    have q2 := hh.inv.cell (p := ⟨w.heap.size, 2, none⟩) (by show w.heap.size ≠ w.heap.size + 1; omega) HQ.out.1
    have m0 := hh.inv.cell (p := ⟨m, 0, none⟩) (by show m ≠ w.heap.size + 1; omega) HQ.out.2.1
    have c2 := hh.inv.cell (p := ⟨X, 2, none⟩) (by show X ≠ w.heap.size + 1; omega) HQ.out.2.2.1
    have cv := hh.inv.cell (p := ⟨vg, i, none⟩) (by show vg ≠ w.heap.size + 1; omega) HQ.out.2.2.2
    refine OutR.out_val (BR.refl _ _ _ _) (wanted_none rfl) ?_
    clear hh
    generalize aa.eval = ev at e58 ⊢
    go_simp
    try rfl
  refine ⟨.eq ?_, trivial, rfl, fun aa ww ll hh => ?_, ?_⟩
  rotate_left
  · have e59 := hh.get 1 0 (by kernel_rfl) rfl rfl rfl
    have ec : ∀ v, aa.eval (.const v) = v := fun _ => rfl
    refine OutR.out_val (BR.refl _ _ _ _) (wanted_none rfl) ?_
    clear hh
    generalize aa.eval = ev at e59 ec ⊢
    go_simp
    try rfl
  refine ⟨.eq ?_, trivial, rfl, fun aa ww ll hh => ?_, ?_⟩
  rotate_left
  · have e60 := hh.get 2 0 (by kernel_rfl) rfl rfl rfl
    refine OutR.out_val (BR.refl _ _ _ _) (wanted_none rfl) ?_
    rw [ex_moveO (by first | exact .inl rfl | exact .inr rfl) e60]
  refine ⟨.eq ?_, trivial, rfl, fun aa ww ll hh => ?_, ?_⟩
  rotate_left
  · have e3 := (hh.old 3 (by kernel_rfl)).trans (evalO rfl)
    simp only [nthO] at e3
    refine OutR.out_val (BR.refl _ _ _ _) (hh.go 0 rfl (by kernel_rfl) rfl rfl) ?_
    clear hh
    generalize aa.eval = ev at e3 ⊢
    go_simp
    try rfl
  refine ⟨.eq ?_, trivial, rfl, fun aa ww ll hh => ?_, ?_⟩
  rotate_left
  · have e62 := hh.get 4 0 (by kernel_rfl) rfl rfl rfl
    have q2 := hh.inv.cell (p := ⟨w.heap.size, 2, none⟩) (by show w.heap.size ≠ w.heap.size + 1; omega) HQ.out.1
    have m0 := hh.inv.cell (p := ⟨m, 0, none⟩) (by show m ≠ w.heap.size + 1; omega) HQ.out.2.1
    have c2 := hh.inv.cell (p := ⟨X, 2, none⟩) (by show X ≠ w.heap.size + 1; omega) HQ.out.2.2.1
    have cv := hh.inv.cell (p := ⟨vg, i, none⟩) (by show vg ≠ w.heap.size + 1; omega) HQ.out.2.2.2
    refine OutR.out_val (BR.refl _ _ _ _) (hh.go 1 rfl (by kernel_rfl) rfl rfl) ?_
    clear hh
    generalize aa.eval = ev at e62 ⊢
    go_simp
    try rfl
  refine ⟨.eq ?_, trivial, rfl, fun aa ww ll hh => ?_, ?_⟩
  rotate_left
  · have e0 := (hh.old 0 (by kernel_rfl)).trans (evalO rfl)
    simp only [nthO] at e0
    refine OutR.out_val (BR.refl _ _ _ _) (hh.go 2 rfl (by kernel_rfl) rfl rfl) ?_
    rw [ex_moveO (by first | exact .inl rfl | exact .inr rfl) e0]
  refine ⟨.eq ?_, trivial, rfl, fun aa ww ll hh => ?_, ?_⟩
  rotate_left
  · have e64 := hh.get 6 0 (by kernel_rfl) rfl rfl rfl
    refine OutR.out_val (BR.refl _ _ _ _) (hh.go 3 rfl (by kernel_rfl) rfl rfl) ?_
    clear hh
    generalize aa.eval = ev at e64 ⊢
    go_simp
    try rfl
  refine ⟨.eq ?_, trivial, rfl, fun aa ww ll hh => ?_, ?_⟩
  rotate_left
  · have e65 := hh.get 7 0 (by kernel_rfl) rfl rfl rfl
    refine OutR.out_val (BR.refl _ _ _ _) (hh.go 4 rfl (by kernel_rfl) rfl rfl) ?_
    clear hh
    generalize aa.eval = ev at e65 ⊢
    go_simp
    try rfl
  refine ⟨.eq ?_, trivial, rfl, fun aa ww ll hh => ?_, ?_⟩
  rotate_left
  · have e66 := hh.get 8 0 (by kernel_rfl) rfl rfl rfl
    have q2 := hh.inv.cell (p := ⟨w.heap.size, 2, none⟩) (by show w.heap.size ≠ w.heap.size + 1; omega) HQ.out.1
    have m0 := hh.inv.cell (p := ⟨m, 0, none⟩) (by show m ≠ w.heap.size + 1; omega) HQ.out.2.1
    have c2 := hh.inv.cell (p := ⟨X, 2, none⟩) (by show X ≠ w.heap.size + 1; omega) HQ.out.2.2.1
    have cv := hh.inv.cell (p := ⟨vg, i, none⟩) (by show vg ≠ w.heap.size + 1; omega) HQ.out.2.2.2
    refine OutR.out_val (BR.refl _ _ _ _) (hh.go 5 rfl (by kernel_rfl) rfl rfl) ?_
    clear hh
    generalize aa.eval = ev at e66 ⊢
    go_simp
    try rfl
  refine ⟨.eq ?_, trivial, rfl, fun aa ww ll hh => ?_, ?_⟩
  rotate_left
  · have e67 := hh.get 9 0 (by kernel_rfl) rfl rfl rfl
    refine OutR.out_val (BR.refl _ _ _ _) (hh.go 6 rfl (by kernel_rfl) rfl rfl) ?_
    clear hh
    generalize aa.eval = ev at e67 ⊢
    go_simp
    try rfl
  refine ⟨.eq ?_, trivial, rfl, fun aa ww ll hh => ?_, ?_⟩
  rotate_left
  · have e68 := hh.get 10 0 (by kernel_rfl) rfl rfl rfl
    refine OutR.out_val (BR.refl _ _ _ _) (hh.go 7 rfl (by kernel_rfl) rfl rfl) ?_
    clear hh
    generalize aa.eval = ev at e68 ⊢
    go_simp
    try rfl
  refine ⟨.eq ?_, trivial, rfl, fun aa ww ll hh => ?_, ?_⟩
  rotate_left
  · have e69 := hh.get 11 0 (by kernel_rfl) rfl rfl rfl
    have q2 := hh.inv.cell (p := ⟨w.heap.size, 2, none⟩) (by show w.heap.size ≠ w.heap.size + 1; omega) HQ.out.1
    have m0 := hh.inv.cell (p := ⟨m, 0, none⟩) (by show m ≠ w.heap.size + 1; omega) HQ.out.2.1
    have c2 := hh.inv.cell (p := ⟨X, 2, none⟩) (by show X ≠ w.heap.size + 1; omega) HQ.out.2.2.1
    have cv := hh.inv.cell (p := ⟨vg, i, none⟩) (by show vg ≠ w.heap.size + 1; omega) HQ.out.2.2.2
    refine OutR.out_val (BR.refl _ _ _ _) (hh.go 8 rfl (by kernel_rfl) rfl rfl) ?_
    clear hh
    generalize aa.eval = ev at e69 ⊢
    go_simp
    try rfl
  refine ⟨.eq ?_, trivial, rfl, fun aa ww ll hh => ?_, ?_⟩
  rotate_left
  · have e70 := hh.get 12 0 (by kernel_rfl) rfl rfl rfl
    have q2 := hh.inv.cell (p := ⟨w.heap.size, 2, none⟩) (by show w.heap.size ≠ w.heap.size + 1; omega) HQ.out.1
    have m0 := hh.inv.cell (p := ⟨m, 0, none⟩) (by show m ≠ w.heap.size + 1; omega) HQ.out.2.1
    have c2 := hh.inv.cell (p := ⟨X, 2, none⟩) (by show X ≠ w.heap.size + 1; omega) HQ.out.2.2.1
    have cv := hh.inv.cell (p := ⟨vg, i, none⟩) (by show vg ≠ w.heap.size + 1; omega) HQ.out.2.2.2
    refine OutR.out_val (BR.refl _ _ _ _) (hh.go 9 rfl (by kernel_rfl) rfl rfl) ?_
    clear hh
    generalize aa.eval = ev at e70 ⊢
    go_simp
    try rfl
  refine ⟨.eq ?_, trivial, rfl, fun aa ww ll hh => ?_, ?_⟩
  rotate_left
  · have e63 := hh.get 5 8 (by kernel_rfl) rfl rfl rfl
    have e71 := hh.get 13 0 (by kernel_rfl) rfl rfl rfl
    refine OutR.out_val (BR.refl _ _ _ _) (hh.go 10 rfl (by kernel_rfl) rfl rfl) ?_
    clear hh
    generalize aa.eval = ev at e63 e71 ⊢
    go_simp
    try rfl
  refine ⟨.eq ?_, trivial, rfl, fun aa ww ll hh => ?_, ?_⟩
  rotate_left
  · have e61 := hh.get 3 11 (by kernel_rfl) rfl rfl rfl
    have e72 := hh.get 14 0 (by kernel_rfl) rfl rfl rfl
    have ec : ∀ v, aa.eval (.const v) = v := fun _ => rfl
    refine OutR.out_val (BR.refl _ _ _ _) (wanted_none rfl) ?_
    clear hh
    generalize aa.eval = ev at e61 e72 ec ⊢
    go_simp
    try rfl
  refine ⟨.eq ?_, trivial, rfl, fun aa ww ll hh => ?_, ?_⟩
  rotate_left
  · have e73 := hh.get 15 0 (by kernel_rfl) rfl rfl rfl
    refine OutR.out_val (BR.refl _ _ _ _) (wanted_none rfl) ?_
    rw [ex_moveO (by first | exact .inl rfl | exact .inr rfl) e73]
  refine ⟨.eq ?_, trivial, rfl, fun aa ww ll hh => ?_, ?_⟩
  rotate_left
  · have e0 := (hh.old 0 (by kernel_rfl)).trans (evalO rfl)
    simp only [nthO] at e0
    refine OutR.out_val (BR.refl _ _ _ _) (hh.go 0 rfl (by kernel_rfl) rfl rfl) ?_
    rw [ex_moveO (by first | exact .inl rfl | exact .inr rfl) e0]
  refine ⟨.eq ?_, trivial, rfl, fun aa ww ll hh => ?_, ?_⟩
  rotate_left
  · have e75 := hh.get 17 0 (by kernel_rfl) rfl rfl rfl
    refine OutR.out_val (BR.refl _ _ _ _) (hh.go 1 rfl (by kernel_rfl) rfl rfl) ?_
    clear hh
    generalize aa.eval = ev at e75 ⊢
    go_simp
    try rfl
  refine ⟨.eq ?_, trivial, rfl, fun aa ww ll hh => ?_, ?_⟩
  rotate_left
  · have e76 := hh.get 18 0 (by kernel_rfl) rfl rfl rfl
    refine OutR.out_val (BR.refl _ _ _ _) (hh.go 2 rfl (by kernel_rfl) rfl rfl) ?_
    clear hh
    generalize aa.eval = ev at e76 ⊢
    go_simp
    try rfl
  refine ⟨.eq ?_, trivial, rfl, fun aa ww ll hh => ?_, ?_⟩
  rotate_left
  · have e77 := hh.get 19 0 (by kernel_rfl) rfl rfl rfl
    have q2 := hh.inv.cell (p := ⟨w.heap.size, 2, none⟩) (by show w.heap.size ≠ w.heap.size + 1; omega) HQ.out.1
    have m0 := hh.inv.cell (p := ⟨m, 0, none⟩) (by show m ≠ w.heap.size + 1; omega) HQ.out.2.1
    have c2 := hh.inv.cell (p := ⟨X, 2, none⟩) (by show X ≠ w.heap.size + 1; omega) HQ.out.2.2.1
    have cv := hh.inv.cell (p := ⟨vg, i, none⟩) (by show vg ≠ w.heap.size + 1; omega) HQ.out.2.2.2
    refine OutR.out_val (BR.refl _ _ _ _) (hh.go 3 rfl (by kernel_rfl) rfl rfl) ?_
    clear hh
    generalize aa.eval = ev at e77 ⊢
    go_simp
    try rfl
  refine ⟨.eq ?_, trivial, rfl, fun aa ww ll hh => ?_, ?_⟩
  rotate_left
  · have e78 := hh.get 20 0 (by kernel_rfl) rfl rfl rfl
    refine OutR.out_val (BR.refl _ _ _ _) (hh.go 4 rfl (by kernel_rfl) rfl rfl) ?_
    clear hh
    generalize aa.eval = ev at e78 ⊢
    go_simp
    try rfl
  refine ⟨.eq ?_, trivial, rfl, fun aa ww ll hh => ?_, ?_⟩
  rotate_left
  · have e79 := hh.get 21 0 (by kernel_rfl) rfl rfl rfl
    refine OutR.out_val (BR.refl _ _ _ _) (hh.go 5 rfl (by kernel_rfl) rfl rfl) ?_
    clear hh
    generalize aa.eval = ev at e79 ⊢
    go_simp
    try rfl
  refine ⟨.eq ?_, trivial, rfl, fun aa ww ll hh => ?_, ?_⟩
  rotate_left
  · have e80 := hh.get 22 0 (by kernel_rfl) rfl rfl rfl
    have q2 := hh.inv.cell (p := ⟨w.heap.size, 2, none⟩) (by show w.heap.size ≠ w.heap.size + 1; omega) HQ.out.1
    have m0 := hh.inv.cell (p := ⟨m, 0, none⟩) (by show m ≠ w.heap.size + 1; omega) HQ.out.2.1
    have c2 := hh.inv.cell (p := ⟨X, 2, none⟩) (by show X ≠ w.heap.size + 1; omega) HQ.out.2.2.1
    have cv := hh.inv.cell (p := ⟨vg, i, none⟩) (by show vg ≠ w.heap.size + 1; omega) HQ.out.2.2.2
    refine OutR.out_val (BR.refl _ _ _ _) (hh.go 6 rfl (by kernel_rfl) rfl rfl) ?_
    clear hh
    generalize aa.eval = ev at e80 ⊢
    go_simp
    try rfl
  refine ⟨.eq ?_, trivial, rfl, fun aa ww ll hh => ?_, ?_⟩
  rotate_left
  · have e3 := (hh.old 3 (by kernel_rfl)).trans (evalO rfl)
    simp only [nthO] at e3
    refine OutR.out_val (BR.refl _ _ _ _) (hh.go 7 rfl (by kernel_rfl) rfl rfl) ?_
    clear hh
    generalize aa.eval = ev at e3 ⊢
    go_simp
    try rfl
  refine ⟨.eq ?_, trivial, rfl, fun aa ww ll hh => ?_, ?_⟩
  rotate_left
  · have e82 := hh.get 24 0 (by kernel_rfl) rfl rfl rfl
    have q2 := hh.inv.cell (p := ⟨w.heap.size, 2, none⟩) (by show w.heap.size ≠ w.heap.size + 1; omega) HQ.out.1
    have m0 := hh.inv.cell (p := ⟨m, 0, none⟩) (by show m ≠ w.heap.size + 1; omega) HQ.out.2.1
    have c2 := hh.inv.cell (p := ⟨X, 2, none⟩) (by show X ≠ w.heap.size + 1; omega) HQ.out.2.2.1
    have cv := hh.inv.cell (p := ⟨vg, i, none⟩) (by show vg ≠ w.heap.size + 1; omega) HQ.out.2.2.2
    refine OutR.out_val (BR.refl _ _ _ _) (hh.go 8 rfl (by kernel_rfl) rfl rfl) ?_
    clear hh
    generalize aa.eval = ev at e82 ⊢
    go_simp
    try rfl
  refine ⟨.eq ?_, trivial, rfl, fun aa ww ll hh => ?_, ?_⟩
  rotate_left
  · have e81 := hh.get 23 2 (by kernel_rfl) rfl rfl rfl
    have e83 := hh.get 25 0 (by kernel_rfl) rfl rfl rfl
    refine OutR.out_val (BR.refl _ _ _ _) (hh.go 9 rfl (by kernel_rfl) rfl rfl) ?_
    clear hh
    generalize aa.eval = ev at e81 e83 ⊢
    go_simp
    try rfl
  refine ⟨.eq ?_, trivial, rfl, fun aa ww ll hh => ?_, ?_⟩
  rotate_left
  · have e84 := hh.get 26 0 (by kernel_rfl) rfl rfl rfl
    have q2 := hh.inv.cell (p := ⟨w.heap.size, 2, none⟩) (by show w.heap.size ≠ w.heap.size + 1; omega) HQ.out.1
    have m0 := hh.inv.cell (p := ⟨m, 0, none⟩) (by show m ≠ w.heap.size + 1; omega) HQ.out.2.1
    have c2 := hh.inv.cell (p := ⟨X, 2, none⟩) (by show X ≠ w.heap.size + 1; omega) HQ.out.2.2.1
    have cv := hh.inv.cell (p := ⟨vg, i, none⟩) (by show vg ≠ w.heap.size + 1; omega) HQ.out.2.2.2
    refine OutR.out_val (BR.refl _ _ _ _) (hh.go 10 rfl (by kernel_rfl) rfl rfl) ?_
    clear hh
    generalize aa.eval = ev at e84 ⊢
    go_simp
    try rfl
  refine ⟨.eq ?_, trivial, rfl, fun aa ww ll hh => ?_, ?_⟩
  rotate_left
  · have e74 := hh.get 16 11 (by kernel_rfl) rfl rfl rfl
    have e85 := hh.get 27 0 (by kernel_rfl) rfl rfl rfl
    have ec : ∀ v, aa.eval (.const v) = v := fun _ => rfl
    refine OutR.out_val (BR.refl _ _ _ _) (wanted_none rfl) ?_
    clear hh
    generalize aa.eval = ev at e74 e85 ec ⊢
    go_simp
    try rfl
  refine ⟨.eq (.agg #[.int .u64 (y3 : Int), .int .u64 (z3 : Int)]), trivial, rfl, fun aa ww ll hh => ?_, ?_⟩
  · have e86 := hh.get 28 0 (by kernel_rfl) rfl rfl rfl
    have ef : ∀ f, aa.eval (.func f) = .func (.func f) #[] #[] := fun _ => rfl
    have HI := hh.inv
    refine OutR.out_call_eq (wanted_none rfl) ?_ (HON.out ww HI)
    clear hh HI
    generalize aa.eval = ev at e86 ef ⊢
    go_simp
    try rfl
  refine ⟨.rel (fun W _ => Bx2 W (w.heap.size + 1) (y3 : Int) (z3 : Int)), (fun W W' v h hr => hr.kb h), rfl, fun aa ww ll hh => ?_, ?_⟩
  · have e4 := (hh.old 4 (by kernel_rfl)).trans (evalO rfl)
    simp only [nthO] at e4
    have e87 := hh.get 29 0 (by kernel_rfl) rfl rfl rfl
    obtain ⟨xa, xb, hx⟩ := hh.inv.ob
    obtain ⟨b0, b1, g0, g1⟩ := hx.cells
    refine OutR.out_store (wanted_none rfl) (w' := (ww.setCell ⟨w.heap.size + 1, 0, none⟩ (.int .u64 (y3 : Int))).setCell ⟨w.heap.size + 1, 1, none⟩ (.int .u64 (z3 : Int))) ?_ (BR.put (by omega) hx) (hx.put _ _)
    clear hh hx
    generalize aa.eval = ev at e4 e87 ⊢
    go_simp
    try rfl
  refine ⟨.eq (.bool true), trivial, rfl, fun aa ww ll hh => ?_, ?_⟩
  · have ec : ∀ v, aa.eval (.const v) = v := fun _ => rfl
    refine OutR.out_val (BR.refl _ _ _ _) (wanted_none rfl) ?_
    rw [ex_moveO (by first | exact .inl rfl | exact .inr rfl) (ec _)]
  intro ll w3 hS3 hok
  have p30 := hok 30 _ rfl
  clear hok
  simp only [List.reverse_cons, List.reverse_nil, List.nil_append, List.cons_append, OutR.layO, OutR.Out.val, Act.put, List.setIfInBounds_toArray, List.set_cons_zero, List.set_cons_succ]
  have HF3 : Hid (Fr (· = X) w w3) := ⟨hS3.low.os.trans HB0.out.os, hS3.low.tape.trans HB0.out.tape, hS3.low.output.trans HB0.out.output, Nat.le_trans HB0.out.size hS3.low.size, fun k hk _ => (hS3.oth k (Nat.lt_of_lt_of_le hk HB0.out.size) (by omega)).trans (HB0.out.block k hk)⟩
  have HP3 : Hid (PktB base w3 X (x.acc false) r v f mm fs) := HP.out.acc0.kept fun k hk => (hS3.oth k (Nat.lt_of_lt_of_le (HP.out.blk hk).2 HB0.out.size) (by have := (HP.out.blk hk).2; omega)).trans (HB0.out.block k (HP.out.blk hk).2)
  obtain ⟨b0, b1, -, -⟩ := Bx2.cells p30
  clear p30
  go_wp2_with fail
  refine bodyPost_ret (v := .tuple #[.agg #[.int .u64 (y3 : Int), .int .u64 (z3 : Int)], .bool true]) ?_ rfl ⟨by rw [HR3.out], HP3.out, HF3.out⟩
  simp [results, Try.results45, go_sem, b0, b1]

end Go.Proofs.Ytehcclcokgmplaa

/-
  A node of code, done: what it lays on the stack.
-/
namespace Go.Proofs.Ytehcclcokgmplaa
open Go.RowKit Go.Maps

theorem Stk.base {w : World} {n0 m : Nat} {x : Value × Value} {st : List (Nat × Int)} (h : Stk w n0 m x st) : n0 ≤ w.heap.size := by
  obtain ⟨v, h1, -, -, h4, -⟩ := h
  exact Nat.le_trans h4 (Nat.le_of_lt (Array.getElem?_eq_some_iff.1 h1).1)
theorem NodeAt.cells {w : World} {g : Nat} {op c1 c2 c3 c4 c5 : Int} (h : NodeAt w g op c1 c2 c3 c4 c5) : w.cell? ⟨g, 0, none⟩ = some (.int .u8 op) ∧ w.cell? ⟨g, 1, none⟩ = some (.int .i64 c1) ∧ w.cell? ⟨g, 2, none⟩ = some (.int .i64 c2) ∧ w.cell? ⟨g, 3, none⟩ = some (.int .i64 c3) ∧ w.cell? ⟨g, 4, none⟩ = some (.int .u64 c4) ∧ w.cell? ⟨g, 5, none⟩ = some (.int .u64 c5) := by
  unfold NodeAt at h
  refine ⟨?_, ?_, ?_, ?_, ?_, ?_⟩ <;> simp [World.cell?, h]

end Go.Proofs.Ytehcclcokgmplaa
