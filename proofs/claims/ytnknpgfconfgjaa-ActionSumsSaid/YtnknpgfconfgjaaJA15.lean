/-
  Lemmas, joined: Law21X, Law21C0.
-/
import Derived.Test.YtnknpgfconfgjaaJA06
import Derived.Test.YtnknpgfconfgjaaJA14
import Derived.Test.YtnknpgfconfgjaaJA13
/-
  What single operations on numbers and nodes yield.
-/
namespace Go.Proofs.Ytnknpgfconfgjaa
open Go.RowKit Go.Maps

section
variable {P : Program} {o : Oper} {w : World} {ev : Operand → Value}
theorem ex_load_num {x : Operand} {g : Nat} {a b : Int} (h : o.op = .load 24 x) (hx : ev x = .pointer (some ⟨g, 0, none⟩)) (h0 : w.cell? ⟨g, 0, none⟩ = some (.int .u64 a)) (h1 : w.cell? ⟨g, 1, none⟩ = some (.int .u64 b)) :
    (execOp ev o).run Try.prog w = .ok (.value (.agg #[.int .u64 a, .int .u64 b])) w := by
  unfold execOp; rw [h]; dsimp only; rw [hx]; go_simp
theorem ex_load_int {x : Operand} {g : Nat} {v : Int} (h : o.op = .load 3 x) (hx : ev x = .pointer (some ⟨g, 0, none⟩)) (h0 : w.cell? ⟨g, 0, none⟩ = some (.int .i64 v)) :
    (execOp ev o).run Try.prog w = .ok (.value (.int .i64 v)) w := by
  unfold execOp; rw [h]; dsimp only; rw [hx]; go_simp
theorem ex_load_node {x : Operand} {g : Nat} {a b c d e f : Value} (h : o.op = .load 33 x) (hx : ev x = .pointer (some ⟨g, 0, none⟩)) (h0 : w.cell? ⟨g, 0, none⟩ = some a) (h1 : w.cell? ⟨g, 1, none⟩ = some b) (h2 : w.cell? ⟨g, 2, none⟩ = some c) (h3 : w.cell? ⟨g, 3, none⟩ = some d) (h4 : w.cell? ⟨g, 4, none⟩ = some e) (h5 : w.cell? ⟨g, 5, none⟩ = some f) :
    (execOp ev o).run Try.prog w = .ok (.value (.agg #[a, b, c, d, e, f])) w := by
  unfold execOp; rw [h]; dsimp only; rw [hx]; go_simp
theorem ex_build_node {k v : Int} {x : Operand} (h : o.op = .build 33 #[(0, .const (.int .u8 k)), (1, x)]) (hc : ev (.const (.int .u8 k)) = .int .u8 k) (hx : ev x = .int .i64 v) :
    (execOp ev o).run Try.prog w = .ok (.value (.agg #[.int .u8 k, .int .i64 v, .int .i64 0, .int .i64 0, .int .u64 0, .int .u64 0])) w := by
  unfold execOp; rw [h]; dsimp only
  simp only [List.map_toArray, List.map_cons, List.map_nil]
  rw [hc, hx]; go_simp
theorem ex_build_num (h : o.op = .build 24 #[]) : (execOp ev o).run Try.prog w = .ok (.value (.agg #[.int .u64 0, .int .u64 0])) w := by
  unfold execOp; rw [h]; dsimp only; go_simp
theorem ex_neq {x y : Operand} {a b : Int} (h : o.op = .binOp .neq 24 x y 24) (hx : ev x = .agg #[.int .u64 a, .int .u64 b]) (hy : ev y = .agg #[.int .u64 a, .int .u64 b]) :
    (execOp ev o).run Try.prog w = .ok (.value (.bool false)) w := by
  unfold execOp; rw [h]; dsimp only; rw [hx, hy]
  have hneq := neq_same
  go_simp
theorem ex_slice3 {x y z : Operand} {a0 a1 a2 a3 a4 a5 b0 b1 b2 b3 b4 b5 c0 c1 c2 c3 c4 c5 : Value} (h : o.op = .buildSlice 36 3 #[(0, x), (1, y), (2, z)]) (hx : ev x = .agg #[a0, a1, a2, a3, a4, a5]) (hy : ev y = .agg #[b0, b1, b2, b3, b4, b5]) (hz : ev z = .agg #[c0, c1, c2, c3, c4, c5]) :
    (execOp ev o).run Try.prog w = .ok (.value (.slice (some ⟨w.heap.size, 0, none⟩) 3 3)) (w.alloc (.cells #[a0, a1, a2, a3, a4, a5, b0, b1, b2, b3, b4, b5, c0, c1, c2, c3, c4, c5] 33)) := by
  unfold execOp; rw [h]; dsimp only
  simp only [List.map_toArray, List.map_cons, List.map_nil]
  rw [hx, hy, hz]; go_simp
theorem ex_slice4 {x y z u : Operand} {a0 a1 a2 a3 a4 a5 b0 b1 b2 b3 b4 b5 c0 c1 c2 c3 c4 c5 d0 d1 d2 d3 d4 d5 : Value} (h : o.op = .buildSlice 36 4 #[(0, x), (1, y), (2, z), (3, u)]) (hx : ev x = .agg #[a0, a1, a2, a3, a4, a5]) (hy : ev y = .agg #[b0, b1, b2, b3, b4, b5]) (hz : ev z = .agg #[c0, c1, c2, c3, c4, c5]) (hu : ev u = .agg #[d0, d1, d2, d3, d4, d5]) :
    (execOp ev o).run Try.prog w = .ok (.value (.slice (some ⟨w.heap.size, 0, none⟩) 4 4)) (w.alloc (.cells #[a0, a1, a2, a3, a4, a5, b0, b1, b2, b3, b4, b5, c0, c1, c2, c3, c4, c5, d0, d1, d2, d3, d4, d5] 33)) := by
  unfold execOp; rw [h]; dsimp only
  simp only [List.map_toArray, List.map_cons, List.map_nil]
  rw [hx, hy, hz, hu]; go_simp
end

end Go.Proofs.Ytnknpgfconfgjaa

/-
  The law ActionSums of layer 21: the region of the sums
-/
namespace Go.Proofs.Ytnknpgfconfgjaa
open Go.RowKit Go.Maps

def sR (gA gB gW gP gx gM gN gD ay az bY bZ my mz ny nz r1y r1z r2y r2z r5y r5z : Nat) (Wi : Int) (w0 : World) : Rw where
  n0 := w0.heap.size
  dep := fun _ => False
  kd := [isV (.func (Fn.func 8) #[] #[.pointer (some ⟨gP, 0, none⟩)]),
    isV (.func (Fn.func 6) #[] #[.pointer (some ⟨gW, 0, none⟩)]),
    isV (.agg #[.int .u64 (ay : Int), .int .u64 (az : Int)]),
    isV (.agg #[.int .u8 1, .int .i64 Wi, .int .i64 0, .int .i64 0, .int .u64 (my : Int), .int .u64 (mz : Int)]),
    isV (.func (Fn.func 6) #[] #[.pointer (some ⟨gW, 0, none⟩)]),
    isV (.agg #[.int .u64 (bY : Int), .int .u64 (bZ : Int)]),
    isV (.agg #[.int .u8 1, .int .i64 Wi, .int .i64 0, .int .i64 0, .int .u64 (ny : Int), .int .u64 (nz : Int)]),
    isV (.int .i64 Wi),
    isV (.agg #[.int .u8 11, .int .i64 Wi, .int .i64 0, .int .i64 0, .int .u64 0, .int .u64 0]),
    ([], TSl 3 #[.int .u8 1, .int .i64 Wi, .int .i64 0, .int .i64 0, .int .u64 (my : Int), .int .u64 (mz : Int), .int .u8 1, .int .i64 Wi, .int .i64 0, .int .i64 0, .int .u64 (ny : Int), .int .u64 (nz : Int), .int .u8 11, .int .i64 Wi, .int .i64 0, .int .i64 0, .int .u64 0, .int .u64 0] 33),
    isV (.agg #[.int .u64 (r1y : Int), .int .u64 (r1z : Int)]),
    isV (.agg #[.int .u64 (my : Int), .int .u64 (mz : Int)]),
    isV (.agg #[.int .u64 (ny : Int), .int .u64 (nz : Int)]),
    isV (.int .i64 Wi),
    isV (.agg #[.int .u64 (r1y : Int), .int .u64 (r1z : Int)]),
    isV (.bool false),
    isV (.bool false),
    isV (.func (Fn.func 8) #[] #[.pointer (some ⟨gP, 0, none⟩)]),
    isV (.func (Fn.func 6) #[] #[.pointer (some ⟨gW, 0, none⟩)]),
    isV (.agg #[.int .u64 (ay : Int), .int .u64 (az : Int)]),
    isV (.agg #[.int .u8 1, .int .i64 Wi, .int .i64 0, .int .i64 0, .int .u64 (my : Int), .int .u64 (mz : Int)]),
    isV (.func (Fn.func 6) #[] #[.pointer (some ⟨gW, 0, none⟩)]),
    isV (.agg #[.int .u64 (bY : Int), .int .u64 (bZ : Int)]),
    isV (.agg #[.int .u8 1, .int .i64 Wi, .int .i64 0, .int .i64 0, .int .u64 (ny : Int), .int .u64 (nz : Int)]),
    isV (.int .i64 Wi),
    isV (.agg #[.int .u8 12, .int .i64 Wi, .int .i64 0, .int .i64 0, .int .u64 0, .int .u64 0]),
    ([], TSl 3 #[.int .u8 1, .int .i64 Wi, .int .i64 0, .int .i64 0, .int .u64 (my : Int), .int .u64 (mz : Int), .int .u8 1, .int .i64 Wi, .int .i64 0, .int .i64 0, .int .u64 (ny : Int), .int .u64 (nz : Int), .int .u8 12, .int .i64 Wi, .int .i64 0, .int .i64 0, .int .u64 0, .int .u64 0] 33),
    isV (.agg #[.int .u64 (r2y : Int), .int .u64 (r2z : Int)]),
    isV (.agg #[.int .u64 (my : Int), .int .u64 (mz : Int)]),
    isV (.agg #[.int .u64 (ny : Int), .int .u64 (nz : Int)]),
    isV (.int .i64 Wi),
    isV (.agg #[.int .u64 (r2y : Int), .int .u64 (r2z : Int)]),
    isV (.bool false),
    isV (.bool false),
    isV (.bool false),
    isV (.func (Fn.func 8) #[] #[.pointer (some ⟨gP, 0, none⟩)]),
    isV (.func (Fn.func 6) #[] #[.pointer (some ⟨gW, 0, none⟩)]),
    isV (.agg #[.int .u64 (ay : Int), .int .u64 (az : Int)]),
    isV (.agg #[.int .u8 1, .int .i64 Wi, .int .i64 0, .int .i64 0, .int .u64 (my : Int), .int .u64 (mz : Int)]),
    isV (.agg #[.int .u8 7, .int .i64 Wi, .int .i64 0, .int .i64 0, .int .u64 0, .int .u64 0]),
    isV (.agg #[.int .u8 7, .int .i64 Wi, .int .i64 0, .int .i64 0, .int .u64 0, .int .u64 0]),
    ([], TSl 3 #[.int .u8 1, .int .i64 Wi, .int .i64 0, .int .i64 0, .int .u64 (my : Int), .int .u64 (mz : Int), .int .u8 7, .int .i64 Wi, .int .i64 0, .int .i64 0, .int .u64 0, .int .u64 0, .int .u8 7, .int .i64 Wi, .int .i64 0, .int .i64 0, .int .u64 0, .int .u64 0] 33),
    isV (.agg #[.int .u64 (my : Int), .int .u64 (mz : Int)]),
    isV (.agg #[.int .u64 (my : Int), .int .u64 (mz : Int)]),
    isV (.bool false),
    isV (.bool false),
    isV (.bool false),
    isV (.func (Fn.func 8) #[] #[.pointer (some ⟨gP, 0, none⟩)]),
    isV (.func (Fn.func 6) #[] #[.pointer (some ⟨gW, 0, none⟩)]),
    isV (.agg #[.int .u64 (ay : Int), .int .u64 (az : Int)]),
    isV (.agg #[.int .u8 1, .int .i64 Wi, .int .i64 0, .int .i64 0, .int .u64 (my : Int), .int .u64 (mz : Int)]),
    isV (.int .i64 Wi),
    isV (.agg #[.int .u8 8, .int .i64 Wi, .int .i64 0, .int .i64 0, .int .u64 0, .int .u64 0]),
    isV (.func (Fn.func 6) #[] #[.pointer (some ⟨gW, 0, none⟩)]),
    isV (.agg #[.int .u64 (ay : Int), .int .u64 (az : Int)]),
    isV (.agg #[.int .u8 1, .int .i64 Wi, .int .i64 0, .int .i64 0, .int .u64 (my : Int), .int .u64 (mz : Int)]),
    isV (.int .i64 Wi),
    isV (.agg #[.int .u8 11, .int .i64 Wi, .int .i64 0, .int .i64 0, .int .u64 0, .int .u64 0]),
    ([], TSl 4 #[.int .u8 1, .int .i64 Wi, .int .i64 0, .int .i64 0, .int .u64 (my : Int), .int .u64 (mz : Int), .int .u8 8, .int .i64 Wi, .int .i64 0, .int .i64 0, .int .u64 0, .int .u64 0, .int .u8 1, .int .i64 Wi, .int .i64 0, .int .i64 0, .int .u64 (my : Int), .int .u64 (mz : Int), .int .u8 11, .int .i64 Wi, .int .i64 0, .int .i64 0, .int .u64 0, .int .u64 0] 33),
    isV (.agg #[.int .u64 0, .int .u64 0]),
    isV (.agg #[.int .u64 0, .int .u64 0]),
    isV (.bool false),
    isV (.bool false)]
  G := fun _ _ w => Below w0.heap.size w0 w

set_option maxRecDepth 100000 in
set_option maxHeartbeats 4000000 in
theorem sR_fine {gA gB gW gP gx gM gN gD ay az bY bZ my mz ny nz r1y r1z r2y r2z r5y r5z : Nat} {Wi : Int} {w0 : World} : (sR gA gB gW gP gx gM gN gD ay az bY bZ my mz ny nz r1y r1z r2y r2z r5y r5z Wi w0).Fine where
  old := fun _ h => h.elim
  stab := fun i js P hk B w w' ls v hp _ hw hs => by
    match i, hk with
    | 0, hk => cases hk; exact hp
    | 1, hk => cases hk; exact hp
    | 2, hk => cases hk; exact hp
    | 3, hk => cases hk; exact hp
    | 4, hk => cases hk; exact hp
    | 5, hk => cases hk; exact hp
    | 6, hk => cases hk; exact hp
    | 7, hk => cases hk; exact hp
    | 8, hk => cases hk; exact hp
    | 9, hk => cases hk; exact TSl.stab hp hw
    | 10, hk => cases hk; exact hp
    | 11, hk => cases hk; exact hp
    | 12, hk => cases hk; exact hp
    | 13, hk => cases hk; exact hp
    | 14, hk => cases hk; exact hp
    | 15, hk => cases hk; exact hp
    | 16, hk => cases hk; exact hp
    | 17, hk => cases hk; exact hp
    | 18, hk => cases hk; exact hp
    | 19, hk => cases hk; exact hp
    | 20, hk => cases hk; exact hp
    | 21, hk => cases hk; exact hp
    | 22, hk => cases hk; exact hp
    | 23, hk => cases hk; exact hp
    | 24, hk => cases hk; exact hp
    | 25, hk => cases hk; exact hp
    | 26, hk => cases hk; exact TSl.stab hp hw
    | 27, hk => cases hk; exact hp
    | 28, hk => cases hk; exact hp
    | 29, hk => cases hk; exact hp
    | 30, hk => cases hk; exact hp
    | 31, hk => cases hk; exact hp
    | 32, hk => cases hk; exact hp
    | 33, hk => cases hk; exact hp
    | 34, hk => cases hk; exact hp
    | 35, hk => cases hk; exact hp
    | 36, hk => cases hk; exact hp
    | 37, hk => cases hk; exact hp
    | 38, hk => cases hk; exact hp
    | 39, hk => cases hk; exact hp
    | 40, hk => cases hk; exact hp
    | 41, hk => cases hk; exact TSl.stab hp hw
    | 42, hk => cases hk; exact hp
    | 43, hk => cases hk; exact hp
    | 44, hk => cases hk; exact hp
    | 45, hk => cases hk; exact hp
    | 46, hk => cases hk; exact hp
    | 47, hk => cases hk; exact hp
    | 48, hk => cases hk; exact hp
    | 49, hk => cases hk; exact hp
    | 50, hk => cases hk; exact hp
    | 51, hk => cases hk; exact hp
    | 52, hk => cases hk; exact hp
    | 53, hk => cases hk; exact hp
    | 54, hk => cases hk; exact hp
    | 55, hk => cases hk; exact hp
    | 56, hk => cases hk; exact hp
    | 57, hk => cases hk; exact hp
    | 58, hk => cases hk; exact TSl.stab hp hw
    | 59, hk => cases hk; exact hp
    | 60, hk => cases hk; exact hp
    | 61, hk => cases hk; exact hp
    | 62, hk => cases hk; exact hp
    | i + 63, hk => simp [sR] at hk

structure C8 (gA gB gW gP gx gM gN gD ay az bY bZ my mz ny nz r1y r1z r2y r2z r5y r5z : Nat) (Wi : Int) (WB : World) (T : List Value) : Prop where
  len : 40 ≤ T.length
  t4 : nth T 4 = .pointer (some ⟨gA, 0, none⟩)
  t5 : nth T 5 = .pointer (some ⟨gB, 0, none⟩)
  t6 : nth T 6 = .pointer (some ⟨gW, 0, none⟩)
  t9 : nth T 9 = .pointer (some ⟨gP, 0, none⟩)
  t10 : nth T 10 = .func (Fn.func 6) #[] #[.pointer (some ⟨gW, 0, none⟩)]
  t11 : nth T 11 = .func (Fn.func 8) #[] #[.pointer (some ⟨gP, 0, none⟩)]
  t12 : nth T 12 = .pointer (some ⟨gM, 0, none⟩)
  t13 : nth T 13 = .pointer (some ⟨gN, 0, none⟩)
  t14 : nth T 14 = .pointer (some ⟨gD, 0, none⟩)
  cells : ∀ W, Below WB.heap.size WB W → W.cell? ⟨gA, 0, none⟩ = some (.int .u64 (ay : Int)) ∧ W.cell? ⟨gA, 1, none⟩ = some (.int .u64 (az : Int)) ∧ W.cell? ⟨gB, 0, none⟩ = some (.int .u64 (bY : Int)) ∧ W.cell? ⟨gB, 1, none⟩ = some (.int .u64 (bZ : Int)) ∧ W.cell? ⟨gW, 0, none⟩ = some (.int .i64 Wi) ∧ W.cell? ⟨gP, 0, none⟩ = some (.pointer (some ⟨gx, 0, none⟩)) ∧ W.cell? ⟨gM, 0, none⟩ = some (.int .u64 (my : Int)) ∧ W.cell? ⟨gM, 1, none⟩ = some (.int .u64 (mz : Int)) ∧ W.cell? ⟨gN, 0, none⟩ = some (.int .u64 (ny : Int)) ∧ W.cell? ⟨gN, 1, none⟩ = some (.int .u64 (nz : Int)) ∧ W.cell? ⟨gD, 0, none⟩ = some (.int .u8 7) ∧ W.cell? ⟨gD, 1, none⟩ = some (.int .i64 Wi) ∧ W.cell? ⟨gD, 2, none⟩ = some (.int .i64 0) ∧ W.cell? ⟨gD, 3, none⟩ = some (.int .i64 0) ∧ W.cell? ⟨gD, 4, none⟩ = some (.int .u64 0) ∧ W.cell? ⟨gD, 5, none⟩ = some (.int .u64 0)
  HCA : ∀ W', W'.cell? ⟨gW, 0, none⟩ = some (.int .i64 Wi) → Calls Try.prog 6 #[.agg #[.int .u64 (ay : Int), .int .u64 (az : Int)], .pointer (some ⟨gW, 0, none⟩)] W' fun e w' => e = .returned (.agg #[.int .u8 1, .int .i64 Wi, .int .i64 0, .int .i64 0, .int .u64 (my : Int), .int .u64 (mz : Int)]) ∧ Below W'.heap.size W' w'
  HCB : ∀ W', W'.cell? ⟨gW, 0, none⟩ = some (.int .i64 Wi) → Calls Try.prog 6 #[.agg #[.int .u64 (bY : Int), .int .u64 (bZ : Int)], .pointer (some ⟨gW, 0, none⟩)] W' fun e w' => e = .returned (.agg #[.int .u8 1, .int .i64 Wi, .int .i64 0, .int .i64 0, .int .u64 (ny : Int), .int .u64 (nz : Int)]) ∧ Below W'.heap.size W' w'
  HADD : ∀ W', Calls Try.prog 10 #[.agg #[.int .u64 (my : Int), .int .u64 (mz : Int)], .agg #[.int .u64 (ny : Int), .int .u64 (nz : Int)], .int .i64 Wi] W' fun e w' => e = .returned (.agg #[.int .u64 (r1y : Int), .int .u64 (r1z : Int)]) ∧ Below W'.heap.size W' w'
  HSUB : ∀ W', Calls Try.prog 11 #[.agg #[.int .u64 (my : Int), .int .u64 (mz : Int)], .agg #[.int .u64 (ny : Int), .int .u64 (nz : Int)], .int .i64 Wi] W' fun e w' => e = .returned (.agg #[.int .u64 (r2y : Int), .int .u64 (r2z : Int)]) ∧ Below W'.heap.size W' w'
  HOF1 : ∀ W' gc, W'.cell? ⟨gP, 0, none⟩ = some (.pointer (some ⟨gx, 0, none⟩)) → W'.heap[gc]? = some (.cells #[.int .u8 1, .int .i64 Wi, .int .i64 0, .int .i64 0, .int .u64 (my : Int), .int .u64 (mz : Int), .int .u8 1, .int .i64 Wi, .int .i64 0, .int .i64 0, .int .u64 (ny : Int), .int .u64 (nz : Int), .int .u8 11, .int .i64 Wi, .int .i64 0, .int .i64 0, .int .u64 0, .int .u64 0] 33 (0, 0)) → Calls Try.prog 8 #[.slice (some ⟨gc, 0, none⟩) 3 3, .pointer (some ⟨gP, 0, none⟩)] W' fun e w' => e = .returned (.agg #[.int .u64 (r1y : Int), .int .u64 (r1z : Int)]) ∧ Below W'.heap.size W' w'
  HOF2 : ∀ W' gc, W'.cell? ⟨gP, 0, none⟩ = some (.pointer (some ⟨gx, 0, none⟩)) → W'.heap[gc]? = some (.cells #[.int .u8 1, .int .i64 Wi, .int .i64 0, .int .i64 0, .int .u64 (my : Int), .int .u64 (mz : Int), .int .u8 1, .int .i64 Wi, .int .i64 0, .int .i64 0, .int .u64 (ny : Int), .int .u64 (nz : Int), .int .u8 12, .int .i64 Wi, .int .i64 0, .int .i64 0, .int .u64 0, .int .u64 0] 33 (0, 0)) → Calls Try.prog 8 #[.slice (some ⟨gc, 0, none⟩) 3 3, .pointer (some ⟨gP, 0, none⟩)] W' fun e w' => e = .returned (.agg #[.int .u64 (r2y : Int), .int .u64 (r2z : Int)]) ∧ Below W'.heap.size W' w'
  HOF3 : ∀ W' gc, W'.cell? ⟨gP, 0, none⟩ = some (.pointer (some ⟨gx, 0, none⟩)) → W'.heap[gc]? = some (.cells #[.int .u8 1, .int .i64 Wi, .int .i64 0, .int .i64 0, .int .u64 (my : Int), .int .u64 (mz : Int), .int .u8 7, .int .i64 Wi, .int .i64 0, .int .i64 0, .int .u64 0, .int .u64 0, .int .u8 7, .int .i64 Wi, .int .i64 0, .int .i64 0, .int .u64 0, .int .u64 0] 33 (0, 0)) → Calls Try.prog 8 #[.slice (some ⟨gc, 0, none⟩) 3 3, .pointer (some ⟨gP, 0, none⟩)] W' fun e w' => e = .returned (.agg #[.int .u64 (my : Int), .int .u64 (mz : Int)]) ∧ Below W'.heap.size W' w'
  HOF4 : ∀ W' gc, W'.cell? ⟨gP, 0, none⟩ = some (.pointer (some ⟨gx, 0, none⟩)) → W'.heap[gc]? = some (.cells #[.int .u8 1, .int .i64 Wi, .int .i64 0, .int .i64 0, .int .u64 (my : Int), .int .u64 (mz : Int), .int .u8 8, .int .i64 Wi, .int .i64 0, .int .i64 0, .int .u64 0, .int .u64 0, .int .u8 1, .int .i64 Wi, .int .i64 0, .int .i64 0, .int .u64 (my : Int), .int .u64 (mz : Int), .int .u8 11, .int .i64 Wi, .int .i64 0, .int .i64 0, .int .u64 0, .int .u64 0] 33 (0, 0)) → Calls Try.prog 8 #[.slice (some ⟨gc, 0, none⟩) 4 4, .pointer (some ⟨gP, 0, none⟩)] W' fun e w' => e = .returned (.agg #[.int .u64 0, .int .u64 0]) ∧ Below W'.heap.size W' w'

theorem sR_stays {gA gB gW gP gx gM gN gD ay az bY bZ my mz ny nz r1y r1z r2y r2z r5y r5z : Nat} {Wi : Int} {w0 : World} : GStays (sR gA gB gW gP gx gM gN gD ay az bY bZ my mz ny nz r1y r1z r2y r2z r5y r5z Wi w0) := fun _ _ _ _ _ _ hb hg => Below.trans hg (hb.mono hg.size)

theorem op8_0 : ∃ o, reg8.1[0]? = some o ∧ o.dst = some (40 + 0) ∧ o.guard = none ∧ o.op = Go.Op.move (Go.Operand.tmp 11) := ⟨_, rfl, rfl, rfl, rfl⟩
theorem op8_1 : ∃ o, reg8.1[1]? = some o ∧ o.dst = some (40 + 1) ∧ o.guard = none ∧ o.op = Go.Op.move (Go.Operand.tmp 10) := ⟨_, rfl, rfl, rfl, rfl⟩
theorem op8_2 : ∃ o, reg8.1[2]? = some o ∧ o.dst = some (40 + 2) ∧ o.guard = none ∧ o.op = Go.Op.load 24 (Go.Operand.tmp 4) := ⟨_, rfl, rfl, rfl, rfl⟩
theorem op8_3 : ∃ o, reg8.1[3]? = some o ∧ o.dst = some (40 + 3) ∧ o.guard = none ∧ o.op = Go.Op.call { callee := Go.Callee.value (Go.Operand.tmp 41), args := #[Go.Operand.tmp 42], argTypes := #[24] } := ⟨_, rfl, rfl, rfl, rfl⟩
theorem op8_4 : ∃ o, reg8.1[4]? = some o ∧ o.dst = some (40 + 4) ∧ o.guard = none ∧ o.op = Go.Op.move (Go.Operand.tmp 10) := ⟨_, rfl, rfl, rfl, rfl⟩
theorem op8_5 : ∃ o, reg8.1[5]? = some o ∧ o.dst = some (40 + 5) ∧ o.guard = none ∧ o.op = Go.Op.load 24 (Go.Operand.tmp 5) := ⟨_, rfl, rfl, rfl, rfl⟩
theorem op8_6 : ∃ o, reg8.1[6]? = some o ∧ o.dst = some (40 + 6) ∧ o.guard = none ∧ o.op = Go.Op.call { callee := Go.Callee.value (Go.Operand.tmp 44), args := #[Go.Operand.tmp 45], argTypes := #[24] } := ⟨_, rfl, rfl, rfl, rfl⟩
theorem op8_7 : ∃ o, reg8.1[7]? = some o ∧ o.dst = some (40 + 7) ∧ o.guard = none ∧ o.op = Go.Op.load 3 (Go.Operand.tmp 6) := ⟨_, rfl, rfl, rfl, rfl⟩
theorem op8_8 : ∃ o, reg8.1[8]? = some o ∧ o.dst = some (40 + 8) ∧ o.guard = none ∧ o.op = Go.Op.build 33 #[(0, Go.Operand.const (Go.Value.int Go.IntKind.u8 11)), (1, Go.Operand.tmp 47)] := ⟨_, rfl, rfl, rfl, rfl⟩
theorem op8_9 : ∃ o, reg8.1[9]? = some o ∧ o.dst = some (40 + 9) ∧ o.guard = none ∧ o.op = Go.Op.buildSlice 36 3 #[(0, Go.Operand.tmp 43), (1, Go.Operand.tmp 46), (2, Go.Operand.tmp 48)] := ⟨_, rfl, rfl, rfl, rfl⟩
theorem op8_10 : ∃ o, reg8.1[10]? = some o ∧ o.dst = some (40 + 10) ∧ o.guard = none ∧ o.op = Go.Op.call { callee := Go.Callee.value (Go.Operand.tmp 40), args := #[Go.Operand.tmp 49], argTypes := #[36] } := ⟨_, rfl, rfl, rfl, rfl⟩
theorem op8_11 : ∃ o, reg8.1[11]? = some o ∧ o.dst = some (40 + 11) ∧ o.guard = none ∧ o.op = Go.Op.load 24 (Go.Operand.tmp 12) := ⟨_, rfl, rfl, rfl, rfl⟩
theorem op8_12 : ∃ o, reg8.1[12]? = some o ∧ o.dst = some (40 + 12) ∧ o.guard = none ∧ o.op = Go.Op.load 24 (Go.Operand.tmp 13) := ⟨_, rfl, rfl, rfl, rfl⟩
theorem op8_13 : ∃ o, reg8.1[13]? = some o ∧ o.dst = some (40 + 13) ∧ o.guard = none ∧ o.op = Go.Op.load 3 (Go.Operand.tmp 6) := ⟨_, rfl, rfl, rfl, rfl⟩
theorem op8_14 : ∃ o, reg8.1[14]? = some o ∧ o.dst = some (40 + 14) ∧ o.guard = none ∧ o.op = Go.Op.call { callee := Go.Callee.value (Go.Operand.func 10), args := #[Go.Operand.tmp 51, Go.Operand.tmp 52, Go.Operand.tmp 53], argTypes := #[24, 24, 3] } := ⟨_, rfl, rfl, rfl, rfl⟩
theorem op8_15 : ∃ o, reg8.1[15]? = some o ∧ o.dst = some (40 + 15) ∧ o.guard = none ∧ o.op = Go.Op.binOp Go.BinOp.neq 24 (Go.Operand.tmp 50) (Go.Operand.tmp 54) 24 := ⟨_, rfl, rfl, rfl, rfl⟩
theorem op8_16 : ∃ o, reg8.1[16]? = some o ∧ o.dst = some (40 + 16) ∧ o.guard = none ∧ o.op = Go.Op.move (Go.Operand.tmp 55) := ⟨_, rfl, rfl, rfl, rfl⟩
theorem op8_17 : ∃ o, reg8.1[17]? = some o ∧ o.dst = some (40 + 17) ∧ o.guard = some (16, false) ∧ o.op = Go.Op.move (Go.Operand.tmp 11) := ⟨_, rfl, rfl, rfl, rfl⟩
theorem op8_18 : ∃ o, reg8.1[18]? = some o ∧ o.dst = some (40 + 18) ∧ o.guard = some (16, false) ∧ o.op = Go.Op.move (Go.Operand.tmp 10) := ⟨_, rfl, rfl, rfl, rfl⟩
theorem op8_19 : ∃ o, reg8.1[19]? = some o ∧ o.dst = some (40 + 19) ∧ o.guard = some (16, false) ∧ o.op = Go.Op.load 24 (Go.Operand.tmp 4) := ⟨_, rfl, rfl, rfl, rfl⟩
theorem op8_20 : ∃ o, reg8.1[20]? = some o ∧ o.dst = some (40 + 20) ∧ o.guard = some (16, false) ∧ o.op = Go.Op.call { callee := Go.Callee.value (Go.Operand.tmp 58), args := #[Go.Operand.tmp 59], argTypes := #[24] } := ⟨_, rfl, rfl, rfl, rfl⟩
theorem op8_21 : ∃ o, reg8.1[21]? = some o ∧ o.dst = some (40 + 21) ∧ o.guard = some (16, false) ∧ o.op = Go.Op.move (Go.Operand.tmp 10) := ⟨_, rfl, rfl, rfl, rfl⟩
theorem op8_22 : ∃ o, reg8.1[22]? = some o ∧ o.dst = some (40 + 22) ∧ o.guard = some (16, false) ∧ o.op = Go.Op.load 24 (Go.Operand.tmp 5) := ⟨_, rfl, rfl, rfl, rfl⟩
theorem op8_23 : ∃ o, reg8.1[23]? = some o ∧ o.dst = some (40 + 23) ∧ o.guard = some (16, false) ∧ o.op = Go.Op.call { callee := Go.Callee.value (Go.Operand.tmp 61), args := #[Go.Operand.tmp 62], argTypes := #[24] } := ⟨_, rfl, rfl, rfl, rfl⟩
theorem op8_24 : ∃ o, reg8.1[24]? = some o ∧ o.dst = some (40 + 24) ∧ o.guard = some (16, false) ∧ o.op = Go.Op.load 3 (Go.Operand.tmp 6) := ⟨_, rfl, rfl, rfl, rfl⟩
theorem op8_25 : ∃ o, reg8.1[25]? = some o ∧ o.dst = some (40 + 25) ∧ o.guard = some (16, false) ∧ o.op = Go.Op.build 33 #[(0, Go.Operand.const (Go.Value.int Go.IntKind.u8 12)), (1, Go.Operand.tmp 64)] := ⟨_, rfl, rfl, rfl, rfl⟩
theorem op8_26 : ∃ o, reg8.1[26]? = some o ∧ o.dst = some (40 + 26) ∧ o.guard = some (16, false) ∧ o.op = Go.Op.buildSlice 36 3 #[(0, Go.Operand.tmp 60), (1, Go.Operand.tmp 63), (2, Go.Operand.tmp 65)] := ⟨_, rfl, rfl, rfl, rfl⟩
theorem op8_27 : ∃ o, reg8.1[27]? = some o ∧ o.dst = some (40 + 27) ∧ o.guard = some (16, false) ∧ o.op = Go.Op.call { callee := Go.Callee.value (Go.Operand.tmp 57), args := #[Go.Operand.tmp 66], argTypes := #[36] } := ⟨_, rfl, rfl, rfl, rfl⟩
theorem op8_28 : ∃ o, reg8.1[28]? = some o ∧ o.dst = some (40 + 28) ∧ o.guard = some (16, false) ∧ o.op = Go.Op.load 24 (Go.Operand.tmp 12) := ⟨_, rfl, rfl, rfl, rfl⟩
theorem op8_29 : ∃ o, reg8.1[29]? = some o ∧ o.dst = some (40 + 29) ∧ o.guard = some (16, false) ∧ o.op = Go.Op.load 24 (Go.Operand.tmp 13) := ⟨_, rfl, rfl, rfl, rfl⟩
theorem op8_30 : ∃ o, reg8.1[30]? = some o ∧ o.dst = some (40 + 30) ∧ o.guard = some (16, false) ∧ o.op = Go.Op.load 3 (Go.Operand.tmp 6) := ⟨_, rfl, rfl, rfl, rfl⟩
theorem op8_31 : ∃ o, reg8.1[31]? = some o ∧ o.dst = some (40 + 31) ∧ o.guard = some (16, false) ∧ o.op = Go.Op.call { callee := Go.Callee.value (Go.Operand.func 11), args := #[Go.Operand.tmp 68, Go.Operand.tmp 69, Go.Operand.tmp 70], argTypes := #[24, 24, 3] } := ⟨_, rfl, rfl, rfl, rfl⟩
theorem op8_32 : ∃ o, reg8.1[32]? = some o ∧ o.dst = some (40 + 32) ∧ o.guard = some (16, false) ∧ o.op = Go.Op.binOp Go.BinOp.neq 24 (Go.Operand.tmp 67) (Go.Operand.tmp 71) 24 := ⟨_, rfl, rfl, rfl, rfl⟩
theorem op8_33 : ∃ o, reg8.1[33]? = some o ∧ o.dst = some (40 + 33) ∧ o.guard = none ∧ o.op = Go.Op.pick (Go.Operand.tmp 56) (Go.Operand.const (Go.Value.bool true)) (Go.Operand.tmp 72) := ⟨_, rfl, rfl, rfl, rfl⟩
theorem op8_34 : ∃ o, reg8.1[34]? = some o ∧ o.dst = some (40 + 34) ∧ o.guard = none ∧ o.op = Go.Op.move (Go.Operand.tmp 73) := ⟨_, rfl, rfl, rfl, rfl⟩
theorem op8_35 : ∃ o, reg8.1[35]? = some o ∧ o.dst = some (40 + 35) ∧ o.guard = some (34, false) ∧ o.op = Go.Op.move (Go.Operand.tmp 11) := ⟨_, rfl, rfl, rfl, rfl⟩
theorem op8_36 : ∃ o, reg8.1[36]? = some o ∧ o.dst = some (40 + 36) ∧ o.guard = some (34, false) ∧ o.op = Go.Op.move (Go.Operand.tmp 10) := ⟨_, rfl, rfl, rfl, rfl⟩
theorem op8_37 : ∃ o, reg8.1[37]? = some o ∧ o.dst = some (40 + 37) ∧ o.guard = some (34, false) ∧ o.op = Go.Op.load 24 (Go.Operand.tmp 4) := ⟨_, rfl, rfl, rfl, rfl⟩
theorem op8_38 : ∃ o, reg8.1[38]? = some o ∧ o.dst = some (40 + 38) ∧ o.guard = some (34, false) ∧ o.op = Go.Op.call { callee := Go.Callee.value (Go.Operand.tmp 76), args := #[Go.Operand.tmp 77], argTypes := #[24] } := ⟨_, rfl, rfl, rfl, rfl⟩
theorem op8_39 : ∃ o, reg8.1[39]? = some o ∧ o.dst = some (40 + 39) ∧ o.guard = some (34, false) ∧ o.op = Go.Op.load 33 (Go.Operand.tmp 14) := ⟨_, rfl, rfl, rfl, rfl⟩
theorem op8_40 : ∃ o, reg8.1[40]? = some o ∧ o.dst = some (40 + 40) ∧ o.guard = some (34, false) ∧ o.op = Go.Op.load 33 (Go.Operand.tmp 14) := ⟨_, rfl, rfl, rfl, rfl⟩
theorem op8_41 : ∃ o, reg8.1[41]? = some o ∧ o.dst = some (40 + 41) ∧ o.guard = some (34, false) ∧ o.op = Go.Op.buildSlice 36 3 #[(0, Go.Operand.tmp 78), (1, Go.Operand.tmp 79), (2, Go.Operand.tmp 80)] := ⟨_, rfl, rfl, rfl, rfl⟩
theorem op8_42 : ∃ o, reg8.1[42]? = some o ∧ o.dst = some (40 + 42) ∧ o.guard = some (34, false) ∧ o.op = Go.Op.call { callee := Go.Callee.value (Go.Operand.tmp 75), args := #[Go.Operand.tmp 81], argTypes := #[36] } := ⟨_, rfl, rfl, rfl, rfl⟩
theorem op8_43 : ∃ o, reg8.1[43]? = some o ∧ o.dst = some (40 + 43) ∧ o.guard = some (34, false) ∧ o.op = Go.Op.load 24 (Go.Operand.tmp 12) := ⟨_, rfl, rfl, rfl, rfl⟩
theorem op8_44 : ∃ o, reg8.1[44]? = some o ∧ o.dst = some (40 + 44) ∧ o.guard = some (34, false) ∧ o.op = Go.Op.binOp Go.BinOp.neq 24 (Go.Operand.tmp 82) (Go.Operand.tmp 83) 24 := ⟨_, rfl, rfl, rfl, rfl⟩
theorem op8_45 : ∃ o, reg8.1[45]? = some o ∧ o.dst = some (40 + 45) ∧ o.guard = none ∧ o.op = Go.Op.pick (Go.Operand.tmp 74) (Go.Operand.const (Go.Value.bool true)) (Go.Operand.tmp 84) := ⟨_, rfl, rfl, rfl, rfl⟩
theorem op8_46 : ∃ o, reg8.1[46]? = some o ∧ o.dst = some (40 + 46) ∧ o.guard = none ∧ o.op = Go.Op.move (Go.Operand.tmp 85) := ⟨_, rfl, rfl, rfl, rfl⟩
theorem op8_47 : ∃ o, reg8.1[47]? = some o ∧ o.dst = some (40 + 47) ∧ o.guard = some (46, false) ∧ o.op = Go.Op.move (Go.Operand.tmp 11) := ⟨_, rfl, rfl, rfl, rfl⟩
theorem op8_48 : ∃ o, reg8.1[48]? = some o ∧ o.dst = some (40 + 48) ∧ o.guard = some (46, false) ∧ o.op = Go.Op.move (Go.Operand.tmp 10) := ⟨_, rfl, rfl, rfl, rfl⟩
theorem op8_49 : ∃ o, reg8.1[49]? = some o ∧ o.dst = some (40 + 49) ∧ o.guard = some (46, false) ∧ o.op = Go.Op.load 24 (Go.Operand.tmp 4) := ⟨_, rfl, rfl, rfl, rfl⟩
theorem op8_50 : ∃ o, reg8.1[50]? = some o ∧ o.dst = some (40 + 50) ∧ o.guard = some (46, false) ∧ o.op = Go.Op.call { callee := Go.Callee.value (Go.Operand.tmp 88), args := #[Go.Operand.tmp 89], argTypes := #[24] } := ⟨_, rfl, rfl, rfl, rfl⟩
theorem op8_51 : ∃ o, reg8.1[51]? = some o ∧ o.dst = some (40 + 51) ∧ o.guard = some (46, false) ∧ o.op = Go.Op.load 3 (Go.Operand.tmp 6) := ⟨_, rfl, rfl, rfl, rfl⟩
theorem op8_52 : ∃ o, reg8.1[52]? = some o ∧ o.dst = some (40 + 52) ∧ o.guard = some (46, false) ∧ o.op = Go.Op.build 33 #[(0, Go.Operand.const (Go.Value.int Go.IntKind.u8 8)), (1, Go.Operand.tmp 91)] := ⟨_, rfl, rfl, rfl, rfl⟩
theorem op8_53 : ∃ o, reg8.1[53]? = some o ∧ o.dst = some (40 + 53) ∧ o.guard = some (46, false) ∧ o.op = Go.Op.move (Go.Operand.tmp 10) := ⟨_, rfl, rfl, rfl, rfl⟩
theorem op8_54 : ∃ o, reg8.1[54]? = some o ∧ o.dst = some (40 + 54) ∧ o.guard = some (46, false) ∧ o.op = Go.Op.load 24 (Go.Operand.tmp 4) := ⟨_, rfl, rfl, rfl, rfl⟩
theorem op8_55 : ∃ o, reg8.1[55]? = some o ∧ o.dst = some (40 + 55) ∧ o.guard = some (46, false) ∧ o.op = Go.Op.call { callee := Go.Callee.value (Go.Operand.tmp 93), args := #[Go.Operand.tmp 94], argTypes := #[24] } := ⟨_, rfl, rfl, rfl, rfl⟩
theorem op8_56 : ∃ o, reg8.1[56]? = some o ∧ o.dst = some (40 + 56) ∧ o.guard = some (46, false) ∧ o.op = Go.Op.load 3 (Go.Operand.tmp 6) := ⟨_, rfl, rfl, rfl, rfl⟩
theorem op8_57 : ∃ o, reg8.1[57]? = some o ∧ o.dst = some (40 + 57) ∧ o.guard = some (46, false) ∧ o.op = Go.Op.build 33 #[(0, Go.Operand.const (Go.Value.int Go.IntKind.u8 11)), (1, Go.Operand.tmp 96)] := ⟨_, rfl, rfl, rfl, rfl⟩
theorem op8_58 : ∃ o, reg8.1[58]? = some o ∧ o.dst = some (40 + 58) ∧ o.guard = some (46, false) ∧ o.op = Go.Op.buildSlice 36 4 #[(0, Go.Operand.tmp 90), (1, Go.Operand.tmp 92), (2, Go.Operand.tmp 95), (3, Go.Operand.tmp 97)] := ⟨_, rfl, rfl, rfl, rfl⟩
theorem op8_59 : ∃ o, reg8.1[59]? = some o ∧ o.dst = some (40 + 59) ∧ o.guard = some (46, false) ∧ o.op = Go.Op.call { callee := Go.Callee.value (Go.Operand.tmp 87), args := #[Go.Operand.tmp 98], argTypes := #[36] } := ⟨_, rfl, rfl, rfl, rfl⟩
theorem op8_60 : ∃ o, reg8.1[60]? = some o ∧ o.dst = some (40 + 60) ∧ o.guard = some (46, false) ∧ o.op = Go.Op.build 24 #[] := ⟨_, rfl, rfl, rfl, rfl⟩
theorem op8_61 : ∃ o, reg8.1[61]? = some o ∧ o.dst = some (40 + 61) ∧ o.guard = some (46, false) ∧ o.op = Go.Op.binOp Go.BinOp.neq 24 (Go.Operand.tmp 99) (Go.Operand.tmp 100) 24 := ⟨_, rfl, rfl, rfl, rfl⟩
theorem op8_62 : ∃ o, reg8.1[62]? = some o ∧ o.dst = some (40 + 62) ∧ o.guard = none ∧ o.op = Go.Op.pick (Go.Operand.tmp 86) (Go.Operand.const (Go.Value.bool true)) (Go.Operand.tmp 101) := ⟨_, rfl, rfl, rfl, rfl⟩

end Go.Proofs.Ytnknpgfconfgjaa
