/-
  Lemmas, joined: Law17M, Const.
-/
import Derived.Test.YtlnkflmnjkmhkaaJR29
import Derived.Test.YtlnkflmnjkmhkaaJR34
import Derived.Test.YtlnkflmnjkmhkaaJR21
import Derived.Test.YtlnkflmnjkmhkaaJR19
import Derived.Test.YtlnkflmnjkmhkaaJR30
import Derived.Deep.DeepCutAuto
import Derived.Test.YtlnkflmnjkmhkaaJR06
import Derived.Deep.RegionHeld3
/-
  The law SymbvMeans of layer 17: the walk up to the vectors that are made.
-/
namespace Go.Proofs.Ytlnkflmnjkmhkaa
open Go.RowKit Go.Maps

theorem new_sto (w : World) (c : Nat) (h0 : 2 ≤ c) (h1 : c ≤ 1048576) : ∃ O, Sto (newWorld w c) (w.heap.size + 2) O ⟨c, [], false⟩ ∧ ∀ k, O k → w.heap.size ≤ k := by
  refine ⟨Blk (w.heap.size + 2) w.heap.size (w.heap.size + 1) (.slice none 0 0), ⟨fun _ => none, ⟨.slice none 0 0, w.heap.size, w.heap.size + 1, ?_, ?_, ?_, ?_, ?_, ?_, ?_, by omega, by simp [Value.ownBlock], ?_, ?_, fun k => Iff.rfl, h0, h1, Nat.zero_le _, by simp⟩, ⟨by simp, by simp, by simp, by simp, by simp⟩, fun k r h => by cases h⟩, ?_⟩
  · simp [newWorld, newCells, go_sem]
  · simp [newWorld, newCells, go_sem]
  · simp [newWorld, newCells, go_sem]
  · simp [newWorld, newCells, go_sem]
  · simp [newWorld, newCells, go_sem]
  · intro j; simp [newWorld, newCells, go_sem]
  · exact ⟨rfl, .inl ⟨rfl, rfl⟩⟩
  · have e : byOf [] = fun _ => none := by funext t; simp [byOf]
    rw [e]
    refine IMap.empty _ _ ?_
    unfold newWorld
    rw [Below.heap_alloc _ _ _ (by simp; omega), Below.heap_alloc _ _ _ (by simp)]
    show (w.heap.push (.map #[] 0))[w.heap.size]? = _
    simp
  · refine IMap.empty _ _ ?_
    unfold newWorld
    rw [Below.heap_alloc _ _ _ (by simp)]
    show ((w.heap.push (.map #[] 0)).push (.map #[] 0))[w.heap.size + 1]? = _
    rw [Array.getElem?_push]
    simp
  · rintro k (h | h | h | h)
    · omega
    · omega
    · omega
    · simp [Value.ownBlock] at h

theorem IVecX.shape' {w : World} {O : Nat → Prop} {v : Value} {xs : List Int} (h : IVecX w O v xs) : ∃ p n c, v = .slice p n c := by
  obtain ⟨p, c, e, -⟩ := h.1
  exact ⟨_, _, _, e⟩
theorem IVecX.vec {w : World} {O : Nat → Prop} {v : Value} {xs : List Int} (h : IVecX w O v xs) : IVec w v xs := h.1
theorem IVecX.nilOk {w : World} {O : Nat → Prop} {v : Value} {xs : List Int} (h : IVecX w O v xs) : NilOk v := h.2.2
theorem IVecX.at_some {w : World} {O : Nat → Prop} {p : Option Addr} {n c : Nat} {xs : List Int} (h : IVecX w O (.slice p n c) xs) (h0 : 0 < xs.length) : ∃ b o, p = some ⟨b, o, none⟩ := by
  obtain ⟨p', c', e, -, -, h4⟩ := h.1
  obtain ⟨b, o, hp, -⟩ := h4 h0
  simp only [Value.slice.injEq] at e
  exact ⟨b, o, e.1.trans hp⟩
theorem IVecX.at0 {w : World} {O : Nat → Prop} {b o n c : Nat} {xs : List Int} (h : IVecX w O (.slice (some ⟨b, o, none⟩) n c) xs) (h0 : 0 < xs.length) : w.cell? ⟨b, o, none⟩ = some (.int .i64 (xs.getD 0 0)) := by
  obtain ⟨p', c', e, -, -, h4⟩ := h.1
  obtain ⟨b', o', hp, -, hc⟩ := h4 h0
  simp only [Value.slice.injEq] at e
  rw [hp] at e
  simp only [Option.some.injEq, Addr.mk.injEq, and_true] at e
  obtain ⟨⟨rfl, rfl⟩, -⟩ := e
  exact hc 0 h0

theorem IVecX.shapeN {w : World} {O : Nat → Prop} {v : Value} {xs : List Int} {n : Nat} (h : IVecX w O v xs) (hn : xs.length = n) : ∃ p c, v = .slice p n c ∧ n ≤ c ∧ c ≤ maxLen := by
  obtain ⟨p, c, e, h1, h2, -⟩ := h.1
  exact ⟨p, c, by rw [← hn]; exact e, by omega, h2⟩

theorem wrap_pow (W X : Nat) (hW1 : 1 ≤ W) (hW4 : W ≤ 4) (hX1 : 1 ≤ X) (hX4 : X ≤ 4) : wrap64 (2 ^ (W + X)) = ((2 ^ (W + X) : Nat) : Int) ∧ 2 ^ (W + X) ≤ 256 := by
  rcases (by omega : W = 1 ∨ W = 2 ∨ W = 3 ∨ W = 4) with rfl | rfl | rfl | rfl <;> rcases (by omega : X = 1 ∨ X = 2 ∨ X = 3 ∨ X = 4) with rfl | rfl | rfl | rfl <;> exact ⟨by decide +kernel, by decide⟩

def seqV (v0 v1 v2 v3 v4 v5 v6 v7 v8 v9 : Value) : Nat → Value
  | 0 => v0 | 1 => v1 | 2 => v2 | 3 => v3 | 4 => v4 | 5 => v5 | 6 => v6 | 7 => v7 | 8 => v8 | _ => v9
def seqL (v0 v1 v2 v3 v4 v5 v6 v7 v8 v9 : List Int) : Nat → List Int
  | 0 => v0 | 1 => v1 | 2 => v2 | 3 => v3 | 4 => v4 | 5 => v5 | 6 => v6 | 7 => v7 | 8 => v8 | _ => v9

set_option maxRecDepth 100000 in
set_option maxHeartbeats 3000000 in
theorem law17m (wd od kk n : Nat) (h1 l1 : Nat) (hn : n < B * B) (HNV : Hid (numV n = .agg #[.int .u64 (h1 : Int), .int .u64 (l1 : Int)])) (hwd : wd < 256) (hod : od < 256) (hkk : kk < 256) (w : World) :
    Calls Try.prog 4 #[.int .u8 (wd : Int), .int .u8 (od : Int), .agg #[.int .u64 (h1 : Int), .int .u64 (l1 : Int)], .int .u8 (kk : Int)] w fun e w' => e = .returned (.bool true) ∧ Below w.heap.size w w' := by
  obtain ⟨W, hW, hW1, hW4⟩ : ∃ W : Nat, (wd : Int) % 4 + 1 = W ∧ 1 ≤ W ∧ W ≤ 4 := ⟨wd % 4 + 1, by omega, by omega, by omega⟩
  obtain ⟨X, hX, hX1, hX4⟩ : ∃ X : Nat, (od : Int) % 4 + 1 = X ∧ 1 ≤ X ∧ X ≤ 4 := ⟨od % 4 + 1, by omega, by omega, by omega⟩
  obtain ⟨A, hA⟩ : ∃ A, A = w.alloc (.cells #[.int .u64 (h1 : Int), .int .u64 (l1 : Int)] 41) := ⟨_, rfl⟩
  have hAB : Below w.heap.size w A := by rw [hA]; exact (by repeat (first | exact Below.refl _ _ | assumption | refine Below.drew ?_ | refine Below.alloc ?_ (by first | omega | (simp <;> omega)) _ | refine Below.setCell ?_ (by first | omega | (simp <;> omega)) _ | refine Below.trans ?_ (Below.mono (by assumption) (by first | omega | (simp <;> omega)))))
  have hAs : A.heap.size = w.heap.size + 1 := by rw [hA]; simp
  have a0 : A.cell? ⟨w.heap.size, 0, none⟩ = some (.int .u64 (h1 : Int)) := by rw [hA]; simp [go_sem]
  have a1 : A.cell? ⟨w.heap.size, 1, none⟩ = some (.int .u64 (l1 : Int)) := by rw [hA]; simp [go_sem]
  have HNEW : Hid (Calls Try.prog 8 #[.int .i64 20000] A fun e w' => e = .returned (.tuple #[.pointer (some ⟨A.heap.size + 2, 0, none⟩), .int .i64 0]) ∧ newWorld A 20000 = w') := new_ok 20000 A (by omega) (by omega)
  obtain ⟨O, hS, hO⟩ := new_sto A 20000 (by omega) (by omega)
  have hb0 : Below A.heap.size A (newWorld A 20000) := by unfold newWorld; exact (by repeat (first | exact Below.refl _ _ | assumption | refine Below.drew ?_ | refine Below.alloc ?_ (by first | omega | (simp <;> omega)) _ | refine Below.setCell ?_ (by first | omega | (simp <;> omega)) _ | refine Below.trans ?_ (Below.mono (by assumption) (by first | omega | (simp <;> omega)))))
  have e0 : (newWorld A 20000).cell? ⟨w.heap.size, 0, none⟩ = some (.int .u64 (h1 : Int)) := (hb0.cell (p := ⟨w.heap.size, 0, none⟩) (by show w.heap.size < A.heap.size; omega)).trans a0
  have e1 : (newWorld A 20000).cell? ⟨w.heap.size, 1, none⟩ = some (.int .u64 (l1 : Int)) := (hb0.cell (p := ⟨w.heap.size, 1, none⟩) (by show w.heap.size < A.heap.size; omega)).trans a1
  have hNO : ¬ O w.heap.size := fun h => by have := hO _ h; omega
  have hbW : Below w.heap.size w (newWorld A 20000) := hAB.trans (hb0.mono hAB.size)
  have HS := Lib.hid hS
  have HO : Hid (∀ k, O k → w.heap.size ≤ k) := fun k hk => by have := hO k hk; omega
  have HNO := Lib.hid hNO
  have HBW := Lib.hid hbW
  have HG0 : Hid (GoodS 20000 0 ⟨20000, [], false⟩) := ⟨rfl, ⟨by simp, by simp, by simp, by simp, by simp⟩, fun t ht => by simp at ht, rfl, Nat.le_refl _⟩
  have HWX : Hid ((wd : Int) % 4 + 1 = W ∧ (od : Int) % 4 + 1 = X) := ⟨hW, hX⟩
  have HKK : Hid (∃ K : Nat, (kk : Int) % 9 = K ∧ K ≤ 8) := ⟨kk % 9, by omega, by omega⟩
  have HA := Lib.hid hA
  clear hS hO hNO hbW hb0 a0 a1 hAB hW hX hA
  go_enter Try.func4, Try.ntmps4
  go_wp2_with fail
  rw [HWX.out.1, HWX.out.2, ← HA.out]
  refine HNEW.out.mono ?_
  rintro e w0 ⟨rfl, rfl⟩
  generalize hB : A.heap.size + 2 = b at HS ⊢
  generalize newWorld A 20000 = w0 at *
  clear HNEW hB hAs HA
  go_wp2_with fail
  go_region_held3 (fun w' => w'.cell? ⟨w.heap.size, 0, none⟩ = some (.int .u64 (h1 : Int)) ∧ w'.cell? ⟨w.heap.size, 1, none⟩ = some (.int .u64 (l1 : Int)))
    (first | exact ⟨e0, e1⟩ | exact ⟨f0, f1⟩ | exact ⟨g0, g1⟩ | exact ⟨k0, k1⟩)
    (first
      | (go_at_call 18; (with_reducible refine (symbvVars_sto b O _ 0 (W : Int) w0.drew (HS.out.below (below_drewN (Below.refl _ _) 1)) (by omega) (by omega)).mono ?_); rintro e w1 ⟨va, O1, rfl, hva, hs1, hx1⟩; have f0 : w1.cell? ⟨w.heap.size, 0, none⟩ = some (.int .u64 (h1 : Int)) := (hx1.cell (p := ⟨w.heap.size, 0, none⟩) (by show w.heap.size < w0.heap.size; exact (cell_there e0).1) HNO.out).1.trans e0; have f1 : w1.cell? ⟨w.heap.size, 1, none⟩ = some (.int .u64 (l1 : Int)) := (hx1.cell (p := ⟨w.heap.size, 1, none⟩) (by show w.heap.size < w0.heap.size; exact (cell_there e0).1) HNO.out).1.trans e1; have HNO1 := Lib.hid (hx1.cell (p := ⟨w.heap.size, 0, none⟩) (by show w.heap.size < w0.heap.size; exact (cell_there e0).1) HNO.out).2.2)
      | (go_at_call 18; (with_reducible refine (symbvVars_sto b O1 _ (W : Int) (X : Int) w1 hs1 (by omega) (by omega)).mono ?_); rintro e w2 ⟨vb, O2, rfl, hvb, hs2, hx2⟩; have g0 : w2.cell? ⟨w.heap.size, 0, none⟩ = some (.int .u64 (h1 : Int)) := (hx2.cell (p := ⟨w.heap.size, 0, none⟩) (cell_there f0).1 HNO1.out).1.trans f0; have g1 : w2.cell? ⟨w.heap.size, 1, none⟩ = some (.int .u64 (l1 : Int)) := (hx2.cell (p := ⟨w.heap.size, 1, none⟩) (cell_there f0).1 HNO1.out).1.trans f1; have HNO2 := Lib.hid (hx2.cell (p := ⟨w.heap.size, 0, none⟩) (cell_there f0).1 HNO1.out).2.2)
      | (go_at_call 19; have hcn := const_new n 6 w2 hn; rw [HNV.out] at hcn; refine hcn.mono ?_; rintro e w3 ⟨vc, rfl, hvc, hkc, hnc, hb3⟩; have k0 : w3.cell? ⟨w.heap.size, 0, none⟩ = some (.int .u64 (h1 : Int)) := (hb3.cell (p := ⟨w.heap.size, 0, none⟩) (cell_there g0).1).trans g0; have k1 : w3.cell? ⟨w.heap.size, 1, none⟩ = some (.int .u64 (l1 : Int)) := (hb3.cell (p := ⟨w.heap.size, 1, none⟩) (cell_there g0).1).trans g1))
  rename_i hHeld0
  clear hHeld0 hcn
  have hWm : (max 0 (min (W : Int) 64)).toNat = W := by omega
  have hXm : (max 0 (min (X : Int) 64)).toNat = X := by omega
  have h6m : (max 0 (min (6 : Int) 256)).toNat = 6 := by decide
  rw [hWm] at hva hs1 hvb hs2
  rw [hXm] at hvb hs2
  rw [h6m] at hvc hkc
  have hms := means_start W X n hW4 hX4
  generalize (varsS (W : Int) X (varsS 0 W ⟨20000, [], false⟩).1).2.reverse = ys at *
  generalize (varsS (W : Int) X (varsS 0 W ⟨20000, [], false⟩).1).1 = s0 at *
  generalize (varsS 0 W ⟨20000, [], false⟩).2.reverse = xs at *
  generalize constBits n 6 = cs at *
  have HMS := Lib.hid hms
  have HE0 : Hid (Ext O O2 w0 w3) := ((Ext.of_below (below_drewN (Below.refl _ _) 1)).trans hx1).trans (hx2.trans (Ext.of_below hb3))
  have HB3 : Hid (Below w.heap.size w w3) := below_ext HBW.out HE0.out HO.out HBW.out.size
  have HVA : Hid (IVecX w3 O2 va xs) := (hva.ext hx2).below hb3
  have HVB : Hid (IVecX w3 O2 vb ys) := hvb.below hb3
  have HVC : Hid (IVecX w3 O2 vc cs) := RetVecN.mkX hvc hkc hnc hs2.lt
  have HS3 : Hid (Sto w3 b O2 s0) := hs2.below hb3
  have HO2 : Hid (∀ k, O2 k → w.heap.size ≤ k) := fun k hk => by
    rcases HE0.out.2 k hk with h | h
    · exact HO.out k h
    · have := HBW.out.size; omega
  have HNO3 : Hid (¬ O2 w.heap.size) := HNO2
  obtain ⟨pa, ca, rfl, hca1, hca2⟩ := hva.shapeN hms.lx
  obtain ⟨pb, cb, rfl, hcb1, hcb2⟩ := hvb.shapeN hms.ly
  obtain ⟨pc, cc, rfl, hcc1, hcc2⟩ := HVC.out.shapeN hms.lc
  have HLX : Hid (xs.length ≤ 1000000 ∧ ys.length ≤ 1000000 ∧ cs.length ≤ 1000000) := ⟨by rw [hms.lx]; omega, by rw [hms.ly]; omega, by rw [hms.lc]; omega⟩
  obtain ⟨bb, ob, rfl⟩ := HVB.out.at_some (by rw [HMS.out.ly]; omega)
  obtain ⟨K, hK, hK8⟩ := HKK.out
  have HK := Lib.hid hK
  clear hva hvb hvc hkc hnc hs1 hs2 hx1 hx2 hb3 hms hWm hXm h6m f0 f1 g0 g1 e0 e1 HS HNO HNO1 HNO2 hK HE0 HBW HG0 HWX HKK
  unfold maxLen at hca2 hcb2 hcc2
  go_wp2_with fail
  rw [HK.out]
  obtain ⟨y0, hy0⟩ : ∃ y0, y0 = ys.getD 0 0 := ⟨_, rfl⟩
  have HY0 := Lib.hid hy0
  clear hy0
  have hcb0 : w3.cell? ⟨bb, ob, none⟩ = some (.int .i64 y0) := by rw [HY0.out]; exact HVB.out.at0 (by rw [HMS.out.ly]; omega)
  have hX0 : (0 : Int) < (X : Int) := by omega
  have hX0' : 0 < X := by omega
  have HE3 : Hid (Ext O2 O2 w3 w3.drew) := Ext.of_below (below_drewN (Below.refl _ _) 1)
  go_region_held3 (fun w' => w'.cell? ⟨bb, ob, none⟩ = some (.int .i64 y0))
    (first | exact hcb0 | exact hcb4 | exact hcb5 | exact hcb6 | exact hcb7 | exact hcb8 | exact hcb9 | exact hcb10 | exact hcb11 | exact hcb12 | exact hcb13 | exact (World.cell?_alloc_lt _ _ _ (cell_there hcb13).1).trans hcb13)
    (first
      | (go_at_call 20; (with_reducible refine (symbvAnd_sto b O2 _ _ _ xs cs w3.drew (HS3.out.below (below_drewN (Below.refl _ _) 1)) (HVA.out.ext HE3.out) (HVC.out.ext HE3.out) HLX.out.1 HLX.out.2.2).mono ?_); rintro e w4 ⟨v1, O4, rfl, hv1, hs4, hx4⟩; have HS4 := Lib.hid hs4; have HE4 : Hid (Ext O2 O4 w3 w4) := HE3.out.trans hx4; obtain ⟨p1, n1, c1, rfl⟩ := hv1.shape'; have hcb4 : w4.cell? ⟨bb, ob, none⟩ = some (.int .i64 y0) := by rw [HY0.out]; exact (HVB.out.ext HE4.out).at0 (by rw [HMS.out.ly]; omega))
      | (go_at_call 21; (with_reducible refine (symbvOr_sto b O4 _ _ _ xs ys w4 (HS4.out) (HVA.out.ext HE4.out) (HVB.out.ext HE4.out) HLX.out.1 HLX.out.2.1).mono ?_); rintro e w5 ⟨v2, O5, rfl, hv2, hs5, hx5⟩; have HS5 := Lib.hid hs5; have HE5 : Hid (Ext O2 O5 w3 w5) := HE4.out.trans hx5; obtain ⟨p2, n2, c2, rfl⟩ := hv2.shape'; have hcb5 : w5.cell? ⟨bb, ob, none⟩ = some (.int .i64 y0) := by rw [HY0.out]; exact (HVB.out.ext HE5.out).at0 (by rw [HMS.out.ly]; omega))
      | (go_at_call 22; (with_reducible refine (symbvXor_sto b O5 _ _ _ xs cs w5 (HS5.out) (HVA.out.ext HE5.out) (HVC.out.ext HE5.out) HLX.out.1 HLX.out.2.2).mono ?_); rintro e w6 ⟨v3, O6, rfl, hv3, hs6, hx6⟩; have HS6 := Lib.hid hs6; have HE6 : Hid (Ext O2 O6 w3 w6) := HE5.out.trans hx6; obtain ⟨p3, n3, c3, rfl⟩ := hv3.shape'; have hcb6 : w6.cell? ⟨bb, ob, none⟩ = some (.int .i64 y0) := by rw [HY0.out]; exact (HVB.out.ext HE6.out).at0 (by rw [HMS.out.ly]; omega))
      | (go_at_call 23; (with_reducible refine (symbvNot_sto b O6 _ _ xs w6 (HS6.out) (HVA.out.ext HE6.out) HLX.out.1).mono ?_); rintro e w7 ⟨v4, O7, rfl, hv4, hs7, hx7⟩; have HS7 := Lib.hid hs7; have HE7 : Hid (Ext O2 O7 w3 w7) := HE6.out.trans hx7; obtain ⟨p4, n4, c4, rfl⟩ := hv4.shape'; have hcb7 : w7.cell? ⟨bb, ob, none⟩ = some (.int .i64 y0) := by rw [HY0.out]; exact (HVB.out.ext HE7.out).at0 (by rw [HMS.out.ly]; omega))
      | (go_at_call 24; (with_reducible refine (symbvMux_sto b O7 _ y0 _ _ xs cs w7 (HS7.out) (HVA.out.ext HE7.out) (HVC.out.ext HE7.out) HLX.out.1 HLX.out.2.2).mono ?_); rintro e w8 ⟨v5, O8, rfl, hv5, hs8, hx8⟩; have HS8 := Lib.hid hs8; have HE8 : Hid (Ext O2 O8 w3 w8) := HE7.out.trans hx8; obtain ⟨p5, n5, c5, rfl⟩ := hv5.shape'; have hcb8 : w8.cell? ⟨bb, ob, none⟩ = some (.int .i64 y0) := by rw [HY0.out]; exact (HVB.out.ext HE8.out).at0 (by rw [HMS.out.ly]; omega))
      | (go_at_call 25; (with_reducible refine (symbvCat_any _ _ xs ys w8 (HVA.out.ext HE8.out).vec (HVB.out.ext HE8.out).vec (HVA.out.ext HE8.out).nilOk (HVB.out.ext HE8.out).nilOk HLX.out.1 HLX.out.2.1).mono ?_); rintro e w9 ⟨v6, rfl, hq6, hr6, ht6, hb9⟩; have hx9 : Ext O8 O8 w8 w9 := Ext.of_below hb9; have HS9 : Hid (Sto w9 b O8 _) := HS8.out.below hb9; have hv6 : IVecX w9 O8 v6 _ := RetVecN.mkX hq6 hr6 ht6 HS8.out.lt; have HE9 : Hid (Ext O2 O8 w3 w9) := HE8.out.trans hx9; obtain ⟨p6, n6, c6, rfl⟩ := hv6.shape'; have hcb9 : w9.cell? ⟨bb, ob, none⟩ = some (.int .i64 y0) := by rw [HY0.out]; exact (HVB.out.ext HE9.out).at0 (by rw [HMS.out.ly]; omega))
      | (go_at_call 26; (with_reducible refine (symbvShl_any _ xs (K : Int) w9 (HVA.out.ext HE9.out).vec HLX.out.1).mono ?_); rintro e w10 ⟨v7, rfl, hq7, hr7, ht7, hb10⟩; have hx10 : Ext O8 O8 w9 w10 := Ext.of_below hb10; have HS10 : Hid (Sto w10 b O8 _) := HS9.out.below hb10; have hv7 : IVecX w10 O8 v7 _ := RetVecN.mkX hq7 hr7 ht7 HS9.out.lt; have HE10 : Hid (Ext O2 O8 w3 w10) := HE9.out.trans hx10; obtain ⟨p7, n7, c7, rfl⟩ := hv7.shape'; have hcb10 : w10.cell? ⟨bb, ob, none⟩ = some (.int .i64 y0) := by rw [HY0.out]; exact (HVB.out.ext HE10.out).at0 (by rw [HMS.out.ly]; omega))
      | (go_at_call 27; (with_reducible refine (symbvShr_any _ xs (K : Int) w10 (HVA.out.ext HE10.out).vec HLX.out.1).mono ?_); rintro e w11 ⟨v8, rfl, hq8, hr8, ht8, hb11⟩; have hx11 : Ext O8 O8 w10 w11 := Ext.of_below hb11; have HS11 : Hid (Sto w11 b O8 _) := HS10.out.below hb11; have hv8 : IVecX w11 O8 v8 _ := RetVecN.mkX hq8 hr8 ht8 HS10.out.lt; have HE11 : Hid (Ext O2 O8 w3 w11) := HE10.out.trans hx11; obtain ⟨p8, n8, c8, rfl⟩ := hv8.shape'; have hcb11 : w11.cell? ⟨bb, ob, none⟩ = some (.int .i64 y0) := by rw [HY0.out]; exact (HVB.out.ext HE11.out).at0 (by rw [HMS.out.ly]; omega))
      | (go_at_call 28; (with_reducible refine (symbvSlice_any _ cs 5 (K : Int) w11 (HVC.out.ext HE11.out).vec HLX.out.2.2).mono ?_); rintro e w12 ⟨v9, rfl, hq9, hr9, ht9, hb12⟩; have hx12 : Ext O8 O8 w11 w12 := Ext.of_below hb12; have HS12 : Hid (Sto w12 b O8 _) := HS11.out.below hb12; have hv9 : IVecX w12 O8 v9 _ := RetVecN.mkX hq9 hr9 ht9 HS11.out.lt; have HE12 : Hid (Ext O2 O8 w3 w12) := HE11.out.trans hx12; obtain ⟨p9, n9, c9, rfl⟩ := hv9.shape'; have hcb12 : w12.cell? ⟨bb, ob, none⟩ = some (.int .i64 y0) := by rw [HY0.out]; exact (HVB.out.ext HE12.out).at0 (by rw [HMS.out.ly]; omega))
      | (go_at_call 29; (with_reducible refine (symbvResize_any _ xs (K : Int) w12 (HVA.out.ext HE12.out).vec HLX.out.1).mono ?_); rintro e w13 ⟨v10, rfl, hq10, hr10, ht10, hb13⟩; have hx13 : Ext O8 O8 w12 w13 := Ext.of_below hb13; have HS13 : Hid (Sto w13 b O8 _) := HS12.out.below hb13; have hv10 : IVecX w13 O8 v10 _ := RetVecN.mkX hq10 hr10 ht10 HS12.out.lt; have HE13 : Hid (Ext O2 O8 w3 w13) := HE12.out.trans hx13; obtain ⟨p10, n10, c10, rfl⟩ := hv10.shape'; have hcb13 : w13.cell? ⟨bb, ob, none⟩ = some (.int .i64 y0) := by rw [HY0.out]; exact (HVB.out.ext HE13.out).at0 (by rw [HMS.out.ly]; omega)))
  rename_i hHeldZ
  clear hHeldZ
  have hten := ten HMS.out hW1 hW4 hX1 hX4 K hK8
  obtain ⟨-, M1, M2, M3, M4, M5, M6, M7, M8, M9, M10⟩ := hten
  have hwd : Below w13.heap.size w13 (w13.alloc (.cells #[.slice p1 n1 c1, .slice p2 n2 c2, .slice p3 n3 c3, .slice p4 n4 c4, .slice p5 n5 c5, .slice p6 n6 c6, .slice p7 n7 c7, .slice p8 n8 c8, .slice p9 n9 c9, .slice p10 n10 c10] 34)) := (Below.refl _ _).alloc (Nat.le_refl _) _
  have hcell : ∀ i, i < 10 → (w13.alloc (.cells #[.slice p1 n1 c1, .slice p2 n2 c2, .slice p3 n3 c3, .slice p4 n4 c4, .slice p5 n5 c5, .slice p6 n6 c6, .slice p7 n7 c7, .slice p8 n8 c8, .slice p9 n9 c9, .slice p10 n10 c10] 34)).cell? ⟨w13.heap.size, i, none⟩ = some ((seqV (.slice p1 n1 c1) (.slice p2 n2 c2) (.slice p3 n3 c3) (.slice p4 n4 c4) (.slice p5 n5 c5) (.slice p6 n6 c6) (.slice p7 n7 c7) (.slice p8 n8 c8) (.slice p9 n9 c9) (.slice p10 n10 c10)) i) := by
    intro i hi
    match i, hi with
    | 0, _ => simp [go_sem, seqV]
    | 1, _ => simp [go_sem, seqV]
    | 2, _ => simp [go_sem, seqV]
    | 3, _ => simp [go_sem, seqV]
    | 4, _ => simp [go_sem, seqV]
    | 5, _ => simp [go_sem, seqV]
    | 6, _ => simp [go_sem, seqV]
    | 7, _ => simp [go_sem, seqV]
    | 8, _ => simp [go_sem, seqV]
    | 9, _ => simp [go_sem, seqV]
    | i + 10, hi => exact absurd hi (by omega)
  go_wp2_with fail
  generalize w13.alloc (.cells #[.slice p1 n1 c1, .slice p2 n2 c2, .slice p3 n3 c3, .slice p4 n4 c4, .slice p5 n5 c5, .slice p6 n6 c6, .slice p7 n7 c7, .slice p8 n8 c8, .slice p9 n9 c9, .slice p10 n10 c10] 34) = WD at *
  have HST : Hid (Sto WD b O8 (st5 xs ys cs s0).1) := by
    have h := HS13.out.below hwd
    rw [HY0.out] at h
    exact h
  have x12 := hx13
  have x11 := hx12.trans x12
  have x10 := hx11.trans x11
  have x9 := hx10.trans x10
  have x8 := hx9.trans x9
  have x7 := hx8.trans x8
  have x6 := hx7.trans x7
  have x5 := hx6.trans x6
  have x4 := hx5.trans x5
  have i1 : IVec WD (.slice p1 n1 c1) (st1 xs cs s0).2 := (hv1.ext x4).vec.below hwd
  have i2 : IVec WD (.slice p2 n2 c2) (st2 xs ys cs s0).2 := (hv2.ext x5).vec.below hwd
  have i3 : IVec WD (.slice p3 n3 c3) (st3 xs ys cs s0).2 := (hv3.ext x6).vec.below hwd
  have i4 : IVec WD (.slice p4 n4 c4) (st4 xs ys cs s0).2 := (hv4.ext x7).vec.below hwd
  have i5 : IVec WD (.slice p5 n5 c5) (st5 xs ys cs s0).2 := by
    have h := (hv5.ext x8).vec.below hwd
    rw [HY0.out] at h
    exact h
  have i6 : IVec WD (.slice p6 n6 c6) (ys ++ xs) := (hv6.ext x9).vec.below hwd
  have i7 : IVec WD (.slice p7 n7 c7) (shlL xs (shAmt xs.length (K : Int))) := (hv7.ext x10).vec.below hwd
  have i8 : IVec WD (.slice p8 n8 c8) (shrL xs (shAmt xs.length (K : Int))) := (hv8.ext x11).vec.below hwd
  have i9 : IVec WD (.slice p9 n9 c9) (sliceL cs 5 (K : Int)) := (hv9.ext x12).vec.below hwd
  have i10 : IVec WD (.slice p10 n10 c10) (resizeL xs (max 0 (min (K : Int) 256)).toNat) := hv10.vec.below hwd
  have HM10 : Hid (∀ i, i < 10 → WD.cell? ⟨w13.heap.size, i, none⟩ = some ((seqV (.slice p1 n1 c1) (.slice p2 n2 c2) (.slice p3 n3 c3) (.slice p4 n4 c4) (.slice p5 n5 c5) (.slice p6 n6 c6) (.slice p7 n7 c7) (.slice p8 n8 c8) (.slice p9 n9 c9) (.slice p10 n10 c10)) i) ∧ IVec WD ((seqV (.slice p1 n1 c1) (.slice p2 n2 c2) (.slice p3 n3 c3) (.slice p4 n4 c4) (.slice p5 n5 c5) (.slice p6 n6 c6) (.slice p7 n7 c7) (.slice p8 n8 c8) (.slice p9 n9 c9) (.slice p10 n10 c10)) i) ((seqL (st1 xs cs s0).2 (st2 xs ys cs s0).2 (st3 xs ys cs s0).2 (st4 xs ys cs s0).2 (st5 xs ys cs s0).2 (ys ++ xs) (shlL xs (shAmt xs.length (K : Int))) (shrL xs (shAmt xs.length (K : Int))) (sliceL cs 5 (K : Int)) (resizeL xs (max 0 (min (K : Int) 256)).toNat)) i) ∧ ((seqL (st1 xs cs s0).2 (st2 xs ys cs s0).2 (st3 xs ys cs s0).2 (st4 xs ys cs s0).2 (st5 xs ys cs s0).2 (ys ++ xs) (shlL xs (shAmt xs.length (K : Int))) (shrL xs (shAmt xs.length (K : Int))) (sliceL cs 5 (K : Int)) (resizeL xs (max 0 (min (K : Int) 256)).toNat)) i).length ≤ 128 ∧ ∀ q, evalV (st5 xs ys cs s0).1.nodes q ((seqL (st1 xs cs s0).2 (st2 xs ys cs s0).2 (st3 xs ys cs s0).2 (st4 xs ys cs s0).2 (st5 xs ys cs s0).2 (ys ++ xs) (shlL xs (shAmt xs.length (K : Int))) (shrL xs (shAmt xs.length (K : Int))) (sliceL cs 5 (K : Int)) (resizeL xs (max 0 (min (K : Int) 256)).toNat)) i) = mten W X K n i q) := by
    intro i hi
    match i, hi with
    | 0, _ => exact ⟨hcell 0 (by omega), i1, M1.1, M1.2.2⟩
    | 1, _ => exact ⟨hcell 1 (by omega), i2, M2.1, M2.2.2⟩
    | 2, _ => exact ⟨hcell 2 (by omega), i3, M3.1, M3.2.2⟩
    | 3, _ => exact ⟨hcell 3 (by omega), i4, M4.1, M4.2.2⟩
    | 4, _ => exact ⟨hcell 4 (by omega), i5, M5.1, M5.2.2⟩
    | 5, _ => exact ⟨hcell 5 (by omega), i6, M6.1, M6.2.2⟩
    | 6, _ => exact ⟨hcell 6 (by omega), i7, M7.1, M7.2.2⟩
    | 7, _ => exact ⟨hcell 7 (by omega), i8, M8.1, M8.2.2⟩
    | 8, _ => exact ⟨hcell 8 (by omega), i9, M9.1, M9.2.2⟩
    | 9, _ => exact ⟨hcell 9 (by omega), i10, M10.1, M10.2.2⟩
    | i + 10, hi => exact absurd hi (by omega)
  have r0 := (HE13.out.cell (p := ⟨w.heap.size, 0, none⟩) (cell_there k0).1 HNO3.out).1.trans k0
  have r1 := (HE13.out.cell (p := ⟨w.heap.size, 1, none⟩) (cell_there k1).1 HNO3.out).1.trans k1
  have s0' := (hwd.cell (p := ⟨w.heap.size, 0, none⟩) (cell_there r0).1).trans r0
  have s1' := (hwd.cell (p := ⟨w.heap.size, 1, none⟩) (cell_there r1).1).trans r1
  have HB13 : Hid (Below w.heap.size w w13) := below_ext HB3.out HE13.out HO2.out HB3.out.size
  have HBD : Hid (Below w.heap.size w WD) := HB13.out.trans (hwd.mono HB13.out.size)
  obtain ⟨wp1, wp2⟩ := wrap_pow W X hW1 hW4 hX1 hX4
  rw [wp1]
  obtain ⟨T, hT⟩ : ∃ T, T = 2 ^ (W + X) := ⟨_, rfl⟩
  rw [← hT] at wp2 ⊢
  have HT := Lib.hid hT
  clear wp1 hT r0 r1 k0 k1 hwd hcell hcb0 hcb4 hcb5 hcb6 hcb7 hcb8 hcb9 hcb10 hcb11 hcb12 hcb13
  refine loop17 W X K w.heap.size b w13.heap.size T n h1 l1 hW1 hW4 hX1 hX4 hK8 wp2 HT hn HNV WD s0' s1' O8 (st5 xs ys cs s0).1 HST (seqV (.slice p1 n1 c1) (.slice p2 n2 c2) (.slice p3 n3 c3) (.slice p4 n4 c4) (.slice p5 n5 c5) (.slice p6 n6 c6) (.slice p7 n7 c7) (.slice p8 n8 c8) (.slice p9 n9 c9) (.slice p10 n10 c10)) (seqL (st1 xs cs s0).2 (st2 xs ys cs s0).2 (st3 xs ys cs s0).2 (st4 xs ys cs s0).2 (st5 xs ys cs s0).2 (ys ++ xs) (shlL xs (shAmt xs.length (K : Int))) (shrL xs (shAmt xs.length (K : Int))) (sliceL cs 5 (K : Int)) (resizeL xs (max 0 (min (K : Int) 256)).toNat)) HM10 _ _ _ _ _ _ _ _ _ _ _ _ _ _ _ _ _ _ _ _ _ _ _ _ _ _ _ _ _ _ _ _ _ _ _ _ _ _ _ _ _ _ _ _ _ _ _ _ _ _ _ _ _ _ _ _ _ _ _ _ _ _ _ _ _ _ _ _ _ _ _ _ _ _ _ _ _ _ _ _ _ _ _ _ _ _ _ _ _ _ _ _ _ _ _ _ _ _ _ _ _ _ _ _ _ _ _ _ _ _ _ _ _ _ _ _ _ _ _ _ _ _ _ _ _ _ _ _ _ _ _ _ _ _ _ _ _ _ _ _ _ _ _ _ _ _ _ _ _ _ _ _ _ _ _ _ _ _ _ _ _ _ _ _ _ _ _ _ _ _ _ _ _ _ _ _ _ _ _ _ _ _ _ _ _ _ _ _ _ _ _ _ _ _ _ _ _ _ _ _ _ ?_
  intro _ _ _ _ _ _ _ _ _ _ _ _ _ _ _ _ _ _ _ _ _ _ _ _ _ _ _ _ _ _ _ _ _ _ _ _ _ _ _ _ _ _ _ _ _ _ _ _ _ _ _ _ _ _ _ _ _ _ _ _ _ _ _ _ _ _ _ _ _ _ _ _ _ _ _ _ _ _ _ _ _ _ _ _ _ _ _ _ _ _ _ _ _ _ _ _ _ _ _ _ _ _ _ w20 hb20
  dsimp only
  go_wp2_with fail
  refine (known17_true _).mono ?_
  rintro e w21 ⟨rfl, hb21⟩
  have HBE : Hid (Below w.heap.size w w21) := (HBD.out.trans (hb20.mono HBD.out.size)).trans (hb21.mono (Nat.le_trans HBD.out.size hb20.size))
  go_wp2_with fail
  go_ret
  exact ⟨rfl, HBE.out⟩

end Go.Proofs.Ytlnkflmnjkmhkaa

/-
  Contracts of the store's methods at a live store, and constants: nothing that was has changed.
-/
namespace Go.Proofs.Ytlnkflmnjkmhkaa
open Go.RowKit Go.Maps

/-- A store that is there, and is not full. -/
def Live (w : World) (sp : Value) : Prop := ∃ (b cap n cn : Nat) (pn : Option Addr), sp = .pointer (some ⟨b, 0, none⟩) ∧ w.cell? ⟨b, 0, none⟩ = some (.int .i64 (cap : Int)) ∧ w.cell? ⟨b, 1, none⟩ = some (.slice pn n cn) ∧ w.cell? ⟨b, 4, none⟩ = some (.bool false) ∧ 2 ≤ cap ∧ cap ≤ 1048576 ∧ n ≤ 1048576
theorem Live.below {w w' : World} {sp : Value} (h : Live w sp) (hb : Below w.heap.size w w') : Live w' sp := by
  obtain ⟨b, cap, n, cn, pn, h0, h1, h2, h3, h4, h5, h6⟩ := h
  have hl := (cell_there h1).1
  exact ⟨b, cap, n, cn, pn, h0, (hb.cell hl).trans h1, (hb.cell (p := ⟨b, 1, none⟩) hl).trans h2, (hb.cell (p := ⟨b, 4, none⟩) hl).trans h3, h4, h5, h6⟩
theorem Live.shape {w : World} {sp : Value} (h : Live w sp) : ∃ b, sp = .pointer (some ⟨b, 0, none⟩) := by
  obtain ⟨b, cap, n, cn, pn, h0, -⟩ := h
  exact ⟨b, h0⟩

/-- 0 or 1. -/
def Bit01 (a : Int) : Prop := a = 0 ∨ a = 1
def iteK (c a b : Int) : Int := if c = 1 then a else b
theorem iteK_ok {c a b : Int} (ha : Bit01 a) (hb : Bit01 b) : Bit01 (iteK c a b) := by unfold iteK; split <;> assumption

set_option maxRecDepth 100000 in
set_option maxHeartbeats 400000 in
theorem full_live {sp : Value} (w : World) (hd : Live w sp) : Calls Try.prog 16 #[sp] w fun e w' => e = .returned (.bool false) ∧ w = w' := by
  obtain ⟨b, cap, n, cn, pn, rfl, c0, c1, c4, h2, h3, h4⟩ := hd
  have hcap : ((cap : Int) == 0) = false := by rw [beq_eq_false_iff_ne]; omega
  go_enter Try.func16, Try.ntmps16
  go_wp2
  go_ret
  exact ⟨rfl, rfl⟩

set_option maxRecDepth 100000 in
set_option maxHeartbeats 400000 in
theorem truth_live {sp : Value} (a : Int) (w : World) (hd : Live w sp) : Calls Try.prog 109 #[sp, .int .i64 a] w fun e w' => e = .returned (.int .i64 a) ∧ w = w' := by
  have HF := Lib.hid (full_live w hd)
  obtain ⟨b, rfl⟩ := hd.shape
  clear hd
  go_enter Try.func109, Try.ntmps109
  go_wp2_with fail
  refine HF.out.mono ?_
  rintro e w1 ⟨rfl, rfl⟩
  go_wp2_with fail
  go_ret
  exact ⟨rfl, rfl⟩

set_option maxRecDepth 100000 in
set_option maxHeartbeats 400000 in
theorem right_live {sp : Value} (a : Int) (w : World) (hd : Live w sp) (ha : Bit01 a) : Calls Try.prog 138 #[sp, .int .i64 a] w (RetInt w a) := by
  obtain ⟨b, cap, n, cn, pn, rfl, c0, c1, c4, h2, h3, h4⟩ := hd
  rcases ha with rfl | rfl
  all_goals
    go_enter Try.func138, Try.ntmps138
    go_wp2
    all_goals first
      | (exfalso; omega)
      | (go_ret; exact ⟨rfl, (by repeat (first | exact Below.refl _ _ | assumption | refine Below.drew ?_ | refine Below.alloc ?_ (by first | omega | (simp <;> omega)) _ | refine Below.setCell ?_ (by first | omega | (simp <;> omega)) _ | refine Below.trans ?_ (Below.mono (by assumption) (by first | omega | (simp <;> omega)))))⟩)

set_option maxRecDepth 100000 in
set_option maxHeartbeats 800000 in
theorem itek_live {sp : Value} (c a b : Int) (w : World) (hd : Live w sp) (hc : Bit01 c) (ha : Bit01 a) (hb : Bit01 b) : Calls Try.prog 137 #[sp, .int .i64 c, .int .i64 a, .int .i64 b] w (RetInt w (iteK c a b)) := by
  obtain ⟨bS, rfl⟩ := hd.shape
  clear hd
  rcases hc with rfl | rfl
  all_goals rcases ha with rfl | rfl
  all_goals rcases hb with rfl | rfl
  all_goals
    go_enter Try.func137, Try.ntmps137
    go_wp2_with fail
    go_ret
    exact ⟨rfl, (by repeat (first | exact Below.refl _ _ | assumption | refine Below.drew ?_ | refine Below.alloc ?_ (by first | omega | (simp <;> omega)) _ | refine Below.setCell ?_ (by first | omega | (simp <;> omega)) _ | refine Below.trans ?_ (Below.mono (by assumption) (by first | omega | (simp <;> omega)))))⟩

theorem call_ite1 (av : Array Value) (W : World) : (callFunc 136 av).run Try.prog W = .ok (.enter 136 av) W := by kernel_rfl

theorem held5 {w W w1 : World} {p0 p1 p2 p3 : Addr} {v0 v1 v2 v3 : Value} (hb : Below W.heap.size W w1) (h : Below w.heap.size w W ∧ W.cell? p0 = some v0 ∧ W.cell? p1 = some v1 ∧ W.cell? p2 = some v2 ∧ W.cell? p3 = some v3) :
    Below w.heap.size w w1 ∧ w1.cell? p0 = some v0 ∧ w1.cell? p1 = some v1 ∧ w1.cell? p2 = some v2 ∧ w1.cell? p3 = some v3 :=
  ⟨h.1.trans (hb.mono h.1.size), (hb.cell (cell_there h.2.1).1).trans h.2.1, (hb.cell (cell_there h.2.2.1).1).trans h.2.2.1, (hb.cell (cell_there h.2.2.2.1).1).trans h.2.2.2.1, (hb.cell (cell_there h.2.2.2.2).1).trans h.2.2.2.2⟩

set_option maxRecDepth 100000 in
set_option maxHeartbeats 1600000 in
theorem ite1_live (p0 p1 p2 p3 : Nat) (bS : Nat) (c a b : Int) (w : World) (hd : Live w (.pointer (some ⟨bS, 0, none⟩))) (hc : Bit01 c) (ha : Bit01 a) (hb : Bit01 b)
    (c0 : w.cell? ⟨p0, 0, none⟩ = some (.pointer (some ⟨bS, 0, none⟩))) (c1 : w.cell? ⟨p1, 0, none⟩ = some (.int .i64 c)) (c2 : w.cell? ⟨p2, 0, none⟩ = some (.int .i64 a)) (c3 : w.cell? ⟨p3, 0, none⟩ = some (.int .i64 b)) :
    Calls Try.prog 136 #[.pointer (some ⟨p0, 0, none⟩), .pointer (some ⟨p1, 0, none⟩), .pointer (some ⟨p2, 0, none⟩), .pointer (some ⟨p3, 0, none⟩)] w (RetInt w (iteK c a b)) := by
  have HR : Hid (∀ W x, Below w.heap.size w W → Bit01 x → Calls Try.prog 138 #[.pointer (some ⟨bS, 0, none⟩), .int .i64 x] W (RetInt W x)) := fun W x hW hx => right_live x W (hd.below hW) hx
  have HI : Hid (∀ W, Below w.heap.size w W → Calls Try.prog 137 #[.pointer (some ⟨bS, 0, none⟩), .int .i64 c, .int .i64 a, .int .i64 b] W (RetInt W (iteK c a b))) := fun W hW => itek_live c a b W (hd.below hW) hc ha hb
  have HC := Lib.hid hc
  have HA := Lib.hid ha
  have HB := Lib.hid hb
  have HBX : Hid (Below w.heap.size w w.drew) := below_drewN (Below.refl _ _) 1
  clear hd hc ha hb
  go_enter Try.func136, Try.ntmps136
  go_wp2_with fail
  go_region_held3 (fun w' => Below w.heap.size w w' ∧ w'.cell? ⟨p0, 0, none⟩ = some (.pointer (some ⟨bS, 0, none⟩)) ∧ w'.cell? ⟨p1, 0, none⟩ = some (.int .i64 c) ∧ w'.cell? ⟨p2, 0, none⟩ = some (.int .i64 a) ∧ w'.cell? ⟨p3, 0, none⟩ = some (.int .i64 b))
    (first | exact ⟨HBX.out, c0, c1, c2, c3⟩ | exact held5 hb1 (by assumption) | go_keep)
    (first | (go_at_call 138; refine (HR.out _ _ (And.left (by assumption)) (by first | exact HC.out | exact HA.out | exact HB.out)).mono ?_; rintro e w1 ⟨rfl, hb1⟩) | (go_at_call 137; refine (HI.out _ (And.left (by assumption))).mono ?_; rintro e w1 ⟨rfl, hb1⟩))
  rename_i hH
  have hF := hH.1
  clear hH
  go_wp2_with fail
  go_ret
  exact ⟨rfl, hF⟩

set_option maxRecDepth 100000 in
set_option maxHeartbeats 800000 in
theorem made_live {sp : Value} (f : Nat) (fst cp : Array Value) (r : Int) (w : World) (hd : Live w sp) 
    (hcall : ∀ (av : Array Value) (W : World), (callFunc f av).run Try.prog W = .ok (.enter f av) W)
    (hf : Calls Try.prog f (fst ++ cp) (w.alloc (.cells #[.int .i64 0] 3)) (RetInt (w.alloc (.cells #[.int .i64 0] 3)) r)) :
    Calls Try.prog 65 #[sp, .func (.func f) fst cp] w (RetInt w r) := by
  have hmf := run_makeFunc
  have HF := Lib.hid hf; clear hf
  obtain ⟨b, cap, n, cn, pn, rfl, c0, c1, c4, h2, h3, h4⟩ := hd
  have hcap : ((cap : Int) == 0) = false := by rw [beq_eq_false_iff_ne]; omega
  have hbl := (cell_there c0).1
  have c0' : ∀ o, (w.alloc o).cell? ⟨b, 0, none⟩ = some (.int .i64 (cap : Int)) := fun o => (World.cell?_alloc_lt w o ⟨b, 0, none⟩ hbl).trans c0
  have c4' : ∀ o, (w.alloc o).cell? ⟨b, 4, none⟩ = some (.bool false) := fun o => (World.cell?_alloc_lt w o ⟨b, 4, none⟩ hbl).trans c4
  clear c0 c4 c1
  go_enter_defers Try.func65, Try.ntmps65
  go_wp2
  refine HF.out.mono ?_
  rintro e w1 ⟨rfl, hm⟩
  have r0 : w1.cell? ⟨w.heap.size, 0, none⟩ = some (.int .i64 0) := by rw [hm.cell (p := ⟨w.heap.size, 0, none⟩) (by simp)]; simp [go_sem]
  have r1 : w1.frozen? ⟨w.heap.size, 0, none⟩ = false := by rw [hm.frozen (p := ⟨w.heap.size, 0, none⟩) (by simp)]; simp [go_sem]
  have hB1 : Below w.heap.size w w1 := ((Below.refl _ _).alloc (Nat.le_refl _) _).trans (hm.mono (by simp))
  have HB1 := Lib.hid hB1
  clear hm c0' c4' hmf hcall hB1
  go_wp2
  have r2 : (w1.setCell ⟨w.heap.size, 0, none⟩ (.int .i64 r)).cell? ⟨w.heap.size, 0, none⟩ = some (.int .i64 r) := World.cell?_setCell_same _ _ _ r0
  have HM : Below w.heap.size w (w1.setCell ⟨w.heap.size, 0, none⟩ (.int .i64 r)) := HB1.out.setCell (show w.heap.size ≤ (Addr.mk w.heap.size 0 none).block from Nat.le_refl _) _
  refine leaves_cons (f := 124) (args := #[.pointer (some ⟨w.heap.size, 0, none⟩)]) (by simp) (by simp [go_sem]) ?_
  refine (catch_idle ⟨w.heap.size, 0, none⟩ _).mono ?_
  rintro e u' w'' ⟨rfl, rfl, rfl⟩
  simp [Leaves, settle, results, Try.results65, go_sem, r2]
  exact ⟨rfl, HM⟩

set_option maxRecDepth 100000 in
set_option maxHeartbeats 800000 in
theorem ite_live {sp : Value} (c a b : Int) (w : World) (hd : Live w sp) (hc : Bit01 c) (ha : Bit01 a) (hb : Bit01 b) :
    Calls Try.prog 87 #[sp, .int .i64 c, .int .i64 a, .int .i64 b] w (RetInt w (iteK c a b)) := by
  have HD : Hid (∀ W, Below w.heap.size w W → Live W sp) := fun W hW => hd.below hW
  obtain ⟨bS, rfl⟩ := hd.shape
  clear hd
  obtain ⟨X, hX⟩ : ∃ X, X = (((w.alloc (.cells #[.pointer (some ⟨bS, 0, none⟩)] 23)).alloc (.cells #[.int .i64 c] 3)).alloc (.cells #[.int .i64 a] 3)).alloc (.cells #[.int .i64 b] 3) := ⟨_, rfl⟩
  have hBX : Below w.heap.size w X := by rw [hX]; exact (by repeat (first | exact Below.refl _ _ | assumption | refine Below.drew ?_ | refine Below.alloc ?_ (by first | omega | (simp <;> omega)) _ | refine Below.setCell ?_ (by first | omega | (simp <;> omega)) _ | refine Below.trans ?_ (Below.mono (by assumption) (by first | omega | (simp <;> omega)))))
  have hXs : X.heap.size = w.heap.size + 4 := by rw [hX]; simp
  have x0 : X.cell? ⟨w.heap.size, 0, none⟩ = some (.pointer (some ⟨bS, 0, none⟩)) := by rw [hX]; simp [go_sem]
  have x1 : X.cell? ⟨w.heap.size + 1, 0, none⟩ = some (.int .i64 c) := by rw [hX]; simp [go_sem]
  have x2 : X.cell? ⟨w.heap.size + 1 + 1, 0, none⟩ = some (.int .i64 a) := by rw [hX]; simp [go_sem]
  have x3 : X.cell? ⟨w.heap.size + 1 + 1 + 1, 0, none⟩ = some (.int .i64 b) := by rw [hX]; simp [go_sem]
  have HM : Hid (Calls Try.prog 65 #[.pointer (some ⟨bS, 0, none⟩), .func (.func 136) #[] #[.pointer (some ⟨w.heap.size, 0, none⟩), .pointer (some ⟨w.heap.size + 1, 0, none⟩), .pointer (some ⟨w.heap.size + 1 + 1, 0, none⟩), .pointer (some ⟨w.heap.size + 1 + 1 + 1, 0, none⟩)]] X (RetInt X (iteK c a b))) := by
    have hY : Below w.heap.size w (X.alloc (.cells #[.int .i64 0] 3)) := hBX.alloc (by omega) _
    refine made_live 136 #[] _ _ X (HD.out _ hBX) call_ite1 ?_
    exact ite1_live w.heap.size (w.heap.size + 1) (w.heap.size + 1 + 1) (w.heap.size + 1 + 1 + 1) bS c a b _ (HD.out _ hY) hc ha hb ((World.cell?_alloc_lt X _ _ (by simp; omega)).trans x0) ((World.cell?_alloc_lt X _ _ (by simp; omega)).trans x1) ((World.cell?_alloc_lt X _ _ (by simp; omega)).trans x2) ((World.cell?_alloc_lt X _ _ (by simp; omega)).trans x3)
  have HBX := Lib.hid hBX
  have hmf := run_makeFunc
  clear x0 x1 x2 x3 hBX hc ha hb
  go_enter Try.func87, Try.ntmps87
  go_wp2_with fail
  rw [← hX]
  refine HM.out.mono ?_
  rintro e w1 ⟨rfl, hb⟩
  go_wp2_with fail
  go_ret
  exact ⟨rfl, HBX.out.trans (hb.mono (by omega))⟩

theorem bit0 : Bit01 0 := .inl rfl
theorem bit1 : Bit01 1 := .inr rfl

set_option maxRecDepth 100000 in
set_option maxHeartbeats 400000 in
theorem not_live {sp : Value} (a : Int) (w : World) (hd : Live w sp) (ha : Bit01 a) :
    Calls Try.prog 85 #[sp, .int .i64 a] w (RetInt w (iteK a 0 1)) := by
  have HM := Lib.hid (ite_live a 0 1 w hd ha bit0 bit1)
  go_enter Try.func85, Try.ntmps85
  go_wp2_with fail
  refine HM.out.mono ?_
  rintro e w1 ⟨rfl, hb⟩
  go_wp2_with fail
  go_ret
  exact ⟨rfl, hb⟩

set_option maxRecDepth 100000 in
set_option maxHeartbeats 400000 in
theorem and_live {sp : Value} (a b : Int) (w : World) (hd : Live w sp) (ha : Bit01 a) (hb : Bit01 b) :
    Calls Try.prog 82 #[sp, .int .i64 a, .int .i64 b] w (RetInt w (iteK a b 0)) := by
  have HM := Lib.hid (ite_live a b 0 w hd ha hb bit0)
  go_enter Try.func82, Try.ntmps82
  go_wp2_with fail
  refine HM.out.mono ?_
  rintro e w1 ⟨rfl, hb⟩
  go_wp2_with fail
  go_ret
  exact ⟨rfl, hb⟩

set_option maxRecDepth 100000 in
set_option maxHeartbeats 400000 in
theorem or_live {sp : Value} (a b : Int) (w : World) (hd : Live w sp) (ha : Bit01 a) (hb : Bit01 b) :
    Calls Try.prog 83 #[sp, .int .i64 a, .int .i64 b] w (RetInt w (iteK a 1 b)) := by
  have HM := Lib.hid (ite_live a 1 b w hd ha bit1 hb)
  go_enter Try.func83, Try.ntmps83
  go_wp2_with fail
  refine HM.out.mono ?_
  rintro e w1 ⟨rfl, hb⟩
  go_wp2_with fail
  go_ret
  exact ⟨rfl, hb⟩

set_option maxRecDepth 100000 in
set_option maxHeartbeats 400000 in
theorem xor_live {sp : Value} (a b : Int) (w : World) (hd : Live w sp) (ha : Bit01 a) (hb : Bit01 b) :
    Calls Try.prog 84 #[sp, .int .i64 a, .int .i64 b] w (RetInt w (iteK a (iteK b 0 1) b)) := by
  have HN := Lib.hid (not_live b w hd hb)
  have HM : Hid (∀ W, Below w.heap.size w W → Calls Try.prog 87 #[sp, .int .i64 a, .int .i64 (iteK b 0 1), .int .i64 b] W (RetInt W (iteK a (iteK b 0 1) b))) := fun W hW => ite_live a (iteK b 0 1) b W (hd.below hW) ha (iteK_ok bit0 bit1) hb
  go_enter Try.func84, Try.ntmps84
  go_wp2_with fail
  refine HN.out.mono ?_
  rintro e w1 ⟨rfl, hb1⟩
  go_wp2_with fail
  refine (HM.out _ hb1).mono ?_
  rintro e w2 ⟨rfl, hb2⟩
  go_wp2_with fail
  go_ret
  exact ⟨rfl, hb1.trans (hb2.mono hb1.size)⟩

end Go.Proofs.Ytlnkflmnjkmhkaa
