/-
  The law SymopMeans of layer 18: the walk.
-/
import Derived.Test.YtlnkflmnjkmhkaaJO26
import Derived.Test.YtlnkflmnjkmhkaaJO29
import Derived.Test.YtlnkflmnjkmhkaaJO30

namespace Go.Proofs.Ytlnkflmnjkmhkaa
open Go.RowKit Go.Maps

def xsq (xs ys : List Int) (s0 : BS) : Nat → List Int
  | 0 => (so1 xs ys s0).2
  | 1 => (so2 xs ys s0).2
  | _ => (so3 xs ys s0).2
def zsq (pv pm : Nat) (xs ys : List Int) (s0 : BS) : Nat → Int
  | 0 => (so4 xs ys s0).2
  | 1 => (so5 xs ys s0).2
  | 2 => (so6 xs ys s0).2
  | 3 => (so7 xs ys s0).2
  | _ => (so8 pv pm xs ys s0).2
def ssq (pv pm : Nat) (xs ys : List Int) (s0 : BS) : Nat → BS
  | 0 => s0
  | 1 => (so1 xs ys s0).1
  | 2 => (so2 xs ys s0).1
  | 3 => (so3 xs ys s0).1
  | 4 => (so4 xs ys s0).1
  | 5 => (so5 xs ys s0).1
  | 6 => (so6 xs ys s0).1
  | 7 => (so7 xs ys s0).1
  | _ => (so8 pv pm xs ys s0).1
def vsq (v0 v1 v2 : Value) (g : Nat → Nat) : Nat → Value
  | 0 => v0
  | 1 => v1
  | 2 => v2
  | i => .slice (some ⟨g i, 0, none⟩) 1 1
def rsq (pv pm : Nat) (xs ys : List Int) (s0 : BS) : Nat → List Int
  | 0 => (so1 xs ys s0).2
  | 1 => (so2 xs ys s0).2
  | 2 => (so3 xs ys s0).2
  | 3 => [(so4 xs ys s0).2]
  | 4 => [(so5 xs ys s0).2]
  | 5 => [(so6 xs ys s0).2]
  | 6 => [(so7 xs ys s0).2]
  | _ => [(so8 pv pm xs ys s0).2]

theorem bitsAre (n h l : Nat) (hn : n < B * B) (e : numV n = .agg #[.int .u64 (h : Int), .int .u64 (l : Int)]) : BitsAre (h : Int) (l : Int) (bitB n) := fun i W => by
  have := numBit_any n i W hn
  rw [e] at this
  exact this

theorem ivec_one {W : World} {g : Nat} {z : Int} {t : TypeId} (h : W.heap[g]? = some (.cells #[.int .i64 z] t (0, 0))) : IVec W (.slice (some ⟨g, 0, none⟩) 1 1) [z] :=
  IVec.of_heap (t := t) (by rfl) (by unfold maxLen; omega) h

set_option maxRecDepth 100000 in
set_option maxHeartbeats 6000000 in
theorem law18m (wd od pv pm : Nat) (h0 l0 h1 l1 : Nat) (hpv : pv < B * B) (hpm : pm < B * B) (HPV : Hid (numV pv = .agg #[.int .u64 (h0 : Int), .int .u64 (l0 : Int)])) (HPM : Hid (numV pm = .agg #[.int .u64 (h1 : Int), .int .u64 (l1 : Int)])) (hwd : wd < 256) (hod : od < 256) (w : World) :
    Calls Try.prog 6 #[.int .u8 (wd : Int), .int .u8 (od : Int), .agg #[.int .u64 (h0 : Int), .int .u64 (l0 : Int), .int .u64 (h1 : Int), .int .u64 (l1 : Int)]] w fun e w' => e = .returned (.bool true) ∧ Below w.heap.size w w' := by
  obtain ⟨W, hW, hW1, hW4⟩ : ∃ W : Nat, (wd : Int) % 4 + 1 = W ∧ 1 ≤ W ∧ W ≤ 4 := ⟨wd % 4 + 1, by omega, by omega, by omega⟩
  obtain ⟨X, hX, hX1, hX4⟩ : ∃ X : Nat, (od : Int) % 4 + 1 = X ∧ 1 ≤ X ∧ X ≤ 4 := ⟨od % 4 + 1, by omega, by omega, by omega⟩
  obtain ⟨A, hA⟩ : ∃ A, A = w.alloc (.cells #[.int .u64 (h0 : Int), .int .u64 (l0 : Int), .int .u64 (h1 : Int), .int .u64 (l1 : Int)] 43) := ⟨_, rfl⟩
  have hAB : Below w.heap.size w A := by rw [hA]; exact (by repeat (first | exact Below.refl _ _ | assumption | refine Below.drew ?_ | refine Below.alloc ?_ (by first | omega | (simp <;> omega)) _ | refine Below.setCell ?_ (by first | omega | (simp <;> omega)) _ | refine Below.trans ?_ (Below.mono (by assumption) (by first | omega | (simp <;> omega)))))
  have hAs : A.heap.size = w.heap.size + 1 := by rw [hA]; simp
  have a0 : PatAt A w.heap.size (h0 : Int) (l0 : Int) (h1 : Int) (l1 : Int) := by rw [hA]; simp [PatAt, go_sem]
  have HNEW : Hid (Calls Try.prog 8 #[.int .i64 20000] A fun e w' => e = .returned (.tuple #[.pointer (some ⟨A.heap.size + 2, 0, none⟩), .int .i64 0]) ∧ newWorld A 20000 = w') := new_ok 20000 A (by omega) (by omega)
  obtain ⟨O, hS, hO⟩ := new_sto A 20000 (by omega) (by omega)
  have hb0 : Below A.heap.size A (newWorld A 20000) := by unfold newWorld; exact (by repeat (first | exact Below.refl _ _ | assumption | refine Below.drew ?_ | refine Below.alloc ?_ (by first | omega | (simp <;> omega)) _ | refine Below.setCell ?_ (by first | omega | (simp <;> omega)) _ | refine Below.trans ?_ (Below.mono (by assumption) (by first | omega | (simp <;> omega)))))
  have HE0 : Hid (PatAt (newWorld A 20000) w.heap.size (h0 : Int) (l0 : Int) (h1 : Int) (l1 : Int)) := a0.below hb0 (by omega)
  have HNO : Hid (¬ O w.heap.size) := fun h => by have := hO _ h; omega
  have HBW : Hid (Below w.heap.size w (newWorld A 20000)) := hAB.trans (hb0.mono hAB.size)
  have HS := Lib.hid hS
  have HO : Hid (∀ k, O k → w.heap.size ≤ k) := fun k hk => by have := hO k hk; omega
  have HWX : Hid ((wd : Int) % 4 + 1 = W ∧ (od : Int) % 4 + 1 = X) := ⟨hW, hX⟩
  have HA := Lib.hid hA
  clear hS hO hb0 a0 hAB hW hX hA
  go_enter Try.func6, Try.ntmps6
  go_wp2_with fail
  rw [HWX.out.1, HWX.out.2, ← HA.out]
  refine HNEW.out.mono ?_
  rintro e w0 ⟨rfl, rfl⟩
  generalize hB : A.heap.size + 2 = b at HS ⊢
  generalize newWorld A 20000 = w0 at *
  clear HNEW hB hAs HA
  go_wp2_with fail
  (with_reducible refine (symbvVars_sto b O _ 0 (W : Int) w0 HS.out (by omega) (by omega)).mono ?_)
  rintro e w1 ⟨va, O1, rfl, hva, hs1, hx1⟩
  have HVA1 := Lib.hid hva
  have HS1 := Lib.hid hs1
  have HX1 := Lib.hid hx1
  clear hva hs1 hx1
  go_wp2_with fail
  (with_reducible refine (symbvVars_sto b O1 _ (W : Int) (X : Int) w1 HS1.out (by omega) (by omega)).mono ?_)
  rintro e w2 ⟨vb, O2, rfl, hvb, hs2, hx2⟩
  have hWm : (max 0 (min (W : Int) 64)).toNat = W := by omega
  have hXm : (max 0 (min (X : Int) 64)).toNat = X := by omega
  have hva := HVA1.out
  rw [hWm] at hva hvb hs2
  rw [hXm] at hvb hs2
  have hms := sop_start W X hW4 hX4
  generalize (varsS (W : Int) X (varsS 0 W ⟨20000, [], false⟩).1).2.reverse = ys at *
  generalize (varsS (W : Int) X (varsS 0 W ⟨20000, [], false⟩).1).1 = s0 at *
  generalize (varsS 0 W ⟨20000, [], false⟩).2.reverse = xs at *
  have HMS := Lib.hid hms
  have HXX : Hid (Ext O O2 w0 w2) := HX1.out.trans hx2
  have HB2 : Hid (Below w.heap.size w w2) := below_ext HBW.out HXX.out HO.out HBW.out.size
  have HVA : Hid (IVecX w2 O2 va xs) := hva.ext hx2
  have HVB : Hid (IVecX w2 O2 vb ys) := hvb
  have HS2 : Hid (Sto w2 b O2 s0) := hs2
  have HO2 : Hid (∀ k, O2 k → w.heap.size ≤ k) := fun k hk => by
    rcases HXX.out.2 k hk with h | h
    · exact HO.out k h
    · have := HBW.out.size; omega
  obtain ⟨hp0, hp1, hp2, hp3⟩ := HE0.out
  have hnb : ¬ O2 w.heap.size := (HXX.out.cell (p := ⟨w.heap.size, 0, none⟩) (cell_there hp0).1 HNO.out).2.2
  have HP2 : Hid (PatAt w2 w.heap.size (h0 : Int) (l0 : Int) (h1 : Int) (l1 : Int)) :=
    ⟨(HXX.out.cell (p := ⟨w.heap.size, 0, none⟩) (cell_there hp0).1 HNO.out).1.trans hp0, (HXX.out.cell (p := ⟨w.heap.size, 1, none⟩) (cell_there hp0).1 HNO.out).1.trans hp1, (HXX.out.cell (p := ⟨w.heap.size, 2, none⟩) (cell_there hp0).1 HNO.out).1.trans hp2, (HXX.out.cell (p := ⟨w.heap.size, 3, none⟩) (cell_there hp0).1 HNO.out).1.trans hp3⟩
  have HLX : Hid (xs.length ≤ 1000000 ∧ ys.length ≤ 1000000) := ⟨by rw [hms.lx]; omega, by rw [hms.ly]; omega⟩
  have HNB := Lib.hid hnb
  have HFV := Lib.hid (bitsAre pv h0 l0 hpv HPV.out)
  have HFM := Lib.hid (bitsAre pm h1 l1 hpm HPM.out)
  clear hva hvb hs2 hx2 hms hWm hXm hp0 hp1 hp2 hp3 hnb HS HS1 HX1 HVA1 HXX HE0 HO HNO
  go_wp2_with fail
  all_goals
    refine reg6 W X w.heap.size b va vb (h0 : Int) (l0 : Int) (h1 : Int) (l1 : Int) (xsq xs ys s0) (zsq pv pm xs ys s0) (ssq pv pm xs ys s0) O2 w2 HS2 HNB.out HP2.out
      ?k0 ?k1 ?k2 ?k3 ?k4 ?k5 ?k6 ?k7 _ _ _ _ _ _ _ _ _ _ _ _ _ _ _ _ _ _ _ _ _ _ _ _ _ _ _ _ _ _ _ _ _ _ _ _ _ _ _ _ _ _ _ _ _ _ _ _ _ _ _ _ _ _ _ _ _ _ _ _ _ _ _ _ _ _ _ _ _ _ _ _ _ _ _ _ _ _ _ _ _ _ _ _ _ _ _ _ _ _ _ _ _ _ _ _ _ _ _ _ _ _ _ _ _ _ _ _ _ _ _ _ _ _ _ _ _ _ _ _ _ _ _ _ _ _ _ _ _ _ _ _ _ _ _ _ _ _ _ _ _ _ _ _ _ _ _ _ _ _ _ _ _ _ _ _ _ _ _ _ _ _ _ _ _ _ _ _ _ _ _ _ _ _ _ _ _ _ _ _ _ _ _ _ _ _ _ ?_
    case k0 => exact fun O W hS hE => (add_sto b O _ va vb xs ys W hS (HVA.out.ext hE).1 (HVB.out.ext hE).1 HLX.out.1 HLX.out.2).mono fun e w' ⟨v, O', q1, q2, q3, q4⟩ => ⟨v, O', q1, q2, q3, q4⟩
    case k1 => exact fun O W hS hE => (sub_sto b O _ va vb xs ys W hS (HVA.out.ext hE) (HVB.out.ext hE).1 HLX.out.1 HLX.out.2).mono fun e w' ⟨v, O', q1, q2, q3, q4⟩ => ⟨v, O', q1, q2, q3, q4⟩
    case k2 => exact fun O W hS hE => (neg_sto b O _ va xs W hS (HVA.out.ext hE).1 HLX.out.1).mono fun e w' ⟨v, O', q1, q2, q3, q4⟩ => ⟨v, O', q1, q2, q3, q4⟩
    case k3 => exact fun O W hS hE => (eq_sto b O _ va vb xs ys W hS (HVA.out.ext hE).1 (HVB.out.ext hE).1 HLX.out.1 HLX.out.2).mono fun e w' ⟨q1, O', q2, q3⟩ => ⟨q1, O', q2, q3⟩
    case k4 => exact fun O W hS hE => (less_sto b O _ va vb xs ys W hS (HVA.out.ext hE).1 (HVB.out.ext hE).1 HLX.out.1 HLX.out.2).mono fun e w' ⟨q1, O', q2, q3⟩ => ⟨q1, O', q2, q3⟩
    case k5 => exact fun O W hS hE => (atMost_sto b O _ va vb xs ys W hS (HVA.out.ext hE).1 (HVB.out.ext hE).1 HLX.out.1 HLX.out.2).mono fun e w' ⟨q1, O', q2, q3⟩ => ⟨q1, O', q2, q3⟩
    case k6 => exact fun O W hS hE => (any_sto b O _ va xs W hS (HVA.out.ext hE) HLX.out.1).mono fun e w' ⟨q1, O', q2, q3⟩ => ⟨q1, O', q2, q3⟩
    case k7 => exact fun O W hS hE => (agrees_sto b O _ va xs _ _ _ _ (bitB pv) (bitB pm) HFV HFM W hS (HVA.out.ext hE) HLX.out.1).mono fun e w' ⟨q1, O', q2, q3⟩ => ⟨q1, O', q2, q3⟩
    intro u0 u1 u2 u3 u4 u5 u6 u7 u8 u9 u10 u11 u12 u13 u14 u15 u16 u17 u18 u19 u20 u21 u22 u23 u24 u25 u26 u27 u28 u29 u30 u31 u32 u33 u34 u35 u36 w3 hR
    dsimp only
    obtain ⟨kk, O3, hG⟩ := hR
    have hkk : 8 ≤ kk := by
      have h7 := hG.stage 7 33 rfl
      rw [did_all 37 33 (by omega)] at h7
      have h8 : 7 < kk := by simpa using h7.symm
      omega
    have est : ssq pv pm xs ys s0 kk = (so8 pv pm xs ys s0).1 := by
      match kk, hkk with
      | n + 8, _ => rfl
    have HS3 : Hid (Sto w3 b O3 (so8 pv pm xs ys s0).1) := by
      have h : Sto w3 b O3 (ssq pv pm xs ys s0 kk) := hG.sto
      rw [est] at h
      exact h
    have HE3 : Hid (Ext O2 O3 w2 w3) := hG.ext
    have t3 : IVecX w3 O3 u3 (so1 xs ys s0).2 := hG.ok 3 _ (did_all 37 3 (by omega)) rfl
    have t7 : IVecX w3 O3 u7 (so2 xs ys s0).2 := hG.ok 7 _ (did_all 37 7 (by omega)) rfl
    have t10 : IVecX w3 O3 u10 (so3 xs ys s0).2 := hG.ok 10 _ (did_all 37 10 (by omega)) rfl
    obtain ⟨d3, e15, -, h15⟩ : ∃ g, u15 = .slice (some ⟨g, 0, none⟩) 1 1 ∧ ¬ O3 g ∧ w3.heap[g]? = some (.cells #[.int .i64 (so4 xs ys s0).2] 3 (0, 0)) := hG.ok 15 _ (did_all 37 15 (by omega)) rfl
    obtain ⟨d4, e20, -, h20⟩ : ∃ g, u20 = .slice (some ⟨g, 0, none⟩) 1 1 ∧ ¬ O3 g ∧ w3.heap[g]? = some (.cells #[.int .i64 (so5 xs ys s0).2] 3 (0, 0)) := hG.ok 20 _ (did_all 37 20 (by omega)) rfl
    obtain ⟨d5, e25, -, h25⟩ : ∃ g, u25 = .slice (some ⟨g, 0, none⟩) 1 1 ∧ ¬ O3 g ∧ w3.heap[g]? = some (.cells #[.int .i64 (so6 xs ys s0).2] 3 (0, 0)) := hG.ok 25 _ (did_all 37 25 (by omega)) rfl
    obtain ⟨d6, e29, -, h29⟩ : ∃ g, u29 = .slice (some ⟨g, 0, none⟩) 1 1 ∧ ¬ O3 g ∧ w3.heap[g]? = some (.cells #[.int .i64 (so7 xs ys s0).2] 3 (0, 0)) := hG.ok 29 _ (did_all 37 29 (by omega)) rfl
    obtain ⟨d7, e34, -, h34⟩ : ∃ g, u34 = .slice (some ⟨g, 0, none⟩) 1 1 ∧ ¬ O3 g ∧ w3.heap[g]? = some (.cells #[.int .i64 (so8 pv pm xs ys s0).2] 3 (0, 0)) := hG.ok 34 _ (did_all 37 34 (by omega)) rfl
    obtain ⟨-, mb, e35, -, h35⟩ : (∀ j ∈ [3, 7, 10, 15, 20, 25, 29, 34], did (Array.replicate 37 true) j = true) ∧ ∃ g, u35 = .slice (some ⟨g, 0, none⟩) 8 8 ∧ ¬ O3 g ∧ w3.heap[g]? = some (.cells #[u3, u7, u10, u15, u20, u25, u29, u34] 34 (0, 0)) := hG.ok 35 _ (did_all 37 35 (by omega)) rfl
    have e36 : u36 = u35 := (hG.ok 36 _ (did_all 37 36 (by omega)) rfl).2
    subst e36
    replace e35 := Eq.symm e35
    subst e35
    rw [e15, e20, e25, e29, e34] at h35
    clear hG e15 e20 e25 e29 e34 hkk est
    have hcell : ∀ i, i < 8 → w3.cell? ⟨mb, i, none⟩ = some (vsq u3 u7 u10 (fun i => if i = 3 then d3 else if i = 4 then d4 else if i = 5 then d5 else if i = 6 then d6 else d7) i) := by
      intro i hi
      match i, hi with
      | 0, _ => simp [World.cell?, h35, vsq]
      | 1, _ => simp [World.cell?, h35, vsq]
      | 2, _ => simp [World.cell?, h35, vsq]
      | 3, _ => simp [World.cell?, h35, vsq]
      | 4, _ => simp [World.cell?, h35, vsq]
      | 5, _ => simp [World.cell?, h35, vsq]
      | 6, _ => simp [World.cell?, h35, vsq]
      | 7, _ => simp [World.cell?, h35, vsq]
      | i + 8, hi => exact absurd hi (by omega)
    obtain ⟨-, M1, M2, M3, M4, M5, M6, M7, M8⟩ := eight HMS.out hW1 hW4 hX1 hX4 pv pm
    have HM8 : Hid (∀ i, i < 8 → w3.cell? ⟨mb, i, none⟩ = some (vsq u3 u7 u10 (fun i => if i = 3 then d3 else if i = 4 then d4 else if i = 5 then d5 else if i = 6 then d6 else d7) i) ∧ IVec w3 (vsq u3 u7 u10 (fun i => if i = 3 then d3 else if i = 4 then d4 else if i = 5 then d5 else if i = 6 then d6 else d7) i) (rsq pv pm xs ys s0 i) ∧ (rsq pv pm xs ys s0 i).length ≤ 128 ∧ ∀ q, evalV (so8 pv pm xs ys s0).1.nodes q (rsq pv pm xs ys s0 i) = mo W X pv pm i q) := by
      intro i hi
      refine ⟨hcell i hi, ?_⟩
      match i, hi with
      | 0, _ => exact ⟨t3.vec, M1.1, M1.2.2⟩
      | 1, _ => exact ⟨t7.vec, M2.1, M2.2.2⟩
      | 2, _ => exact ⟨t10.vec, M3.1, M3.2.2⟩
      | 3, _ => exact ⟨ivec_one h15, M4.1, M4.2.2⟩
      | 4, _ => exact ⟨ivec_one h20, M5.1, M5.2.2⟩
      | 5, _ => exact ⟨ivec_one h25, M6.1, M6.2.2⟩
      | 6, _ => exact ⟨ivec_one h29, M7.1, M7.2.2⟩
      | 7, _ => exact ⟨ivec_one h34, M8.1, M8.2.2⟩
      | i + 8, hi => exact absurd hi (by omega)
    have HP3 : Hid (PatAt w3 w.heap.size (h0 : Int) (l0 : Int) (h1 : Int) (l1 : Int)) :=
      ⟨(HE3.out.cell (p := ⟨w.heap.size, 0, none⟩) (cell_there HP2.out.1).1 HNB.out).1.trans HP2.out.1, (HE3.out.cell (p := ⟨w.heap.size, 1, none⟩) (cell_there HP2.out.1).1 HNB.out).1.trans HP2.out.2.1, (HE3.out.cell (p := ⟨w.heap.size, 2, none⟩) (cell_there HP2.out.1).1 HNB.out).1.trans HP2.out.2.2.1, (HE3.out.cell (p := ⟨w.heap.size, 3, none⟩) (cell_there HP2.out.1).1 HNB.out).1.trans HP2.out.2.2.2⟩
    have HB3 : Hid (Below w.heap.size w w3) := below_ext HB2.out HE3.out HO2.out HB2.out.size
    clear hcell t3 t7 t10 h15 h20 h25 h29 h34 h35 M1 M2 M3 M4 M5 M6 M7 M8 HMS HVA HVB HS2 HP2 HE3 HB2 HLX HNB HFV HFM
    go_wp2_with fail
    obtain ⟨wp1, wp2⟩ := wrap_pow W X hW1 hW4 hX1 hX4
    rw [wp1]
    obtain ⟨T, hT⟩ : ∃ T, T = 2 ^ (W + X) := ⟨_, rfl⟩
    rw [← hT] at wp2 ⊢
    have HT := Lib.hid hT
    clear wp1 hT
    refine loop18 W X _ w.heap.size b mb T pv pm h0 l0 h1 l1 hW1 hW4 hX1 hX4 (Lib.hid (by omega)) wp2 HT hpv hpm HPV HPM w3 HP3.out O3 _ HS3 _ _ HM8 _ _ _ _ _ _ _ _ _ _ _ _ _ _ _ _ _ _ _ _ _ _ _ _ _ _ _ _ _ _ _ _ _ _ _ _ _ _ _ _ _ _ _ _ _ _ _ _ _ _ _ _ _ _ _ _ _ _ _ _ _ _ _ _ _ _ _ _ _ _ _ _ _ _ _ _ _ _ _ _ _ _ _ _ _ _ _ _ _ _ _ _ _ _ _ _ _ _ _ _ _ _ _ _ _ _ _ _ _ _ _ _ _ _ _ _ _ _ _ _ _ _ _ _ _ _ _ _ _ _ _ _ _ _ _ _ _ _ _ _ _ _ _ _ _ _ _ _ _ _ _ _ _ _ _ _ _ _ _ _ _ _ _ _ _ _ _ _ _ _ _ _ _ _ _ _ _ _ _ _ _ _ _ _ ?_
    intro _ _ _ _ _ _ _ _ _ _ _ _ _ _ _ _ _ _ _ _ _ _ _ _ _ _ _ _ _ _ _ _ _ _ _ _ _ _ _ _ _ _ _ _ _ _ _ _ _ _ _ _ _ _ _ _ _ _ _ _ _ _ _ _ _ _ _ _ _ _ _ _ _ _ _ _ _ _ _ _ _ _ _ _ _ _ _ _ _ _ _ _ _ _ _ _ _ _ _ _ _ _ _ _ _ _ _ _ w20 hb20
    dsimp only
    go_wp2_with fail
    refine (known18_true _).mono ?_
    rintro e w21 ⟨rfl, hb21⟩
    have HBE : Hid (Below w.heap.size w w21) := (HB3.out.trans (hb20.mono HB3.out.size)).trans (hb21.mono (Nat.le_trans HB3.out.size hb20.size))
    go_wp2_with fail
    go_ret
    exact ⟨rfl, HBE.out⟩

end Go.Proofs.Ytlnkflmnjkmhkaa
