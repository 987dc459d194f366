/-
  Lemmas, joined: FolI, FitR.
-/
import Derived.Test.YtehcclcokgmplaaJA17
import Derived.Test.YtehcclcokgmplaaJA11
/-
  Layer 35's code, walked: ones.
-/
namespace Go.Proofs.Ytehcclcokgmplaa
open Go.RowKit Go.Maps

theorem fndV_not (n : Nod) (v : Value) : fndV (notN n) v = .agg #[.int .u8 7, .int .i64 n.w, .int .i64 0, .int .i64 0, .int .u64 0, .int .u64 0, v] := by
  unfold fndV notN
  simp
set_option maxRecDepth 100000 in
set_option maxHeartbeats 6400000 in
theorem ones_any (base : Nat) (n : Nod) (l0 l1 R0 R1 : List Nod) (pp : Option Addr) (pn pc : Nat) (w : World) (hp : Prt base w (.slice pp pn pc) [l0, l1])
    (hm0 : n.op = 16 → ∀ (W : World) (p : Option Addr) (c : Nat), Below w.heap.size w W → Prt base W (.slice p 1 c) [l0] → Calls Try.prog 18 #[fndV (notN n) (.slice p 1 c)] W fun e w' => (∃ v, e = .returned v ∧ CO base w' v R0) ∧ Below W.heap.size W w')
    (hm1 : n.op = 16 → ∀ (W : World) (p : Option Addr) (c : Nat), Below w.heap.size w W → Prt base W (.slice p 1 c) [l1] → Calls Try.prog 18 #[fndV (notN n) (.slice p 1 c)] W fun e w' => (∃ v, e = .returned v ∧ CO base w' v R1) ∧ Below W.heap.size W w') :
    Calls Try.prog 26 #[fndV n (.slice pp pn pc)] w (RetC base w (if n.op = 15 ∨ n.op = 16 then (if isB l1 (onesN n) = true then some (if n.op = 15 then l0 else R0) else if isB l0 (onesN n) = true then some (if n.op = 15 then l1 else R1) else none) else none)) := by
  have HI : Hid (∀ W (i : Nat), i < 2 → Below w.heap.size w W → Calls Try.prog 36 #[fndV n (.slice pp pn pc), .int .i64 i, numV (onesN n)] W fun e w' => e = .returned (.bool (isB (([l0, l1] : List (List Nod)).getD i []) (onesN n))) ∧ Below W.heap.size W w') := fun W i hi h => is_any n [l0, l1] pp pn pc i (onesN n) W (hp.below h).cs (by simpa using hi)
  obtain ⟨zx, zy, hz, -, -⟩ := numV_parts (onesN n)
  rw [hz] at HI
  have HI1 : Hid (∀ W, Below w.heap.size w W → Calls Try.prog 36 #[fndV n (.slice pp pn pc), .int .i64 1, .agg #[.int .u64 (zx : Int), .int .u64 (zy : Int)]] W fun e w' => e = .returned (.bool (isB l1 (onesN n))) ∧ Below W.heap.size W w') := fun W h => HI.out W 1 (by omega) h
  have HI0 : Hid (∀ W, Below w.heap.size w W → Calls Try.prog 36 #[fndV n (.slice pp pn pc), .int .i64 0, .agg #[.int .u64 (zx : Int), .int .u64 (zy : Int)]] W fun e w' => e = .returned (.bool (isB l0 (onesN n))) ∧ Below W.heap.size W w') := fun W h => HI.out W 0 (by omega) h
  have HMK : Hid (∀ W, Calls Try.prog 37 #[.int .i64 n.w] W fun e w' => e = .returned (.agg #[.int .u64 (zx : Int), .int .u64 (zy : Int)]) ∧ Below W.heap.size W w') := fun W => by
    have h := numMask_any n.w W
    have e : 2 ^ sh n.w - 1 = onesN n := rfl
    unfold RetNum at h
    rw [e, hz] at h
    exact h
  clear HI hz
  have HM0 : Hid (n.op = 16 → ∀ (W : World) (p : Option Addr) (c : Nat), Below w.heap.size w W → Prt base W (.slice p 1 c) [l0] → Calls Try.prog 18 #[.agg #[.int .u8 7, .int .i64 n.w, .int .i64 0, .int .i64 0, .int .u64 0, .int .u64 0, .slice p 1 c]] W fun e w' => (∃ v, e = .returned v ∧ CO base w' v R0) ∧ Below W.heap.size W w') := fun h W p c hb hp => by have h9 := hm0 h W p c hb hp; rw [fndV_not] at h9; exact h9
  have HM1 : Hid (n.op = 16 → ∀ (W : World) (p : Option Addr) (c : Nat), Below w.heap.size w W → Prt base W (.slice p 1 c) [l1] → Calls Try.prog 18 #[.agg #[.int .u8 7, .int .i64 n.w, .int .i64 0, .int .i64 0, .int .u64 0, .int .u64 0, .slice p 1 c]] W fun e w' => (∃ v, e = .returned v ∧ CO base w' v R1) ∧ Below W.heap.size W w') := fun h W p c hb hp => by have h9 := hm1 h W p c hb hp; rw [fndV_not] at h9; exact h9
  clear hm0 hm1
  generalize onesN n = M at *
  obtain ⟨op, k, a, b, v⟩ := n
  dsimp only at HMK HM0 HM1 ⊢
  obtain ⟨O, hO⟩ : ∃ O, O = (if op = 15 ∨ op = 16 then (if isB l1 M = true then some (if op = 15 then l0 else R0) else if isB l0 M = true then some (if op = 15 then l1 else R1) else none) else none) := ⟨_, rfl⟩
  rw [← hO]
  have HO := Lib.hid hO
  clear hO
  unfold fndV at HI0 HI1 ⊢
  dsimp only at HI0 HI1 ⊢
  generalize ((v / B : Nat) : Int) = x at *
  generalize ((v % B : Nat) : Int) = y at *
  have hpn3 : pn = 2 := hp.len
  obtain ⟨bb, oo, p1, n1, c1, rfl, hb, hc, hco⟩ := hp.el (j := 0) (l := l0) rfl
  obtain ⟨b2, o2, p2, n2, c2, hbo, -, hc2, hco2⟩ := hp.el (j := 1) (l := l1) rfl
  cases hbo
  subst hpn3
  simp only [Nat.add_zero] at hc
  have HCO1 := Lib.hid hco
  have HCO2 := Lib.hid hco2
  clear hp hco hco2
  generalize isB l1 M = i1 at *
  generalize isB l0 M = i0 at *
  have ix0 : ∀ w, (Instr.index 102 (.agg #[.int .i64 1, .int .i64 0]) (.int .i64 0)).run Try.prog w = .ok (.int .i64 1) w := fun _ => by kernel_rfl
  have ix1 : ∀ w, (Instr.index 102 (.agg #[.int .i64 1, .int .i64 0]) (.int .i64 1)).run Try.prog w = .ok (.int .i64 0) w := fun _ => by kernel_rfl
  have hops : (¬ op = 15 ∧ ¬ op = 16) ∨ op = 15 ∨ op = 16 := by omega
  go_enter Try.func26, Try.ntmps26
  go_upto_region 1 with fail
  obtain ⟨W1, hW1⟩ : ∃ W1, W1 = w.alloc (.cells #[.int .u8 op, .int .i64 k, .int .i64 a, .int .i64 b, .int .u64 x, .int .u64 y, .slice (some ⟨bb, oo, none⟩) 2 pc] 77) := ⟨_, rfl⟩
  have HQ1 : Hid (Below w.heap.size w W1) := by show Below _ _ _; rw [hW1]; exact (by repeat (first | exact Below.refl _ _ | assumption | refine Below.drew ?_ | refine Below.alloc ?_ (by first | omega | (simp <;> omega)) _ | refine Below.setCell ?_ (by first | omega | (simp <;> omega)) _ | refine Below.trans ?_ (Below.mono (by assumption) (by first | omega | (simp <;> omega)))))
  have hs : w.heap.size < W1.heap.size := by rw [hW1]; simp
  have HR : Hid (∀ W, Below W1.heap.size W1 W → W.cell? ⟨w.heap.size, 0, none⟩ = some (.int .u8 op) ∧ W.cell? ⟨w.heap.size, 1, none⟩ = some (.int .i64 k) ∧ W.cell? ⟨w.heap.size, 2, none⟩ = some (.int .i64 a) ∧ W.cell? ⟨w.heap.size, 3, none⟩ = some (.int .i64 b) ∧ W.cell? ⟨w.heap.size, 4, none⟩ = some (.int .u64 x) ∧ W.cell? ⟨w.heap.size, 5, none⟩ = some (.int .u64 y) ∧ W.cell? ⟨w.heap.size, 6, none⟩ = some (.slice (some ⟨bb, oo, none⟩) 2 pc) ∧ W.cell? ⟨bb, oo, none⟩ = some (.slice p1 n1 c1) ∧ W.cell? ⟨bb, oo + 1, none⟩ = some (.slice p2 n2 c2)) := fun W h => by
    refine ⟨(h.cell (p := ⟨w.heap.size, 0, none⟩) hs).trans ?_, (h.cell (p := ⟨w.heap.size, 1, none⟩) hs).trans ?_, (h.cell (p := ⟨w.heap.size, 2, none⟩) hs).trans ?_, (h.cell (p := ⟨w.heap.size, 3, none⟩) hs).trans ?_, (h.cell (p := ⟨w.heap.size, 4, none⟩) hs).trans ?_, (h.cell (p := ⟨w.heap.size, 5, none⟩) hs).trans ?_, (h.cell (p := ⟨w.heap.size, 6, none⟩) hs).trans ?_, (h.cell (p := ⟨bb, oo, none⟩) (Nat.lt_trans hb hs)).trans ((HQ1.out.cell (p := ⟨bb, oo, none⟩) hb).trans hc), (h.cell (p := ⟨bb, oo + 1, none⟩) (Nat.lt_trans hb hs)).trans ((HQ1.out.cell (p := ⟨bb, oo + 1, none⟩) hb).trans hc2)⟩
    all_goals (rw [hW1]; go_simp)
  rw [← hW1]
  clear hW1 hc hc2 hs
  obtain ⟨r0, r1, r2, r3, r4, r5, r6, r7, r8⟩ := HR.out W1 (Below.refl _ _)
  rcases hops with ⟨h1, h2⟩ | rfl | rfl
  · replace HO : Hid (O = none) := by show O = _; rw [HO.out]; simp [h1, h2]
    have h3 : (op != 15) = true := by simpa using h1
    have h4 : (op != 16) = true := by simpa using h2
    go_wp2_with fail
    refine bodyPost_ret (results_tmp2 rfl _ _ _) rfl ?_
    rw [HO.out]
    exact ⟨⟨none, 0, 0, rfl, fun l h => by cases h⟩, HQ1.out⟩
  · clear HM0 HM1
    go_upto_region 4 with (go_at_call 37; refine (HMK.out _).mono ?_; rintro e w2 ⟨rfl, g2⟩; clear r0 r1 r2 r3 r4 r5 r6 r7 r8; have HB2 := Lib.hid g2; clear g2)
    obtain ⟨W3, hW3⟩ : ∃ W3, W3 = w2.alloc (.cells #[.int .u64 (zx : Int), .int .u64 (zy : Int)] 59) := ⟨_, rfl⟩
    have hs2 : w2.heap.size < W3.heap.size := by rw [hW3]; simp
    have HB3 : Hid (Below w2.heap.size w2 W3) := by show Below _ _ _; rw [hW3]; exact (Below.refl _ _).alloc (Nat.le_refl _) _
    have HE3 : Hid (Below w.heap.size w W3) := HQ1.out.trans ((HB2.out.trans (HB3.out.mono HB2.out.size)).mono HQ1.out.size)
    have HR3 : Hid (∀ W, Below W3.heap.size W3 W → W.cell? ⟨w.heap.size, 0, none⟩ = some (.int .u8 15) ∧ W.cell? ⟨w.heap.size, 1, none⟩ = some (.int .i64 k) ∧ W.cell? ⟨w.heap.size, 2, none⟩ = some (.int .i64 a) ∧ W.cell? ⟨w.heap.size, 3, none⟩ = some (.int .i64 b) ∧ W.cell? ⟨w.heap.size, 4, none⟩ = some (.int .u64 x) ∧ W.cell? ⟨w.heap.size, 5, none⟩ = some (.int .u64 y) ∧ W.cell? ⟨w.heap.size, 6, none⟩ = some (.slice (some ⟨bb, oo, none⟩) 2 pc) ∧ W.cell? ⟨bb, oo, none⟩ = some (.slice p1 n1 c1) ∧ W.cell? ⟨bb, oo + 1, none⟩ = some (.slice p2 n2 c2) ∧ W.cell? ⟨w2.heap.size, 0, none⟩ = some (.int .u64 (zx : Int)) ∧ W.cell? ⟨w2.heap.size, 1, none⟩ = some (.int .u64 (zy : Int))) := fun W h => by
      obtain ⟨r0, r1, r2, r3, r4, r5, r6, r7, r8⟩ := HR.out W (HB2.out.trans ((HB3.out.trans (h.mono HB3.out.size)).mono HB2.out.size))
      refine ⟨r0, r1, r2, r3, r4, r5, r6, r7, r8, (h.cell (p := ⟨w2.heap.size, 0, none⟩) hs2).trans ?_, (h.cell (p := ⟨w2.heap.size, 1, none⟩) hs2).trans ?_⟩
      all_goals (rw [hW3]; go_simp)
    rw [← hW3]
    clear hW3 hs2
    go_wp2_with fail
    go_loopw [5, 6, 22] (fun u5 u6 i wr => ∃ q : Nat, q ≤ 2 ∧ i = .int .i64 q ∧ Hid (1 ≤ q → i1 = false) ∧ Hid (2 ≤ q → i0 = false) ∧ Hid (Below W3.heap.size W3 wr)) (fun _ _ i _ => 2 - (intOf i).toNat)
    case atStart => exact ⟨0, Nat.zero_le _, rfl, (fun h => absurd h (by omega)), (fun h => absurd h (by omega)), Below.refl _ _⟩
    case round =>
      obtain ⟨q, hq, rfl, HZ1, HZ0, HBr⟩ := hrel
      have HEr : Hid (Below w.heap.size w wr) := HE3.out.trans (HBr.out.mono HE3.out.size)
      obtain ⟨r0, r1, r2, r3, r4, r5, r6, r7, r8, r9, r10⟩ := HR3.out wr HBr.out
      have hqs : q = 0 ∨ q = 1 ∨ q = 2 := by omega
      rcases hqs with rfl | rfl | rfl
      · cases i1
        · go_wp2_with (go_at_call 36; refine (HI1.out _ HEr.out).mono ?_; rintro e w4 ⟨rfl, g4⟩; clear r0 r1 r2 r3 r4 r5 r6 r7 r8 r9 r10; obtain ⟨r0, r1, r2, r3, r4, r5, r6, r7, r8, r9, r10⟩ := HR3.out w4 (HBr.out.trans (g4.mono HBr.out.size)); have HB4 : Hid (Below W3.heap.size W3 w4) := HBr.out.trans (g4.mono HBr.out.size); have HE4 : Hid (Below w.heap.size w w4) := HEr.out.trans (g4.mono HEr.out.size); clear g4)
          go_roundw
          case rel => exact ⟨1, by omega, by go_num, (fun _ => by first | rfl | trivial), (fun h => absurd h (by omega)), HB4.out⟩
          case measure => simp [intOf]
        · replace HO : Hid (O = some l0) := by show O = _; rw [HO.out]; simp
          go_wp2_with (go_at_call 36; refine (HI1.out _ HEr.out).mono ?_; rintro e w4 ⟨rfl, g4⟩; clear r0 r1 r2 r3 r4 r5 r6 r7 r8 r9 r10; obtain ⟨r0, r1, r2, r3, r4, r5, r6, r7, r8, r9, r10⟩ := HR3.out w4 (HBr.out.trans (g4.mono HBr.out.size)); have HB4 : Hid (Below W3.heap.size W3 w4) := HBr.out.trans (g4.mono HBr.out.size); have HE4 : Hid (Below w.heap.size w w4) := HEr.out.trans (g4.mono HEr.out.size); clear g4)
          refine bodyPost_ret (results_tmp2 rfl _ _ _) rfl ?_
          rw [HO.out]
          exact ⟨⟨p1, n1, c1, rfl, fun l h => by cases h; exact HCO1.out.below HE4.out⟩, HE4.out⟩
      · obtain rfl : i1 = false := HZ1.out (by omega)
        cases i0
        · go_wp2_with (go_at_call 36; refine (HI0.out _ HEr.out).mono ?_; rintro e w4 ⟨rfl, g4⟩; clear r0 r1 r2 r3 r4 r5 r6 r7 r8 r9 r10; obtain ⟨r0, r1, r2, r3, r4, r5, r6, r7, r8, r9, r10⟩ := HR3.out w4 (HBr.out.trans (g4.mono HBr.out.size)); have HB4 : Hid (Below W3.heap.size W3 w4) := HBr.out.trans (g4.mono HBr.out.size); have HE4 : Hid (Below w.heap.size w w4) := HEr.out.trans (g4.mono HEr.out.size); clear g4)
          go_roundw
          case rel => exact ⟨2, by omega, by go_num, (fun _ => by first | rfl | trivial), (fun _ => by first | rfl | trivial), HB4.out⟩
          case measure => simp [intOf]
        · replace HO : Hid (O = some l1) := by show O = _; rw [HO.out]; simp
          go_wp2_with (go_at_call 36; refine (HI0.out _ HEr.out).mono ?_; rintro e w4 ⟨rfl, g4⟩; clear r0 r1 r2 r3 r4 r5 r6 r7 r8 r9 r10; obtain ⟨r0, r1, r2, r3, r4, r5, r6, r7, r8, r9, r10⟩ := HR3.out w4 (HBr.out.trans (g4.mono HBr.out.size)); have HB4 : Hid (Below W3.heap.size W3 w4) := HBr.out.trans (g4.mono HBr.out.size); have HE4 : Hid (Below w.heap.size w w4) := HEr.out.trans (g4.mono HEr.out.size); clear g4)
          refine bodyPost_ret (results_tmp2 rfl _ _ _) rfl ?_
          rw [HO.out]
          exact ⟨⟨p2, n2, c2, rfl, fun l h => by cases h; exact HCO2.out.below HE4.out⟩, HE4.out⟩
      · obtain rfl : i1 = false := HZ1.out (by omega)
        obtain rfl : i0 = false := HZ0.out (by omega)
        replace HO : Hid (O = none) := by show O = _; rw [HO.out]; simp
        go_wp2_with fail
        refine bodyPost_ret (results_tmp2 rfl _ _ _) rfl ?_
        rw [HO.out]
        exact ⟨⟨none, 0, 0, rfl, fun l h => by cases h⟩, HEr.out⟩
  · replace HM0 := Lib.hid (HM0.out rfl)
    replace HM1 := Lib.hid (HM1.out rfl)
    go_upto_region 4 with (go_at_call 37; refine (HMK.out _).mono ?_; rintro e w2 ⟨rfl, g2⟩; clear r0 r1 r2 r3 r4 r5 r6 r7 r8; have HB2 := Lib.hid g2; clear g2)
    obtain ⟨W3, hW3⟩ : ∃ W3, W3 = w2.alloc (.cells #[.int .u64 (zx : Int), .int .u64 (zy : Int)] 59) := ⟨_, rfl⟩
    have hs2 : w2.heap.size < W3.heap.size := by rw [hW3]; simp
    have HB3 : Hid (Below w2.heap.size w2 W3) := by show Below _ _ _; rw [hW3]; exact (Below.refl _ _).alloc (Nat.le_refl _) _
    have HE3 : Hid (Below w.heap.size w W3) := HQ1.out.trans ((HB2.out.trans (HB3.out.mono HB2.out.size)).mono HQ1.out.size)
    have HR3 : Hid (∀ W, Below W3.heap.size W3 W → W.cell? ⟨w.heap.size, 0, none⟩ = some (.int .u8 16) ∧ W.cell? ⟨w.heap.size, 1, none⟩ = some (.int .i64 k) ∧ W.cell? ⟨w.heap.size, 2, none⟩ = some (.int .i64 a) ∧ W.cell? ⟨w.heap.size, 3, none⟩ = some (.int .i64 b) ∧ W.cell? ⟨w.heap.size, 4, none⟩ = some (.int .u64 x) ∧ W.cell? ⟨w.heap.size, 5, none⟩ = some (.int .u64 y) ∧ W.cell? ⟨w.heap.size, 6, none⟩ = some (.slice (some ⟨bb, oo, none⟩) 2 pc) ∧ W.cell? ⟨bb, oo, none⟩ = some (.slice p1 n1 c1) ∧ W.cell? ⟨bb, oo + 1, none⟩ = some (.slice p2 n2 c2) ∧ W.cell? ⟨w2.heap.size, 0, none⟩ = some (.int .u64 (zx : Int)) ∧ W.cell? ⟨w2.heap.size, 1, none⟩ = some (.int .u64 (zy : Int))) := fun W h => by
      obtain ⟨r0, r1, r2, r3, r4, r5, r6, r7, r8⟩ := HR.out W (HB2.out.trans ((HB3.out.trans (h.mono HB3.out.size)).mono HB2.out.size))
      refine ⟨r0, r1, r2, r3, r4, r5, r6, r7, r8, (h.cell (p := ⟨w2.heap.size, 0, none⟩) hs2).trans ?_, (h.cell (p := ⟨w2.heap.size, 1, none⟩) hs2).trans ?_⟩
      all_goals (rw [hW3]; go_simp)
    rw [← hW3]
    clear hW3 hs2
    go_wp2_with fail
    go_loopw [5, 6, 22] (fun u5 u6 i wr => ∃ q : Nat, q ≤ 2 ∧ i = .int .i64 q ∧ Hid (1 ≤ q → i1 = false) ∧ Hid (2 ≤ q → i0 = false) ∧ Hid (Below W3.heap.size W3 wr)) (fun _ _ i _ => 2 - (intOf i).toNat)
    case atStart => exact ⟨0, Nat.zero_le _, rfl, (fun h => absurd h (by omega)), (fun h => absurd h (by omega)), Below.refl _ _⟩
    case round =>
      obtain ⟨q, hq, rfl, HZ1, HZ0, HBr⟩ := hrel
      have HEr : Hid (Below w.heap.size w wr) := HE3.out.trans (HBr.out.mono HE3.out.size)
      obtain ⟨r0, r1, r2, r3, r4, r5, r6, r7, r8, r9, r10⟩ := HR3.out wr HBr.out
      have hqs : q = 0 ∨ q = 1 ∨ q = 2 := by omega
      rcases hqs with rfl | rfl | rfl
      · cases i1
        · go_wp2_with (go_at_call 36; refine (HI1.out _ HEr.out).mono ?_; rintro e w4 ⟨rfl, g4⟩; clear r0 r1 r2 r3 r4 r5 r6 r7 r8 r9 r10; obtain ⟨r0, r1, r2, r3, r4, r5, r6, r7, r8, r9, r10⟩ := HR3.out w4 (HBr.out.trans (g4.mono HBr.out.size)); have HB4 : Hid (Below W3.heap.size W3 w4) := HBr.out.trans (g4.mono HBr.out.size); have HE4 : Hid (Below w.heap.size w w4) := HEr.out.trans (g4.mono HEr.out.size); clear g4)
          go_roundw
          case rel => exact ⟨1, by omega, by go_num, (fun _ => by first | rfl | trivial), (fun h => absurd h (by omega)), HB4.out⟩
          case measure => simp [intOf]
        · replace HO : Hid (O = some R0) := by show O = _; rw [HO.out]; simp
          go_upto_region 10 with (go_at_call 36; refine (HI1.out _ HEr.out).mono ?_; rintro e w4 ⟨rfl, g4⟩; clear r0 r1 r2 r3 r4 r5 r6 r7 r8 r9 r10; obtain ⟨r0, r1, r2, r3, r4, r5, r6, r7, r8, r9, r10⟩ := HR3.out w4 (HBr.out.trans (g4.mono HBr.out.size)); have HB4 : Hid (Below W3.heap.size W3 w4) := HBr.out.trans (g4.mono HBr.out.size); have HE4 : Hid (Below w.heap.size w w4) := HEr.out.trans (g4.mono HEr.out.size); clear g4)
          refine region_outS (by kernel_rfl) (fun Wk => Below w4.heap.size w4 Wk) (fun w1 w2 h1 h2 => h1.trans (h2.mono h1.size)) (by kernel_rfl) (Below.drew (Below.refl _ _)) ?_
          refine ⟨.eq ?_, trivial, rfl, fun aa ww ll hh => ?_, ?_⟩
          rotate_left
          · have e1 := (hh.old 1 (by kernel_rfl)).trans (evalO rfl)
            simp only [nthO] at e1
            refine out_val (wanted_none rfl) ?_
            clear hh
            generalize aa.eval = ev at e1 ⊢
            go_simp
            try rfl
          refine ⟨.eq ?_, trivial, rfl, fun aa ww ll hh => ?_, ?_⟩
          rotate_left
          · have e40 := hh.get 0 0 (by kernel_rfl) rfl rfl rfl
            refine out_val (wanted_none rfl) ?_
            clear hh
            generalize aa.eval = ev at e40 ⊢
            go_simp
            try rfl
          refine ⟨.eq ?_, trivial, rfl, fun aa ww ll hh => ?_, ?_⟩
          rotate_left
          · have e41 := hh.get 1 0 (by kernel_rfl) rfl rfl rfl
            obtain ⟨r0, r1, r2, r3, r4, r5, r6, r7, r8, r9, r10⟩ := HR3.out ww (HB4.out.trans (hh.inv.mono HB4.out.size))
            refine out_val (wanted_none rfl) ?_
            clear hh
            generalize aa.eval = ev at e41 ⊢
            go_simp
            try rfl
          refine ⟨.eq ?_, trivial, rfl, fun aa ww ll hh => ?_, ?_⟩
          rotate_left
          · have e42 := hh.get 2 0 (by kernel_rfl) rfl rfl rfl
            have ec : ∀ v, aa.eval (.const v) = v := fun _ => rfl
            refine out_val (wanted_none rfl) ?_
            clear hh
            generalize aa.eval = ev at e42 ec ⊢
            go_simp
            try rfl
          refine ⟨.eq ?_, trivial, rfl, fun aa ww ll hh => ?_, ?_⟩
          rotate_left
          · have e1 := (hh.old 1 (by kernel_rfl)).trans (evalO rfl)
            simp only [nthO] at e1
            refine out_val (wanted_none rfl) ?_
            clear hh
            generalize aa.eval = ev at e1 ⊢
            go_simp
            try rfl
          refine ⟨.eq ?_, trivial, rfl, fun aa ww ll hh => ?_, ?_⟩
          rotate_left
          · have e44 := hh.get 4 0 (by kernel_rfl) rfl rfl rfl
            obtain ⟨r0, r1, r2, r3, r4, r5, r6, r7, r8, r9, r10⟩ := HR3.out ww (HB4.out.trans (hh.inv.mono HB4.out.size))
            refine out_val (wanted_none rfl) ?_
            clear hh
            generalize aa.eval = ev at e44 ⊢
            go_simp
            try rfl
          refine ⟨.eq ?_, trivial, rfl, fun aa ww ll hh => ?_, ?_⟩
          rotate_left
          · have e5 := (hh.old 5 (by kernel_rfl)).trans (evalO rfl)
            simp only [nthO] at e5
            refine out_val (wanted_none rfl) ?_
            rw [ex_moveO (by first | exact .inl rfl | exact .inr rfl) e5]
          refine ⟨.eq ?_, trivial, rfl, fun aa ww ll hh => ?_, ?_⟩
          rotate_left
          · have e45 := hh.get 5 1 (by kernel_rfl) rfl rfl rfl
            have e46 := hh.get 6 0 (by kernel_rfl) rfl rfl rfl
            refine out_val (wanted_none rfl) ?_
            clear hh
            generalize aa.eval = ev at e45 e46 ⊢
            go_simp
            try rfl
          refine ⟨.eq ?_, trivial, rfl, fun aa ww ll hh => ?_, ?_⟩
          rotate_left
          · have e47 := hh.get 7 0 (by kernel_rfl) rfl rfl rfl
            obtain ⟨r0, r1, r2, r3, r4, r5, r6, r7, r8, r9, r10⟩ := HR3.out ww (HB4.out.trans (hh.inv.mono HB4.out.size))
            refine out_val (wanted_none rfl) ?_
            clear hh
            generalize aa.eval = ev at e47 ⊢
            go_simp
            try rfl
          refine ⟨.rel (fun W v => ∃ p c, v = .slice p 1 c ∧ Prt base W (.slice p 1 c) [l0]), (fun W W' v ⟨p, c, h1, h2⟩ hb => ⟨p, c, h1, h2.below hb⟩), rfl, fun aa ww ll hh => ?_, ?_⟩
          · have e48 := hh.get 8 0 (by kernel_rfl) rfl rfl rfl
            have hsz := hh.inv.size
            have hco := HCO1.out.below (HE4.out.trans (hh.inv.mono HE4.out.size))
            clear hh
            refine out_new (wanted_none rfl) (w' := ww.alloc (.cells #[.slice p1 n1 c1] 35)) (v := .slice (some ⟨ww.heap.size, 0, none⟩) 1 1) ?_ ((Below.refl _ _).alloc (Nat.le_refl _) _) ⟨_, _, rfl, prt_one (hco.below ((Below.refl _ _).alloc (Nat.le_refl _) _)) (heap_new _ _)⟩
            clear hco
            generalize aa.eval = ev at e48 ⊢
            go_simp
            try rfl
          refine ⟨.rel (fun W v => ∃ p c, v = .agg #[.int .u8 7, .int .i64 k, .int .i64 0, .int .i64 0, .int .u64 0, .int .u64 0, .slice p 1 c] ∧ Prt base W (.slice p 1 c) [l0]), (fun W W' v ⟨p, c, h1, h2⟩ hb => ⟨p, c, h1, h2.below hb⟩), rfl, fun aa ww ll hh => ?_, ?_⟩
          · have e43 := hh.get 3 6 (by kernel_rfl) rfl rfl rfl
            obtain ⟨x49, e49, -, p49⟩ := hh.got 9 0 (by kernel_rfl) rfl rfl rfl
            obtain ⟨pz, cz, rfl, hpz⟩ := p49
            refine out_new (wanted_none rfl) (v := .agg #[.int .u8 7, .int .i64 k, .int .i64 0, .int .i64 0, .int .u64 0, .int .u64 0, .slice pz 1 cz]) ?_ (Below.refl _ _) ⟨_, _, rfl, hpz⟩
            clear hh hpz
            generalize aa.eval = ev at e43 e49 ⊢
            go_simp
            try rfl
          refine ⟨.rel (fun W v => CO base W v R0), (fun W W' v h hb => h.below hb), rfl, fun aa ww ll hh => ?_, ?_⟩
          · obtain ⟨x50, e50, -, p50⟩ := hh.got 10 0 (by kernel_rfl) rfl rfl rfl
            have ef : ∀ f, aa.eval (.func f) = .func (.func f) #[] #[] := fun _ => rfl
            obtain ⟨pz, cz, rfl, hpz⟩ := p50
            have HI := hh.inv
            have hq := HM0.out ww pz cz (HE4.out.trans (HI.mono HE4.out.size)) hpz
            refine out_call (wanted_none rfl) ?_ (hq.mono fun e w9 ⟨⟨v9, h1, h2⟩, h3⟩ => ⟨v9, h1, h2, h3⟩)
            clear hh HI hq hpz
            generalize aa.eval = ev at e50 ef ⊢
            go_simp
            try rfl
          refine ⟨.rel (fun W v => CO base W v R0), (fun W W' v h hb => h.below hb), rfl, fun aa ww ll hh => ?_, ?_⟩
          · obtain ⟨x51, e51, -, p51⟩ := hh.got 11 0 (by kernel_rfl) rfl rfl rfl
            refine out_new (v := x51) (wanted_none rfl) ?_ (Below.refl _ _) p51
            rw [ex_moveO (by first | exact .inl rfl | exact .inr rfl) e51]
          refine ⟨.eq (.bool true), trivial, rfl, fun aa ww ll hh => ?_, ?_⟩
          · have ec : ∀ v, aa.eval (.const v) = v := fun _ => rfl
            refine out_val (wanted_none rfl) ?_
            rw [ex_moveO (by first | exact .inl rfl | exact .inr rfl) rfl]
            rfl
          intro ll w6 hS6 hok
          have p12 := hok 12 _ rfl
          clear hok
          simp only [List.reverse_cons, List.reverse_nil, List.nil_append, List.cons_append, layO, Out.val, Act.put, List.setIfInBounds_toArray, List.set_cons_zero, List.set_cons_succ]
          have HB6 : Hid (Below w.heap.size w w6) := HE4.out.trans (hS6.mono HE4.out.size)
          obtain ⟨vz, hvz⟩ : ∃ vz, vz = ll 12 := ⟨_, rfl⟩
          rw [← hvz] at p12 ⊢
          clear hvz hS6
          obtain ⟨pz, cz, rfl⟩ := p12.shape
          have HP6 := Lib.hid p12
          clear p12
          go_wp2_with fail
          refine bodyPost_ret (results_tmp2 rfl _ _ _) rfl ?_
          rw [HO.out]
          exact ⟨⟨pz, _, cz, rfl, fun l h => by cases h; exact HP6.out⟩, HB6.out⟩
      · obtain rfl : i1 = false := HZ1.out (by omega)
        cases i0
        · go_wp2_with (go_at_call 36; refine (HI0.out _ HEr.out).mono ?_; rintro e w4 ⟨rfl, g4⟩; clear r0 r1 r2 r3 r4 r5 r6 r7 r8 r9 r10; obtain ⟨r0, r1, r2, r3, r4, r5, r6, r7, r8, r9, r10⟩ := HR3.out w4 (HBr.out.trans (g4.mono HBr.out.size)); have HB4 : Hid (Below W3.heap.size W3 w4) := HBr.out.trans (g4.mono HBr.out.size); have HE4 : Hid (Below w.heap.size w w4) := HEr.out.trans (g4.mono HEr.out.size); clear g4)
          go_roundw
          case rel => exact ⟨2, by omega, by go_num, (fun _ => by first | rfl | trivial), (fun _ => by first | rfl | trivial), HB4.out⟩
          case measure => simp [intOf]
        · replace HO : Hid (O = some R1) := by show O = _; rw [HO.out]; simp
          go_upto_region 10 with (go_at_call 36; refine (HI0.out _ HEr.out).mono ?_; rintro e w4 ⟨rfl, g4⟩; clear r0 r1 r2 r3 r4 r5 r6 r7 r8 r9 r10; obtain ⟨r0, r1, r2, r3, r4, r5, r6, r7, r8, r9, r10⟩ := HR3.out w4 (HBr.out.trans (g4.mono HBr.out.size)); have HB4 : Hid (Below W3.heap.size W3 w4) := HBr.out.trans (g4.mono HBr.out.size); have HE4 : Hid (Below w.heap.size w w4) := HEr.out.trans (g4.mono HEr.out.size); clear g4)
          refine region_outS (by kernel_rfl) (fun Wk => Below w4.heap.size w4 Wk) (fun w1 w2 h1 h2 => h1.trans (h2.mono h1.size)) (by kernel_rfl) (Below.drew (Below.refl _ _)) ?_
          refine ⟨.eq ?_, trivial, rfl, fun aa ww ll hh => ?_, ?_⟩
          rotate_left
          · have e1 := (hh.old 1 (by kernel_rfl)).trans (evalO rfl)
            simp only [nthO] at e1
            refine out_val (wanted_none rfl) ?_
            clear hh
            generalize aa.eval = ev at e1 ⊢
            go_simp
            try rfl
          refine ⟨.eq ?_, trivial, rfl, fun aa ww ll hh => ?_, ?_⟩
          rotate_left
          · have e40 := hh.get 0 0 (by kernel_rfl) rfl rfl rfl
            refine out_val (wanted_none rfl) ?_
            clear hh
            generalize aa.eval = ev at e40 ⊢
            go_simp
            try rfl
          refine ⟨.eq ?_, trivial, rfl, fun aa ww ll hh => ?_, ?_⟩
          rotate_left
          · have e41 := hh.get 1 0 (by kernel_rfl) rfl rfl rfl
            obtain ⟨r0, r1, r2, r3, r4, r5, r6, r7, r8, r9, r10⟩ := HR3.out ww (HB4.out.trans (hh.inv.mono HB4.out.size))
            refine out_val (wanted_none rfl) ?_
            clear hh
            generalize aa.eval = ev at e41 ⊢
            go_simp
            try rfl
          refine ⟨.eq ?_, trivial, rfl, fun aa ww ll hh => ?_, ?_⟩
          rotate_left
          · have e42 := hh.get 2 0 (by kernel_rfl) rfl rfl rfl
            have ec : ∀ v, aa.eval (.const v) = v := fun _ => rfl
            refine out_val (wanted_none rfl) ?_
            clear hh
            generalize aa.eval = ev at e42 ec ⊢
            go_simp
            try rfl
          refine ⟨.eq ?_, trivial, rfl, fun aa ww ll hh => ?_, ?_⟩
          rotate_left
          · have e1 := (hh.old 1 (by kernel_rfl)).trans (evalO rfl)
            simp only [nthO] at e1
            refine out_val (wanted_none rfl) ?_
            clear hh
            generalize aa.eval = ev at e1 ⊢
            go_simp
            try rfl
          refine ⟨.eq ?_, trivial, rfl, fun aa ww ll hh => ?_, ?_⟩
          rotate_left
          · have e44 := hh.get 4 0 (by kernel_rfl) rfl rfl rfl
            obtain ⟨r0, r1, r2, r3, r4, r5, r6, r7, r8, r9, r10⟩ := HR3.out ww (HB4.out.trans (hh.inv.mono HB4.out.size))
            refine out_val (wanted_none rfl) ?_
            clear hh
            generalize aa.eval = ev at e44 ⊢
            go_simp
            try rfl
          refine ⟨.eq ?_, trivial, rfl, fun aa ww ll hh => ?_, ?_⟩
          rotate_left
          · have e5 := (hh.old 5 (by kernel_rfl)).trans (evalO rfl)
            simp only [nthO] at e5
            refine out_val (wanted_none rfl) ?_
            rw [ex_moveO (by first | exact .inl rfl | exact .inr rfl) e5]
          refine ⟨.eq ?_, trivial, rfl, fun aa ww ll hh => ?_, ?_⟩
          rotate_left
          · have e45 := hh.get 5 1 (by kernel_rfl) rfl rfl rfl
            have e46 := hh.get 6 0 (by kernel_rfl) rfl rfl rfl
            refine out_val (wanted_none rfl) ?_
            clear hh
            generalize aa.eval = ev at e45 e46 ⊢
            go_simp
            try rfl
          refine ⟨.eq ?_, trivial, rfl, fun aa ww ll hh => ?_, ?_⟩
          rotate_left
          · have e47 := hh.get 7 0 (by kernel_rfl) rfl rfl rfl
            obtain ⟨r0, r1, r2, r3, r4, r5, r6, r7, r8, r9, r10⟩ := HR3.out ww (HB4.out.trans (hh.inv.mono HB4.out.size))
            refine out_val (wanted_none rfl) ?_
            clear hh
            generalize aa.eval = ev at e47 ⊢
            go_simp
            try rfl
          refine ⟨.rel (fun W v => ∃ p c, v = .slice p 1 c ∧ Prt base W (.slice p 1 c) [l1]), (fun W W' v ⟨p, c, h1, h2⟩ hb => ⟨p, c, h1, h2.below hb⟩), rfl, fun aa ww ll hh => ?_, ?_⟩
          · have e48 := hh.get 8 0 (by kernel_rfl) rfl rfl rfl
            have hsz := hh.inv.size
            have hco := HCO2.out.below (HE4.out.trans (hh.inv.mono HE4.out.size))
            clear hh
            refine out_new (wanted_none rfl) (w' := ww.alloc (.cells #[.slice p2 n2 c2] 35)) (v := .slice (some ⟨ww.heap.size, 0, none⟩) 1 1) ?_ ((Below.refl _ _).alloc (Nat.le_refl _) _) ⟨_, _, rfl, prt_one (hco.below ((Below.refl _ _).alloc (Nat.le_refl _) _)) (heap_new _ _)⟩
            clear hco
            generalize aa.eval = ev at e48 ⊢
            go_simp
            try rfl
          refine ⟨.rel (fun W v => ∃ p c, v = .agg #[.int .u8 7, .int .i64 k, .int .i64 0, .int .i64 0, .int .u64 0, .int .u64 0, .slice p 1 c] ∧ Prt base W (.slice p 1 c) [l1]), (fun W W' v ⟨p, c, h1, h2⟩ hb => ⟨p, c, h1, h2.below hb⟩), rfl, fun aa ww ll hh => ?_, ?_⟩
          · have e43 := hh.get 3 6 (by kernel_rfl) rfl rfl rfl
            obtain ⟨x49, e49, -, p49⟩ := hh.got 9 0 (by kernel_rfl) rfl rfl rfl
            obtain ⟨pz, cz, rfl, hpz⟩ := p49
            refine out_new (wanted_none rfl) (v := .agg #[.int .u8 7, .int .i64 k, .int .i64 0, .int .i64 0, .int .u64 0, .int .u64 0, .slice pz 1 cz]) ?_ (Below.refl _ _) ⟨_, _, rfl, hpz⟩
            clear hh hpz
            generalize aa.eval = ev at e43 e49 ⊢
            go_simp
            try rfl
          refine ⟨.rel (fun W v => CO base W v R1), (fun W W' v h hb => h.below hb), rfl, fun aa ww ll hh => ?_, ?_⟩
          · obtain ⟨x50, e50, -, p50⟩ := hh.got 10 0 (by kernel_rfl) rfl rfl rfl
            have ef : ∀ f, aa.eval (.func f) = .func (.func f) #[] #[] := fun _ => rfl
            obtain ⟨pz, cz, rfl, hpz⟩ := p50
            have HI := hh.inv
            have hq := HM1.out ww pz cz (HE4.out.trans (HI.mono HE4.out.size)) hpz
            refine out_call (wanted_none rfl) ?_ (hq.mono fun e w9 ⟨⟨v9, h1, h2⟩, h3⟩ => ⟨v9, h1, h2, h3⟩)
            clear hh HI hq hpz
            generalize aa.eval = ev at e50 ef ⊢
            go_simp
            try rfl
          refine ⟨.rel (fun W v => CO base W v R1), (fun W W' v h hb => h.below hb), rfl, fun aa ww ll hh => ?_, ?_⟩
          · obtain ⟨x51, e51, -, p51⟩ := hh.got 11 0 (by kernel_rfl) rfl rfl rfl
            refine out_new (v := x51) (wanted_none rfl) ?_ (Below.refl _ _) p51
            rw [ex_moveO (by first | exact .inl rfl | exact .inr rfl) e51]
          refine ⟨.eq (.bool true), trivial, rfl, fun aa ww ll hh => ?_, ?_⟩
          · have ec : ∀ v, aa.eval (.const v) = v := fun _ => rfl
            refine out_val (wanted_none rfl) ?_
            rw [ex_moveO (by first | exact .inl rfl | exact .inr rfl) rfl]
            rfl
          intro ll w6 hS6 hok
          have p12 := hok 12 _ rfl
          clear hok
          simp only [List.reverse_cons, List.reverse_nil, List.nil_append, List.cons_append, layO, Out.val, Act.put, List.setIfInBounds_toArray, List.set_cons_zero, List.set_cons_succ]
          have HB6 : Hid (Below w.heap.size w w6) := HE4.out.trans (hS6.mono HE4.out.size)
          obtain ⟨vz, hvz⟩ : ∃ vz, vz = ll 12 := ⟨_, rfl⟩
          rw [← hvz] at p12 ⊢
          clear hvz hS6
          obtain ⟨pz, cz, rfl⟩ := p12.shape
          have HP6 := Lib.hid p12
          clear p12
          go_wp2_with fail
          refine bodyPost_ret (results_tmp2 rfl _ _ _) rfl ?_
          rw [HO.out]
          exact ⟨⟨pz, _, cz, rfl, fun l h => by cases h; exact HP6.out⟩, HB6.out⟩
      · obtain rfl : i1 = false := HZ1.out (by omega)
        obtain rfl : i0 = false := HZ0.out (by omega)
        replace HO : Hid (O = none) := by show O = _; rw [HO.out]; simp
        go_wp2_with fail
        refine bodyPost_ret (results_tmp2 rfl _ _ _) rfl ?_
        rw [HO.out]
        exact ⟨⟨none, 0, 0, rfl, fun l h => by cases h⟩, HEr.out⟩

end Go.Proofs.Ytehcclcokgmplaa

/-
  The plain law of ActionFits: a packet that fits fits behind what is run; what stays as it was.
-/
namespace Go.Proofs.Ytehcclcokgmplaa

/-- A packet that fits. -/
structure PktF (p : Prg) (x : Pkt) : Prop where
  v : x.valid.length = p.heads.length
  f : x.fields.length = p.heads.length
  m : x.metas.length = p.metas.length
  mf : ∀ (j : Nat) (a : Nat), x.metas[j]? = some a → fitsP a (p.metas.getD j 0) = true
  fl : ∀ (h : Nat) (l : List Nat), x.fields[h]? = some l → l.length = (p.heads.getD h []).length
  ff : ∀ (h : Nat) (l : List Nat), x.fields[h]? = some l → ∀ (j : Nat) (a : Nat), l[j]? = some a → fitsP a ((p.heads.getD h []).getD j 0) = true
  z : ∀ (h : Nat) (l : List Nat), x.fields[h]? = some l → x.valid.getD h false = false → ∀ a ∈ l, a = 0
theorem PktF.other {p : Prg} {x y : Pkt} (h : PktF p x) (h1 : y.valid = x.valid) (h2 : y.fields = x.fields) (h3 : y.metas = x.metas) : PktF p y := by
  refine ⟨by rw [h1]; exact h.v, by rw [h2]; exact h.f, by rw [h3]; exact h.m, by rw [h3]; exact h.mf, by rw [h2]; exact h.fl, by rw [h2]; exact h.ff, by rw [h1, h2]; exact h.z⟩
end Go.Proofs.Ytehcclcokgmplaa
