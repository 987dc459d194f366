/-
  Lemmas, joined: FolG, FolH.
-/
import Derived.Test.YtehcclcokgmplaaJA16
/-
  Layer 35's code, walked: nought.
-/
namespace Go.Proofs.Ytehcclcokgmplaa
open Go.RowKit Go.Maps

def isB (l : List Nod) (m : Nat) : Bool := (cV l).2 && decide ((cV l).1 = m)
set_option maxRecDepth 100000 in
set_option maxHeartbeats 6400000 in
theorem nought_any (base : Nat) (n : Nod) (l0 l1 : List Nod) (pp : Option Addr) (pn pc : Nat) (w : World) (hp : Prt base w (.slice pp pn pc) [l0, l1]) :
    Calls Try.prog 25 #[fndV n (.slice pp pn pc)] w (RetC base w (if (either n ∨ n.op = 12) ∧ isB l1 0 = true then some l0 else if either n ∧ isB l0 0 = true then some l1 else none)) := by
  have HI : Hid (∀ W (i : Nat), i < 2 → Below w.heap.size w W → Calls Try.prog 36 #[fndV n (.slice pp pn pc), .int .i64 i, numV 0] W fun e w' => e = .returned (.bool (isB (([l0, l1] : List (List Nod)).getD i []) 0)) ∧ Below W.heap.size W w') := fun W i hi h => is_any n [l0, l1] pp pn pc i 0 W (hp.below h).cs (by simpa using hi)
  have HI1 : Hid (∀ W, Below w.heap.size w W → Calls Try.prog 36 #[fndV n (.slice pp pn pc), .int .i64 1, .agg #[.int .u64 0, .int .u64 0]] W fun e w' => e = .returned (.bool (isB l1 0)) ∧ Below W.heap.size W w') := fun W h => HI.out W 1 (by omega) h
  have HI0 : Hid (∀ W, Below w.heap.size w W → Calls Try.prog 36 #[fndV n (.slice pp pn pc), .int .i64 0, .agg #[.int .u64 0, .int .u64 0]] W fun e w' => e = .returned (.bool (isB l0 0)) ∧ Below W.heap.size W w') := fun W h => HI.out W 0 (by omega) h
  clear HI
  obtain ⟨op, k, a, b, v⟩ := n
  obtain ⟨O, hO⟩ : ∃ O, O = (if (either ⟨op, k, a, b, v⟩ ∨ op = 12) ∧ isB l1 0 = true then some l0 else if either ⟨op, k, a, b, v⟩ ∧ isB l0 0 = true then some l1 else none) := ⟨_, rfl⟩
  dsimp only
  rw [← hO]
  have HO := Lib.hid hO
  clear hO
  unfold fndV at HI0 HI1 ⊢
  dsimp only at HI0 HI1 ⊢
  generalize ((v / B : Nat) : Int) = x at *
  generalize ((v % B : Nat) : Int) = y at *
  have hpn3 : pn = 2 := hp.len
  obtain ⟨bb, oo, p1, n1, c1, rfl, hb, hc, hco⟩ := hp.el (j := 0) (l := l0) rfl
  obtain ⟨b2, o2, p2, n2, c2, hbo, -, hc2, hco2⟩ := hp.el (j := 1) (l := l1) rfl
  cases hbo
  subst hpn3
  simp only [Nat.add_zero] at hc
  have HCO1 := Lib.hid hco
  have HCO2 := Lib.hid hco2
  clear hp hco hco2
  generalize isB l1 0 = i1 at *
  generalize isB l0 0 = i0 at *
  have hops : op = 11 ∨ op = 17 ∨ op = 16 ∨ op = 12 ∨ (¬ op = 11 ∧ ¬ op = 17 ∧ ¬ op = 16 ∧ ¬ op = 12) := by omega
  go_enter Try.func25, Try.ntmps25
  go_upto_region 2 with fail
  obtain ⟨W1, hW1⟩ : ∃ W1, W1 = (w.alloc (.cells #[.int .u8 op, .int .i64 k, .int .i64 a, .int .i64 b, .int .u64 x, .int .u64 y, .slice (some ⟨bb, oo, none⟩) 2 pc] 77)).alloc (.cells #[.int .u64 0, .int .u64 0] 59) := ⟨_, rfl⟩
  have HQ1 : Hid (Below w.heap.size w W1) := by show Below _ _ _; rw [hW1]; exact (by repeat (first | exact Below.refl _ _ | assumption | refine Below.drew ?_ | refine Below.alloc ?_ (by first | omega | (simp <;> omega)) _ | refine Below.setCell ?_ (by first | omega | (simp <;> omega)) _ | refine Below.trans ?_ (Below.mono (by assumption) (by first | omega | (simp <;> omega)))))
  have hs : w.heap.size < W1.heap.size := by rw [hW1]; simp; omega
  have hs1 : w.heap.size + 1 < W1.heap.size := by rw [hW1]; simp
  have HR : Hid (∀ W, Below W1.heap.size W1 W → W.cell? ⟨w.heap.size, 0, none⟩ = some (.int .u8 op) ∧ W.cell? ⟨w.heap.size, 1, none⟩ = some (.int .i64 k) ∧ W.cell? ⟨w.heap.size, 2, none⟩ = some (.int .i64 a) ∧ W.cell? ⟨w.heap.size, 3, none⟩ = some (.int .i64 b) ∧ W.cell? ⟨w.heap.size, 4, none⟩ = some (.int .u64 x) ∧ W.cell? ⟨w.heap.size, 5, none⟩ = some (.int .u64 y) ∧ W.cell? ⟨w.heap.size, 6, none⟩ = some (.slice (some ⟨bb, oo, none⟩) 2 pc) ∧ W.cell? ⟨w.heap.size + 1, 0, none⟩ = some (.int .u64 0) ∧ W.cell? ⟨w.heap.size + 1, 1, none⟩ = some (.int .u64 0) ∧ W.cell? ⟨bb, oo, none⟩ = some (.slice p1 n1 c1) ∧ W.cell? ⟨bb, oo + 1, none⟩ = some (.slice p2 n2 c2)) := fun W h => by
    refine ⟨(h.cell (p := ⟨w.heap.size, 0, none⟩) hs).trans ?_, (h.cell (p := ⟨w.heap.size, 1, none⟩) hs).trans ?_, (h.cell (p := ⟨w.heap.size, 2, none⟩) hs).trans ?_, (h.cell (p := ⟨w.heap.size, 3, none⟩) hs).trans ?_, (h.cell (p := ⟨w.heap.size, 4, none⟩) hs).trans ?_, (h.cell (p := ⟨w.heap.size, 5, none⟩) hs).trans ?_, (h.cell (p := ⟨w.heap.size, 6, none⟩) hs).trans ?_, (h.cell (p := ⟨w.heap.size + 1, 0, none⟩) hs1).trans ?_, (h.cell (p := ⟨w.heap.size + 1, 1, none⟩) hs1).trans ?_, (h.cell (p := ⟨bb, oo, none⟩) (Nat.lt_trans hb hs)).trans ((HQ1.out.cell (p := ⟨bb, oo, none⟩) hb).trans hc), (h.cell (p := ⟨bb, oo + 1, none⟩) (Nat.lt_trans hb hs)).trans ((HQ1.out.cell (p := ⟨bb, oo + 1, none⟩) hb).trans hc2)⟩
    all_goals (rw [hW1]; go_simp)
  rw [← hW1]
  clear hW1 hc hc2 hs hs1
  obtain ⟨r0, r1, r2, r3, r4, r5, r6, r7, r8, r9, r10⟩ := HR.out W1 (Below.refl _ _)
  rcases hops with rfl | rfl | rfl | rfl | ⟨h1, h2, h3, h4⟩
  · skip
    cases i1
    · cases i0
      · replace HO : Hid (O = none) := by show O = _; rw [HO.out]; simp [either]
        go_wp2_with (first | (go_at_call 36; (with_reducible refine (HI1.out _ HQ1.out).mono ?_); rintro e w2 ⟨rfl, g2⟩; clear r0 r1 r2 r3 r4 r5 r6 r7 r8 r9 r10; obtain ⟨r0, r1, r2, r3, r4, r5, r6, r7, r8, r9, r10⟩ := HR.out w2 g2; have HB2 := Lib.hid g2; have HE2 : Hid (Below w.heap.size w w2) := HQ1.out.trans (g2.mono HQ1.out.size); clear g2) | (go_at_call 36; (with_reducible refine (HI0.out _ HE2.out).mono ?_); rintro e w3 ⟨rfl, g3⟩; clear r0 r1 r2 r3 r4 r5 r6 r7 r8 r9 r10; obtain ⟨r0, r1, r2, r3, r4, r5, r6, r7, r8, r9, r10⟩ := HR.out w3 (HB2.out.trans (g3.mono HB2.out.size)); have HE3 : Hid (Below w.heap.size w w3) := HE2.out.trans (g3.mono HE2.out.size); clear g3))
        refine bodyPost_ret (results_tmp2 rfl _ _ _) rfl ?_
        rw [HO.out]
        exact ⟨⟨none, 0, 0, rfl, fun l h => by cases h⟩, HE3.out⟩
      · replace HO : Hid (O = some l1) := by show O = _; rw [HO.out]; simp [either]
        go_wp2_with (first | (go_at_call 36; (with_reducible refine (HI1.out _ HQ1.out).mono ?_); rintro e w2 ⟨rfl, g2⟩; clear r0 r1 r2 r3 r4 r5 r6 r7 r8 r9 r10; obtain ⟨r0, r1, r2, r3, r4, r5, r6, r7, r8, r9, r10⟩ := HR.out w2 g2; have HB2 := Lib.hid g2; have HE2 : Hid (Below w.heap.size w w2) := HQ1.out.trans (g2.mono HQ1.out.size); clear g2) | (go_at_call 36; (with_reducible refine (HI0.out _ HE2.out).mono ?_); rintro e w3 ⟨rfl, g3⟩; clear r0 r1 r2 r3 r4 r5 r6 r7 r8 r9 r10; obtain ⟨r0, r1, r2, r3, r4, r5, r6, r7, r8, r9, r10⟩ := HR.out w3 (HB2.out.trans (g3.mono HB2.out.size)); have HE3 : Hid (Below w.heap.size w w3) := HE2.out.trans (g3.mono HE2.out.size); clear g3))
        refine bodyPost_ret (results_tmp2 rfl _ _ _) rfl ?_
        rw [HO.out]
        exact ⟨⟨p2, n2, c2, rfl, fun l h => by cases h; exact HCO2.out.below HE3.out⟩, HE3.out⟩
    · replace HO : Hid (O = some l0) := by show O = _; rw [HO.out]; simp [either]
      go_wp2_with (go_at_call 36; (with_reducible refine (HI1.out _ HQ1.out).mono ?_); rintro e w2 ⟨rfl, g2⟩; clear r0 r1 r2 r3 r4 r5 r6 r7 r8 r9 r10; obtain ⟨r0, r1, r2, r3, r4, r5, r6, r7, r8, r9, r10⟩ := HR.out w2 g2; have HB2 := Lib.hid g2; have HE2 : Hid (Below w.heap.size w w2) := HQ1.out.trans (g2.mono HQ1.out.size); clear g2)
      refine bodyPost_ret (results_tmp2 rfl _ _ _) rfl ?_
      rw [HO.out]
      exact ⟨⟨p1, n1, c1, rfl, fun l h => by cases h; exact HCO1.out.below HE2.out⟩, HE2.out⟩
  · skip
    cases i1
    · cases i0
      · replace HO : Hid (O = none) := by show O = _; rw [HO.out]; simp [either]
        go_wp2_with (first | (go_at_call 36; (with_reducible refine (HI1.out _ HQ1.out).mono ?_); rintro e w2 ⟨rfl, g2⟩; clear r0 r1 r2 r3 r4 r5 r6 r7 r8 r9 r10; obtain ⟨r0, r1, r2, r3, r4, r5, r6, r7, r8, r9, r10⟩ := HR.out w2 g2; have HB2 := Lib.hid g2; have HE2 : Hid (Below w.heap.size w w2) := HQ1.out.trans (g2.mono HQ1.out.size); clear g2) | (go_at_call 36; (with_reducible refine (HI0.out _ HE2.out).mono ?_); rintro e w3 ⟨rfl, g3⟩; clear r0 r1 r2 r3 r4 r5 r6 r7 r8 r9 r10; obtain ⟨r0, r1, r2, r3, r4, r5, r6, r7, r8, r9, r10⟩ := HR.out w3 (HB2.out.trans (g3.mono HB2.out.size)); have HE3 : Hid (Below w.heap.size w w3) := HE2.out.trans (g3.mono HE2.out.size); clear g3))
        refine bodyPost_ret (results_tmp2 rfl _ _ _) rfl ?_
        rw [HO.out]
        exact ⟨⟨none, 0, 0, rfl, fun l h => by cases h⟩, HE3.out⟩
      · replace HO : Hid (O = some l1) := by show O = _; rw [HO.out]; simp [either]
        go_wp2_with (first | (go_at_call 36; (with_reducible refine (HI1.out _ HQ1.out).mono ?_); rintro e w2 ⟨rfl, g2⟩; clear r0 r1 r2 r3 r4 r5 r6 r7 r8 r9 r10; obtain ⟨r0, r1, r2, r3, r4, r5, r6, r7, r8, r9, r10⟩ := HR.out w2 g2; have HB2 := Lib.hid g2; have HE2 : Hid (Below w.heap.size w w2) := HQ1.out.trans (g2.mono HQ1.out.size); clear g2) | (go_at_call 36; (with_reducible refine (HI0.out _ HE2.out).mono ?_); rintro e w3 ⟨rfl, g3⟩; clear r0 r1 r2 r3 r4 r5 r6 r7 r8 r9 r10; obtain ⟨r0, r1, r2, r3, r4, r5, r6, r7, r8, r9, r10⟩ := HR.out w3 (HB2.out.trans (g3.mono HB2.out.size)); have HE3 : Hid (Below w.heap.size w w3) := HE2.out.trans (g3.mono HE2.out.size); clear g3))
        refine bodyPost_ret (results_tmp2 rfl _ _ _) rfl ?_
        rw [HO.out]
        exact ⟨⟨p2, n2, c2, rfl, fun l h => by cases h; exact HCO2.out.below HE3.out⟩, HE3.out⟩
    · replace HO : Hid (O = some l0) := by show O = _; rw [HO.out]; simp [either]
      go_wp2_with (go_at_call 36; (with_reducible refine (HI1.out _ HQ1.out).mono ?_); rintro e w2 ⟨rfl, g2⟩; clear r0 r1 r2 r3 r4 r5 r6 r7 r8 r9 r10; obtain ⟨r0, r1, r2, r3, r4, r5, r6, r7, r8, r9, r10⟩ := HR.out w2 g2; have HB2 := Lib.hid g2; have HE2 : Hid (Below w.heap.size w w2) := HQ1.out.trans (g2.mono HQ1.out.size); clear g2)
      refine bodyPost_ret (results_tmp2 rfl _ _ _) rfl ?_
      rw [HO.out]
      exact ⟨⟨p1, n1, c1, rfl, fun l h => by cases h; exact HCO1.out.below HE2.out⟩, HE2.out⟩
  · skip
    cases i1
    · cases i0
      · replace HO : Hid (O = none) := by show O = _; rw [HO.out]; simp [either]
        go_wp2_with (first | (go_at_call 36; (with_reducible refine (HI1.out _ HQ1.out).mono ?_); rintro e w2 ⟨rfl, g2⟩; clear r0 r1 r2 r3 r4 r5 r6 r7 r8 r9 r10; obtain ⟨r0, r1, r2, r3, r4, r5, r6, r7, r8, r9, r10⟩ := HR.out w2 g2; have HB2 := Lib.hid g2; have HE2 : Hid (Below w.heap.size w w2) := HQ1.out.trans (g2.mono HQ1.out.size); clear g2) | (go_at_call 36; (with_reducible refine (HI0.out _ HE2.out).mono ?_); rintro e w3 ⟨rfl, g3⟩; clear r0 r1 r2 r3 r4 r5 r6 r7 r8 r9 r10; obtain ⟨r0, r1, r2, r3, r4, r5, r6, r7, r8, r9, r10⟩ := HR.out w3 (HB2.out.trans (g3.mono HB2.out.size)); have HE3 : Hid (Below w.heap.size w w3) := HE2.out.trans (g3.mono HE2.out.size); clear g3))
        refine bodyPost_ret (results_tmp2 rfl _ _ _) rfl ?_
        rw [HO.out]
        exact ⟨⟨none, 0, 0, rfl, fun l h => by cases h⟩, HE3.out⟩
      · replace HO : Hid (O = some l1) := by show O = _; rw [HO.out]; simp [either]
        go_wp2_with (first | (go_at_call 36; (with_reducible refine (HI1.out _ HQ1.out).mono ?_); rintro e w2 ⟨rfl, g2⟩; clear r0 r1 r2 r3 r4 r5 r6 r7 r8 r9 r10; obtain ⟨r0, r1, r2, r3, r4, r5, r6, r7, r8, r9, r10⟩ := HR.out w2 g2; have HB2 := Lib.hid g2; have HE2 : Hid (Below w.heap.size w w2) := HQ1.out.trans (g2.mono HQ1.out.size); clear g2) | (go_at_call 36; (with_reducible refine (HI0.out _ HE2.out).mono ?_); rintro e w3 ⟨rfl, g3⟩; clear r0 r1 r2 r3 r4 r5 r6 r7 r8 r9 r10; obtain ⟨r0, r1, r2, r3, r4, r5, r6, r7, r8, r9, r10⟩ := HR.out w3 (HB2.out.trans (g3.mono HB2.out.size)); have HE3 : Hid (Below w.heap.size w w3) := HE2.out.trans (g3.mono HE2.out.size); clear g3))
        refine bodyPost_ret (results_tmp2 rfl _ _ _) rfl ?_
        rw [HO.out]
        exact ⟨⟨p2, n2, c2, rfl, fun l h => by cases h; exact HCO2.out.below HE3.out⟩, HE3.out⟩
    · replace HO : Hid (O = some l0) := by show O = _; rw [HO.out]; simp [either]
      go_wp2_with (go_at_call 36; (with_reducible refine (HI1.out _ HQ1.out).mono ?_); rintro e w2 ⟨rfl, g2⟩; clear r0 r1 r2 r3 r4 r5 r6 r7 r8 r9 r10; obtain ⟨r0, r1, r2, r3, r4, r5, r6, r7, r8, r9, r10⟩ := HR.out w2 g2; have HB2 := Lib.hid g2; have HE2 : Hid (Below w.heap.size w w2) := HQ1.out.trans (g2.mono HQ1.out.size); clear g2)
      refine bodyPost_ret (results_tmp2 rfl _ _ _) rfl ?_
      rw [HO.out]
      exact ⟨⟨p1, n1, c1, rfl, fun l h => by cases h; exact HCO1.out.below HE2.out⟩, HE2.out⟩
  · skip
    cases i1
    · replace HO : Hid (O = none) := by show O = _; rw [HO.out]; simp [either]
      go_wp2_with (go_at_call 36; (with_reducible refine (HI1.out _ HQ1.out).mono ?_); rintro e w2 ⟨rfl, g2⟩; clear r0 r1 r2 r3 r4 r5 r6 r7 r8 r9 r10; obtain ⟨r0, r1, r2, r3, r4, r5, r6, r7, r8, r9, r10⟩ := HR.out w2 g2; have HB2 := Lib.hid g2; have HE2 : Hid (Below w.heap.size w w2) := HQ1.out.trans (g2.mono HQ1.out.size); clear g2)
      refine bodyPost_ret (results_tmp2 rfl _ _ _) rfl ?_
      rw [HO.out]
      exact ⟨⟨none, 0, 0, rfl, fun l h => by cases h⟩, HE2.out⟩
    · replace HO : Hid (O = some l0) := by show O = _; rw [HO.out]; simp [either]
      go_wp2_with (go_at_call 36; (with_reducible refine (HI1.out _ HQ1.out).mono ?_); rintro e w2 ⟨rfl, g2⟩; clear r0 r1 r2 r3 r4 r5 r6 r7 r8 r9 r10; obtain ⟨r0, r1, r2, r3, r4, r5, r6, r7, r8, r9, r10⟩ := HR.out w2 g2; have HB2 := Lib.hid g2; have HE2 : Hid (Below w.heap.size w w2) := HQ1.out.trans (g2.mono HQ1.out.size); clear g2)
      refine bodyPost_ret (results_tmp2 rfl _ _ _) rfl ?_
      rw [HO.out]
      exact ⟨⟨p1, n1, c1, rfl, fun l h => by cases h; exact HCO1.out.below HE2.out⟩, HE2.out⟩
  · replace HO : Hid (O = none) := by show O = _; rw [HO.out]; simp [either, h1, h2, h3, h4]
    go_wp2_with fail
    refine bodyPost_ret (results_tmp2 rfl _ _ _) rfl ?_
    rw [HO.out]
    exact ⟨⟨none, 0, 0, rfl, fun l h => by cases h⟩, HQ1.out⟩

end Go.Proofs.Ytehcclcokgmplaa

/-
  Layer 35's code, walked: slice.
-/
namespace Go.Proofs.Ytehcclcokgmplaa
open Go.RowKit Go.Maps

theorem prt_one {base : Nat} {W : World} {g : Nat} {p : Option Addr} {n c : Nat} {l : List Nod} (h : CO base W (.slice p n c) l) (hg : W.heap[g]? = some (.cells #[.slice p n c] 35 (0, 0))) : Prt base W (.slice (some ⟨g, 0, none⟩) 1 1) [l] := by
  refine ⟨[(p, n, c)], ⟨some ⟨g, 0, none⟩, 1, rfl, Nat.le_refl _, by decide, (fun e => by cases e), fun _ => ⟨g, 0, rfl, (Array.getElem?_eq_some_iff.1 hg).1, fun j s hj => ?_⟩⟩, rfl, fun j s l2 hs hl => ?_⟩
  · match j, hj with
    | 0, hj => cases hj; show W.cell? _ = _; simp [World.cell?, hg, slV]
  · match j, hs, hl with
    | 0, hs, hl => cases hs; cases hl; exact h

set_option maxRecDepth 100000 in
set_option maxHeartbeats 6400000 in
theorem slice_any (base : Nat) (n : Nod) (ls : List (List Nod)) (l0 R : List Nod) (m : Nod) (pp : Option Addr) (pn pc : Nat) (w : World) (hp : Prt base w (.slice pp pn pc) ls) (h0 : ls[0]? = some (l0 ++ [m])) (hl : l0.length ≤ 6000) (hbase : base ≤ w.heap.size) (hmw : wrap64 (m.w - 1) = m.w - 1)
    (hab : n.op = 9 → m.op = 9 → ¬ (n.a = m.w - 1 ∧ n.b = 0) → wrap64 (n.a + m.b) = n.a + m.b ∧ wrap64 (n.b + m.b) = n.b + m.b)
    (hm : n.op = 9 → m.op = 9 → ¬ (n.a = m.w - 1 ∧ n.b = 0) → ∀ (W : World) (p : Option Addr) (c : Nat), Below w.heap.size w W → Prt base W (.slice p 1 c) [l0] → Calls Try.prog 18 #[fndV (slc n m) (.slice p 1 c)] W fun e w' => (∃ v, e = .returned v ∧ CO base w' v R) ∧ Below W.heap.size W w') :
    Calls Try.prog 23 #[fndV n (.slice pp pn pc)] w (RetC base w (if n.op = 9 then (if n.a = m.w - 1 ∧ n.b = 0 then some (l0 ++ [m]) else if m.op = 9 then some R else none) else none)) := by
  obtain ⟨op, k, a, b, v⟩ := n
  obtain ⟨mop, mk, ma, mb, mv⟩ := m
  have HLA : Hid (∀ W, Below w.heap.size w W → Calls Try.prog 34 #[fndV ⟨op, k, a, b, v⟩ (.slice pp pn pc)] W fun e w' => e = .returned (ndV ⟨mop, mk, ma, mb, mv⟩) ∧ Below W.heap.size W w') := fun W h => last_any base _ ls l0 _ pp pn pc W (hp.below h) h0 hl
  have HIN : Hid (∀ W, Below w.heap.size w W → Calls Try.prog 35 #[fndV ⟨op, k, a, b, v⟩ (.slice pp pn pc)] W fun e w' => (∃ v, e = .returned v ∧ CO W.heap.size w' v l0) ∧ Below W.heap.size W w') := fun W h => inner_any base _ ls l0 _ pp pn pc W (hp.below h) h0 hl
  dsimp only at hmw hab hm ⊢
  obtain ⟨O, hO⟩ : ∃ O, O = (if op = 9 then (if a = mk - 1 ∧ b = 0 then some (l0 ++ [⟨mop, mk, ma, mb, mv⟩]) else if mop = 9 then some R else none) else none) := ⟨_, rfl⟩
  rw [← hO]
  unfold fndV ndV at HLA
  unfold fndV slc at hm
  unfold fndV at HIN ⊢
  dsimp only at HLA HIN hm ⊢
  generalize ((v / B : Nat) : Int) = x at *
  generalize ((v % B : Nat) : Int) = y at *
  have hpn : (0 : Int) < (pn : Int) := by
    have h1 := hp.len
    have h2 := (List.getElem?_eq_some_iff.1 h0).1
    omega
  have hpn2 : 0 < pn := by omega
  obtain ⟨bb, oo, p1, n1, c1, rfl, hb, hc, hco⟩ := hp.el h0
  simp only [Nat.add_zero] at hc
  have HCO := Lib.hid hco
  clear hp h0 hco
  generalize hml : l0 ++ [(⟨mop, mk, ma, mb, mv⟩ : Nod)] = lw at *
  clear hml
  generalize ((mv / B : Nat) : Int) = mx at *
  generalize ((mv % B : Nat) : Int) = my at *
  have HO := Lib.hid hO
  have HM0 := Lib.hid hm
  have HAB := Lib.hid hab
  have HBS := Lib.hid hbase
  clear hO hm hab hbase
  obtain ⟨d, hd⟩ : ∃ d, d = mk - 1 := ⟨_, rfl⟩
  rw [← hd] at hmw HO HM0 HAB
  go_enter Try.func23, Try.ntmps23
  go_upto_region 1 with fail
  obtain ⟨W1, hW1⟩ : ∃ W1, W1 = w.alloc (.cells #[.int .u8 op, .int .i64 k, .int .i64 a, .int .i64 b, .int .u64 x, .int .u64 y, .slice (some ⟨bb, oo, none⟩) pn pc] 77) := ⟨_, rfl⟩
  have HQ1 : Hid (Below w.heap.size w W1) := by show Below _ _ _; rw [hW1]; exact (by repeat (first | exact Below.refl _ _ | assumption | refine Below.drew ?_ | refine Below.alloc ?_ (by first | omega | (simp <;> omega)) _ | refine Below.setCell ?_ (by first | omega | (simp <;> omega)) _ | refine Below.trans ?_ (Below.mono (by assumption) (by first | omega | (simp <;> omega)))))
  have hs : w.heap.size < W1.heap.size := by rw [hW1]; simp
  have HR : Hid (∀ W, Below W1.heap.size W1 W → W.cell? ⟨w.heap.size, 0, none⟩ = some (.int .u8 op) ∧ W.cell? ⟨w.heap.size, 1, none⟩ = some (.int .i64 k) ∧ W.cell? ⟨w.heap.size, 2, none⟩ = some (.int .i64 a) ∧ W.cell? ⟨w.heap.size, 3, none⟩ = some (.int .i64 b) ∧ W.cell? ⟨w.heap.size, 4, none⟩ = some (.int .u64 x) ∧ W.cell? ⟨w.heap.size, 5, none⟩ = some (.int .u64 y) ∧ W.cell? ⟨w.heap.size, 6, none⟩ = some (.slice (some ⟨bb, oo, none⟩) pn pc) ∧ W.cell? ⟨bb, oo, none⟩ = some (.slice p1 n1 c1)) := fun W h => by
    refine ⟨(h.cell (p := ⟨w.heap.size, 0, none⟩) hs).trans ?_, (h.cell (p := ⟨w.heap.size, 1, none⟩) hs).trans ?_, (h.cell (p := ⟨w.heap.size, 2, none⟩) hs).trans ?_, (h.cell (p := ⟨w.heap.size, 3, none⟩) hs).trans ?_, (h.cell (p := ⟨w.heap.size, 4, none⟩) hs).trans ?_, (h.cell (p := ⟨w.heap.size, 5, none⟩) hs).trans ?_, (h.cell (p := ⟨w.heap.size, 6, none⟩) hs).trans ?_, (h.cell (p := ⟨bb, oo, none⟩) (Nat.lt_trans hb hs)).trans ((HQ1.out.cell (p := ⟨bb, oo, none⟩) hb).trans hc)⟩
    all_goals (rw [hW1]; go_simp)
  rw [← hW1]
  clear hW1 hc
  obtain ⟨r0, r1, r2, r3, r4, r5, r6, r7⟩ := HR.out W1 (Below.refl _ _)
  go_upto_region 2 with (go_at_call 34; refine (HLA.out _ HQ1.out).mono ?_; rintro e w2 ⟨rfl, g2⟩; clear r0 r1 r2 r3 r4 r5 r6 r7; have HB2 := Lib.hid g2; clear g2)
  obtain ⟨W3, hW3⟩ : ∃ W3, W3 = w2.alloc (.cells #[.int .u8 mop, .int .i64 mk, .int .i64 ma, .int .i64 mb, .int .u64 mx, .int .u64 my] 61) := ⟨_, rfl⟩
  have hs2 : w2.heap.size < W3.heap.size := by rw [hW3]; simp
  have HB3 : Hid (Below w2.heap.size w2 W3) := by show Below _ _ _; rw [hW3]; exact (Below.refl _ _).alloc (Nat.le_refl _) _
  have HE3 : Hid (Below w.heap.size w W3) := HQ1.out.trans ((HB2.out.trans (HB3.out.mono HB2.out.size)).mono HQ1.out.size)
  have HR3 : Hid (∀ W, Below W3.heap.size W3 W → W.cell? ⟨w.heap.size, 0, none⟩ = some (.int .u8 op) ∧ W.cell? ⟨w.heap.size, 1, none⟩ = some (.int .i64 k) ∧ W.cell? ⟨w.heap.size, 2, none⟩ = some (.int .i64 a) ∧ W.cell? ⟨w.heap.size, 3, none⟩ = some (.int .i64 b) ∧ W.cell? ⟨w.heap.size, 4, none⟩ = some (.int .u64 x) ∧ W.cell? ⟨w.heap.size, 5, none⟩ = some (.int .u64 y) ∧ W.cell? ⟨w.heap.size, 6, none⟩ = some (.slice (some ⟨bb, oo, none⟩) pn pc) ∧ W.cell? ⟨bb, oo, none⟩ = some (.slice p1 n1 c1) ∧ W.cell? ⟨w2.heap.size, 0, none⟩ = some (.int .u8 mop) ∧ W.cell? ⟨w2.heap.size, 1, none⟩ = some (.int .i64 mk) ∧ W.cell? ⟨w2.heap.size, 2, none⟩ = some (.int .i64 ma) ∧ W.cell? ⟨w2.heap.size, 3, none⟩ = some (.int .i64 mb) ∧ W.cell? ⟨w2.heap.size, 4, none⟩ = some (.int .u64 mx) ∧ W.cell? ⟨w2.heap.size, 5, none⟩ = some (.int .u64 my)) := fun W h => by
    obtain ⟨r0, r1, r2, r3, r4, r5, r6, r7⟩ := HR.out W (HB2.out.trans ((HB3.out.trans (h.mono HB3.out.size)).mono HB2.out.size))
    refine ⟨r0, r1, r2, r3, r4, r5, r6, r7, (h.cell (p := ⟨w2.heap.size, 0, none⟩) hs2).trans ?_, (h.cell (p := ⟨w2.heap.size, 1, none⟩) hs2).trans ?_, (h.cell (p := ⟨w2.heap.size, 2, none⟩) hs2).trans ?_, (h.cell (p := ⟨w2.heap.size, 3, none⟩) hs2).trans ?_, (h.cell (p := ⟨w2.heap.size, 4, none⟩) hs2).trans ?_, (h.cell (p := ⟨w2.heap.size, 5, none⟩) hs2).trans ?_⟩
    all_goals (rw [hW3]; go_simp)
  rw [← hW3]
  clear hW3
  obtain ⟨r0, r1, r2, r3, r4, r5, r6, r7, s0, s1, s2, s3, s4, s5⟩ := HR3.out W3 (Below.refl _ _)
  have hds : wrap64 (mk - 1) = d := by rw [hd] ; rw [hd] at hmw; exact hmw
  by_cases h9 : op = 9
  case neg =>
    replace HO : Hid (O = none) := by show O = _; rw [HO.out]; simp [h9]
    go_wp2_with fail
    refine bodyPost_ret (results_tmp2 rfl _ _ _) rfl ?_
    rw [HO.out]
    exact ⟨⟨none, 0, 0, rfl, fun l h => by cases h⟩, HE3.out⟩
  subst h9
  clear hd hmw
  have hsp : (a = d ∧ b = 0) ∨ (a = d ∧ ¬ b = 0) ∨ ¬ a = d := by omega
  rcases hsp with ⟨rfl, rfl⟩ | hsp
  · replace HO : Hid (O = some lw) := by show O = _; rw [HO.out]; simp
    go_wp2_with fail
    refine bodyPost_ret (results_tmp2 rfl _ _ _) rfl ?_
    rw [HO.out]
    exact ⟨⟨p1, n1, c1, rfl, fun l h => by cases h; exact HCO.out.below HE3.out⟩, HE3.out⟩
  have hnab : ¬ (a = d ∧ b = 0) := by omega
  by_cases hm9 : mop = 9
  case neg =>
    replace HO : Hid (O = none) := by show O = _; rw [HO.out, if_pos rfl, if_neg hnab, if_neg hm9]
    clear hnab
    rcases hsp with ⟨rfl, hb0⟩ | had
    all_goals
      go_wp2_with fail
      refine bodyPost_ret (results_tmp2 rfl _ _ _) rfl ?_
      rw [HO.out]
      exact ⟨⟨none, 0, 0, rfl, fun l h => by cases h⟩, HE3.out⟩
  subst hm9
  replace HO : Hid (O = some R) := by show O = _; rw [HO.out, if_pos rfl, if_neg hnab, if_pos rfl]
  obtain ⟨hwa, hwb⟩ := HAB.out rfl rfl hnab
  have HM := Lib.hid (HM0.out rfl rfl hnab)
  clear hnab HAB HM0
  rcases hsp with ⟨rfl, hb0⟩ | had
  all_goals
    go_upto_region 9 with fail
    obtain ⟨W4, hW4⟩ : ∃ W4, W4 = W3.alloc (.cells #[.int .u8 9, .int .i64 k, .int .i64 a, .int .i64 b, .int .u64 x, .int .u64 y] 61) := ⟨_, rfl⟩
    have hg4 : W4.heap[W3.heap.size]? = some (.cells #[.int .u8 9, .int .i64 k, .int .i64 a, .int .i64 b, .int .u64 x, .int .u64 y] 61 (0, 0)) := by rw [hW4]; exact heap_new _ _
    have hb4 : Below W3.heap.size W3 W4 := by rw [hW4]; exact (Below.refl _ _).alloc (Nat.le_refl _) _
    obtain ⟨q0, q1, q2, q3, q4, q5, q6, q7, s0', s1', s2', s3', s4', s5'⟩ := HR3.out W4 hb4
    have u2 : W4.cell? ⟨W3.heap.size, 2, none⟩ = some (.int .i64 a) := by simp [World.cell?, hg4]
    have u3 : W4.cell? ⟨W3.heap.size, 3, none⟩ = some (.int .i64 b) := by simp [World.cell?, hg4]
    have uf : ∀ i, W4.frozen? ⟨W3.heap.size, i, none⟩ = false := fun i => by simp [World.frozen?, hg4]
    rw [← hW4]
    clear hW4 r0 r1 r2 r3 r4 r5 r6 r7 s0 s1 s2 s3 s4 s5
    have HG4 := Lib.hid hg4
    have HB4 := Lib.hid hb4
    clear hg4 hb4
    go_region
    go_upto_region 10 with fail
    obtain ⟨W5, hW5⟩ : ∃ W5, W5 = ((W4.setCell ⟨W3.heap.size, 2, none⟩ (.int .i64 (a + mb))).setCell ⟨W3.heap.size, 3, none⟩ (.int .i64 (b + mb))).drew := ⟨_, rfl⟩
    have hg5 : W5.heap[W3.heap.size]? = some (.cells #[.int .u8 9, .int .i64 k, .int .i64 (a + mb), .int .i64 (b + mb), .int .u64 x, .int .u64 y] 61 (0, 0)) := by
      rw [hW5, drew_heap]
      have h1 : (W4.setCell ⟨W3.heap.size, 2, none⟩ (.int .i64 (a + mb))).heap[W3.heap.size]? = some (.cells #[.int .u8 9, .int .i64 k, .int .i64 (a + mb), .int .i64 b, .int .u64 x, .int .u64 y] 61 (0, 0)) := heap_setCell_same _ _ 2 _ _ _ HG4.out
      exact heap_setCell_same _ _ 3 _ _ _ h1
    have HB5 : Hid (Below W3.heap.size W3 W5) := by show Below _ _ _; rw [hW5]; exact ((HB4.out.setCell (Nat.le_refl _) _).setCell (Nat.le_refl _) _).drew
    have HE5 : Hid (Below w.heap.size w W5) := HE3.out.trans (HB5.out.mono HE3.out.size)
    have hs5 : W3.heap.size < W5.heap.size := (Array.getElem?_eq_some_iff.1 hg5).1
    have HR5 : Hid (∀ W, Below W5.heap.size W5 W → W.cell? ⟨w.heap.size, 0, none⟩ = some (.int .u8 9) ∧ W.cell? ⟨w.heap.size, 1, none⟩ = some (.int .i64 k) ∧ W.cell? ⟨w.heap.size, 2, none⟩ = some (.int .i64 a) ∧ W.cell? ⟨w.heap.size, 3, none⟩ = some (.int .i64 b) ∧ W.cell? ⟨w.heap.size, 4, none⟩ = some (.int .u64 x) ∧ W.cell? ⟨w.heap.size, 5, none⟩ = some (.int .u64 y) ∧ W.cell? ⟨w.heap.size, 6, none⟩ = some (.slice (some ⟨bb, oo, none⟩) pn pc) ∧ W.cell? ⟨bb, oo, none⟩ = some (.slice p1 n1 c1) ∧ W.cell? ⟨W3.heap.size, 0, none⟩ = some (.int .u8 9) ∧ W.cell? ⟨W3.heap.size, 1, none⟩ = some (.int .i64 k) ∧ W.cell? ⟨W3.heap.size, 2, none⟩ = some (.int .i64 (a + mb)) ∧ W.cell? ⟨W3.heap.size, 3, none⟩ = some (.int .i64 (b + mb)) ∧ W.cell? ⟨W3.heap.size, 4, none⟩ = some (.int .u64 x) ∧ W.cell? ⟨W3.heap.size, 5, none⟩ = some (.int .u64 y)) := fun W h => by
      obtain ⟨r0, r1, r2, r3, r4, r5, r6, r7, -⟩ := HR3.out W (HB5.out.trans (h.mono HB5.out.size))
      refine ⟨r0, r1, r2, r3, r4, r5, r6, r7, (h.cell (p := ⟨W3.heap.size, 0, none⟩) hs5).trans ?_, (h.cell (p := ⟨W3.heap.size, 1, none⟩) hs5).trans ?_, (h.cell (p := ⟨W3.heap.size, 2, none⟩) hs5).trans ?_, (h.cell (p := ⟨W3.heap.size, 3, none⟩) hs5).trans ?_, (h.cell (p := ⟨W3.heap.size, 4, none⟩) hs5).trans ?_, (h.cell (p := ⟨W3.heap.size, 5, none⟩) hs5).trans ?_⟩
      all_goals simp [World.cell?, hg5]
    rw [← hW5]
    clear hW5 hg5 hs5 q0 q1 q2 q3 q4 q5 q6 q7 s0' s1' s2' s3' s4' s5' u2 u3 uf
    refine region_outS (by kernel_rfl) (fun Wk => Below W5.heap.size W5 Wk) (fun w1 w2 h1 h2 => h1.trans (h2.mono h1.size)) (by kernel_rfl) (Below.drew (Below.refl _ _)) ?_
    refine ⟨.eq ?_, trivial, rfl, fun aa ww ll hh => ?_, ?_⟩
    rotate_left
    · have e5 := (hh.old 5 (by kernel_rfl)).trans (evalO rfl)
      simp only [nthO] at e5
      obtain ⟨r0, r1, r2, r3, r4, r5, r6, r7, s0, s1, s2, s3, s4, s5⟩ := HR5.out ww hh.inv
      refine out_val (wanted_none rfl) ?_
      clear hh
      generalize aa.eval = ev at e5 ⊢
      go_simp
      try rfl
    refine ⟨.eq ?_, trivial, rfl, fun aa ww ll hh => ?_, ?_⟩
    rotate_left
    · have e1 := (hh.old 1 (by kernel_rfl)).trans (evalO rfl)
      simp only [nthO] at e1
      obtain ⟨r0, r1, r2, r3, r4, r5, r6, r7, s0, s1, s2, s3, s4, s5⟩ := HR5.out ww hh.inv
      refine out_val (wanted_none rfl) ?_
      clear hh
      generalize aa.eval = ev at e1 ⊢
      go_simp
      try rfl
    refine ⟨.rel (fun W v => CO base W v l0), (fun W W' v h hb => h.below hb), rfl, fun aa ww ll hh => ?_, ?_⟩
    · have e50 := hh.get 1 0 (by kernel_rfl) rfl rfl rfl
      have ef : ∀ f, aa.eval (.func f) = .func (.func f) #[] #[] := fun _ => rfl
      have HI := hh.inv
      have hq := HIN.out ww (HE5.out.trans (HI.mono HE5.out.size))
      refine out_call (wanted_none rfl) ?_ (hq.mono fun e w9 ⟨⟨v9, h1, h2⟩, h3⟩ => ⟨v9, h1, h2.mono (Nat.le_trans HBS.out (Nat.le_trans HE5.out.size HI.size)), h3⟩)
      clear hh HI hq
      generalize aa.eval = ev at e50 ef ⊢
      go_simp
      try rfl
    refine ⟨.rel (fun W v => ∃ p c, v = .slice p 1 c ∧ Prt base W (.slice p 1 c) [l0]), (fun W W' v ⟨p, c, h1, h2⟩ hb => ⟨p, c, h1, h2.below hb⟩), rfl, fun aa ww ll hh => ?_, ?_⟩
    · obtain ⟨x51, e51, -, p51⟩ := hh.got 2 0 (by kernel_rfl) rfl rfl rfl
      obtain ⟨pz, cz, rfl⟩ := p51.shape
      have hsz := hh.inv.size
      clear hh
      refine out_new (wanted_none rfl) (w' := ww.alloc (.cells #[.slice pz l0.length cz] 35)) (v := .slice (some ⟨ww.heap.size, 0, none⟩) 1 1) ?_ ((Below.refl _ _).alloc (Nat.le_refl _) _) ⟨_, _, rfl, prt_one (p51.below ((Below.refl _ _).alloc (Nat.le_refl _) _)) (heap_new _ _)⟩
      clear p51
      generalize aa.eval = ev at e51 ⊢
      go_simp
      try rfl
    refine ⟨.rel (fun W v => ∃ p c, v = .agg #[.int .u8 9, .int .i64 k, .int .i64 (a + mb), .int .i64 (b + mb), .int .u64 x, .int .u64 y, .slice p 1 c] ∧ Prt base W (.slice p 1 c) [l0]), (fun W W' v ⟨p, c, h1, h2⟩ hb => ⟨p, c, h1, h2.below hb⟩), rfl, fun aa ww ll hh => ?_, ?_⟩
    · have e49 := hh.get 0 3 (by kernel_rfl) rfl rfl rfl
      obtain ⟨x52, e52, -, p52⟩ := hh.got 3 0 (by kernel_rfl) rfl rfl rfl
      obtain ⟨pz, cz, rfl, hpz⟩ := p52
      refine out_new (wanted_none rfl) (v := .agg #[.int .u8 9, .int .i64 k, .int .i64 (a + mb), .int .i64 (b + mb), .int .u64 x, .int .u64 y, .slice pz 1 cz]) ?_ (Below.refl _ _) ⟨_, _, rfl, hpz⟩
      clear hh hpz
      generalize aa.eval = ev at e49 e52 ⊢
      go_simp
      try rfl
    refine ⟨.rel (fun W v => CO base W v R), (fun W W' v h hb => h.below hb), rfl, fun aa ww ll hh => ?_, ?_⟩
    · obtain ⟨x53, e53, -, p53⟩ := hh.got 4 0 (by kernel_rfl) rfl rfl rfl
      have ef : ∀ f, aa.eval (.func f) = .func (.func f) #[] #[] := fun _ => rfl
      obtain ⟨pz, cz, rfl, hpz⟩ := p53
      have HI := hh.inv
      have hq := HM.out ww pz cz (HE5.out.trans (HI.mono HE5.out.size)) hpz
      refine out_call (wanted_none rfl) ?_ (hq.mono fun e w9 ⟨⟨v9, h1, h2⟩, h3⟩ => ⟨v9, h1, h2, h3⟩)
      clear hh HI hq hpz
      generalize aa.eval = ev at e53 ef ⊢
      go_simp
      try rfl
    refine ⟨.rel (fun W v => CO base W v R), (fun W W' v h hb => h.below hb), rfl, fun aa ww ll hh => ?_, ?_⟩
    · obtain ⟨x54, e54, -, p54⟩ := hh.got 5 0 (by kernel_rfl) rfl rfl rfl
      refine out_new (v := x54) (wanted_none rfl) ?_ (Below.refl _ _) p54
      rw [ex_moveO (by first | exact .inl rfl | exact .inr rfl) e54]
    refine ⟨.eq (.bool true), trivial, rfl, fun aa ww ll hh => ?_, ?_⟩
    · have ec : ∀ v, aa.eval (.const v) = v := fun _ => rfl
      refine out_val (wanted_none rfl) ?_
      rw [ex_moveO (by first | exact .inl rfl | exact .inr rfl) rfl]
      rfl
    intro ll w6 hS6 hok
    have p6 := hok 6 _ rfl
    clear hok
    simp only [List.reverse_cons, List.reverse_nil, List.nil_append, List.cons_append, layO, Out.val, Act.put, List.setIfInBounds_toArray, List.set_cons_zero, List.set_cons_succ]
    have HB6 : Hid (Below w.heap.size w w6) := HE5.out.trans (hS6.mono HE5.out.size)
    obtain ⟨vz, hvz⟩ : ∃ vz, vz = ll 6 := ⟨_, rfl⟩
    rw [← hvz] at p6 ⊢
    clear hvz hS6
    obtain ⟨pz, cz, rfl⟩ := p6.shape
    have HP6 := Lib.hid p6
    clear p6
    go_wp2_with fail
    refine bodyPost_ret (results_tmp2 rfl _ _ _) rfl ?_
    rw [HO.out]
    exact ⟨⟨pz, _, cz, rfl, fun l h => by cases h; exact HP6.out⟩, HB6.out⟩

end Go.Proofs.Ytehcclcokgmplaa
