/-
  Lemmas, joined: FolN, FolR, FolS.
-/
import Derived.Test.YtehcclcokgmplaaJA23
import Derived.Laws.EntriesVeiled
/-
  Layer 35's code, walked: made of two parts, by what its rules answer.
-/
namespace Go.Proofs.Ytehcclcokgmplaa
open Go.RowKit Go.Maps

set_option maxRecDepth 100000 in
set_option maxHeartbeats 6400000 in
theorem made2_gen (base : Nat) (n : Nod) (ls : List (List Nod)) (o1 o2 o3 o4 o5 o6 : Option (List Nod)) (pp : Option Addr) (pc : Nat) (w : World) (hp : Prt base w (.slice pp 2 pc) ls) (hl : ls.flatten.length ≤ 5000) (hv : n.v < B * B) (hbase : base ≤ w.heap.size)
    (h1 : ∀ W, Below w.heap.size w W → Calls Try.prog 21 #[fndV n (.slice pp 2 pc)] W (RetC base W o1))
    (h2 : ∀ W, Below w.heap.size w W → Calls Try.prog 22 #[fndV n (.slice pp 2 pc)] W (RetC base W o2))
    (h3 : ∀ W, Below w.heap.size w W → Calls Try.prog 23 #[fndV n (.slice pp 2 pc)] W (RetC base W o3))
    (h4 : ∀ W, Below w.heap.size w W → Calls Try.prog 24 #[fndV n (.slice pp 2 pc)] W (RetC base W o4))
    (h5 : ∀ W, Below w.heap.size w W → Calls Try.prog 25 #[fndV n (.slice pp 2 pc)] W (RetC base W o5))
    (h6 : ∀ W, Below w.heap.size w W → Calls Try.prog 26 #[fndV n (.slice pp 2 pc)] W (RetC base W o6)) :
    Calls Try.prog 18 #[fndV n (.slice pp 2 pc)] w fun e w' => (∃ v, e = .returned v ∧ CO base w' v (firstO [o1, o2, o3, o4, o5, o6] (ls.flatten ++ [n]))) ∧ Below w.heap.size w w' := by
  have HPL : Hid (∀ W, Below w.heap.size w W → Calls Try.prog 27 #[fndV n (.slice pp 2 pc)] W fun e w' => (∃ v, e = .returned v ∧ CO W.heap.size w' v (ls.flatten ++ [n])) ∧ Below W.heap.size W w') := fun W h => plain_any base n ls pp 2 pc W (hp.below h) hl (by omega) hv
  have H1 := Lib.hid h1
  have H2 := Lib.hid h2
  have H3 := Lib.hid h3
  have H4 := Lib.hid h4
  have H5 := Lib.hid h5
  have H6 := Lib.hid h6
  have HBS := Lib.hid hbase
  clear hp hl hv hbase h1 h2 h3 h4 h5 h6
  generalize ls.flatten ++ [n] = d at *
  obtain ⟨RES, hRS⟩ : ∃ RES, RES = firstO [o1, o2, o3, o4, o5, o6] d := ⟨_, rfl⟩
  rw [← hRS]
  have HRS := Lib.hid hRS
  clear hRS
  obtain ⟨op, k, a, b, v⟩ := n
  unfold fndV at HPL H1 H2 H3 H4 H5 H6 ⊢
  dsimp only at HPL H1 H2 H3 H4 H5 H6 ⊢
  generalize ((v / B : Nat) : Int) = x at *
  generalize ((v % B : Nat) : Int) = y at *
  have ix0 : ∀ w, (Instr.index 82 (.agg #[.func (.func 21) #[] #[], .func (.func 22) #[] #[], .func (.func 23) #[] #[], .func (.func 24) #[] #[]]) (.int .i64 0)).run Try.prog w = .ok (.func (.func 21) #[] #[]) w := fun _ => by kernel_rfl
  have ix1 : ∀ w, (Instr.index 82 (.agg #[.func (.func 21) #[] #[], .func (.func 22) #[] #[], .func (.func 23) #[] #[], .func (.func 24) #[] #[]]) (.int .i64 1)).run Try.prog w = .ok (.func (.func 22) #[] #[]) w := fun _ => by kernel_rfl
  have ix2 : ∀ w, (Instr.index 82 (.agg #[.func (.func 21) #[] #[], .func (.func 22) #[] #[], .func (.func 23) #[] #[], .func (.func 24) #[] #[]]) (.int .i64 2)).run Try.prog w = .ok (.func (.func 23) #[] #[]) w := fun _ => by kernel_rfl
  have ix3 : ∀ w, (Instr.index 82 (.agg #[.func (.func 21) #[] #[], .func (.func 22) #[] #[], .func (.func 23) #[] #[], .func (.func 24) #[] #[]]) (.int .i64 3)).run Try.prog w = .ok (.func (.func 24) #[] #[]) w := fun _ => by kernel_rfl
  have iy0 : ∀ w, (Instr.index 84 (.agg #[.func (.func 25) #[] #[], .func (.func 26) #[] #[]]) (.int .i64 0)).run Try.prog w = .ok (.func (.func 25) #[] #[]) w := fun _ => by kernel_rfl
  have iy1 : ∀ w, (Instr.index 84 (.agg #[.func (.func 25) #[] #[], .func (.func 26) #[] #[]]) (.int .i64 1)).run Try.prog w = .ok (.func (.func 26) #[] #[]) w := fun _ => by kernel_rfl
  go_enter Try.func18, Try.ntmps18
  go_upto_region 1 with fail
  obtain ⟨W1, hW1⟩ : ∃ W1, W1 = w.alloc (.cells #[.int .u8 op, .int .i64 k, .int .i64 a, .int .i64 b, .int .u64 x, .int .u64 y, .slice pp 2 pc] 77) := ⟨_, rfl⟩
  have HQ1 : Hid (Below w.heap.size w W1) := by show Below _ _ _; rw [hW1]; exact (by repeat (first | exact Below.refl _ _ | assumption | refine Below.drew ?_ | refine Below.alloc ?_ (by first | omega | (simp <;> omega)) _ | refine Below.setCell ?_ (by first | omega | (simp <;> omega)) _ | refine Below.trans ?_ (Below.mono (by assumption) (by first | omega | (simp <;> omega)))))
  have HF1 : Hid (∀ W, Below W1.heap.size W1 W → W.cell? ⟨w.heap.size, 0, none⟩ = some (.int .u8 op) ∧ W.cell? ⟨w.heap.size, 1, none⟩ = some (.int .i64 k) ∧ W.cell? ⟨w.heap.size, 2, none⟩ = some (.int .i64 a) ∧ W.cell? ⟨w.heap.size, 3, none⟩ = some (.int .i64 b) ∧ W.cell? ⟨w.heap.size, 4, none⟩ = some (.int .u64 x) ∧ W.cell? ⟨w.heap.size, 5, none⟩ = some (.int .u64 y) ∧ W.cell? ⟨w.heap.size, 6, none⟩ = some (.slice pp 2 pc)) := fun W h => by
    have hs : w.heap.size < W1.heap.size := by rw [hW1]; simp
    refine ⟨(h.cell (p := ⟨w.heap.size, 0, none⟩) hs).trans ?_, (h.cell (p := ⟨w.heap.size, 1, none⟩) hs).trans ?_, (h.cell (p := ⟨w.heap.size, 2, none⟩) hs).trans ?_, (h.cell (p := ⟨w.heap.size, 3, none⟩) hs).trans ?_, (h.cell (p := ⟨w.heap.size, 4, none⟩) hs).trans ?_, (h.cell (p := ⟨w.heap.size, 5, none⟩) hs).trans ?_, (h.cell (p := ⟨w.heap.size, 6, none⟩) hs).trans ?_⟩
    all_goals (rw [hW1]; go_simp)
  rw [← hW1]
  clear hW1
  obtain ⟨r0, r1, r2, r3, r4, r5, r6⟩ := HF1.out W1 (Below.refl _ _)
  go_upto_region 4 with fail
  obtain ⟨W2, hW2⟩ : ∃ W2, W2 = W1.alloc (.cells #[.func (.func 21) #[] #[], .func (.func 22) #[] #[], .func (.func 23) #[] #[], .func (.func 24) #[] #[]] 82) := ⟨_, rfl⟩
  have HB12 : Hid (Below W1.heap.size W1 W2) := by show Below _ _ _; rw [hW2]; exact (Below.refl _ _).alloc (Nat.le_refl _) _
  have HQ2 : Hid (Below w.heap.size w W2) := HQ1.out.trans (HB12.out.mono HQ1.out.size)
  have b0 : W2.cell? ⟨W1.heap.size, 0, none⟩ = some (.func (.func 21) #[] #[]) := by rw [hW2]; go_simp
  have b1 : W2.cell? ⟨W1.heap.size, 1, none⟩ = some (.func (.func 22) #[] #[]) := by rw [hW2]; go_simp
  have b2 : W2.cell? ⟨W1.heap.size, 2, none⟩ = some (.func (.func 23) #[] #[]) := by rw [hW2]; go_simp
  have b3 : W2.cell? ⟨W1.heap.size, 3, none⟩ = some (.func (.func 24) #[] #[]) := by rw [hW2]; go_simp
  rw [← hW2]
  clear hW2 r0 r1 r2 r3 r4 r5 r6
  go_wp2_with fail
  go_loopw [2, 5, 6, 7, 21] (fun u2 u5 u6 u7 i wr => ∃ q : Nat, q ≤ 4 ∧ i = .int .i64 q ∧ Hid (1 ≤ q → o1 = none) ∧ Hid (2 ≤ q → o2 = none) ∧ Hid (3 ≤ q → o3 = none) ∧ Hid (4 ≤ q → o4 = none) ∧ Hid (Below W2.heap.size W2 wr)) (fun _ _ _ _ i _ => 4 - (intOf i).toNat)
  case atStart => exact ⟨0, Nat.zero_le _, rfl, (fun h => absurd h (by omega)), (fun h => absurd h (by omega)), (fun h => absurd h (by omega)), (fun h => absurd h (by omega)), Below.refl _ _⟩
  case round =>
    clear b0 b1 b2 b3
    obtain ⟨q, hq, rfl, HZ1, HZ2, HZ3, HZ4, HBr⟩ := hrel
    have HEr : Hid (Below w.heap.size w wr) := HQ2.out.trans (HBr.out.mono HQ2.out.size)
    obtain ⟨r0, r1, r2, r3, r4, r5, r6⟩ := HF1.out wr (HB12.out.trans (HBr.out.mono HB12.out.size))
    have hqs : q = 0 ∨ q = 1 ∨ q = 2 ∨ q = 3 ∨ q = 4 := by omega
    rcases hqs with rfl | rfl | rfl | rfl | rfl
    · cases o1 with
      | none =>
        go_wp2_with (go_at_call 21; refine (H1.out _ HEr.out).mono ?_; rintro e w2 h2; obtain ⟨⟨p3, n3, c3, rfl⟩, g2⟩ := h2.none; have HB2 : Hid (Below W2.heap.size W2 w2) := HBr.out.trans (g2.mono HBr.out.size); clear g2 h2 r0 r1 r2 r3 r4 r5 r6)
        go_roundw
        case rel => exact ⟨1, by omega, by go_num, (fun _ => by first | rfl | trivial), (fun h => absurd h (by omega)), (fun h => absurd h (by omega)), (fun h => absurd h (by omega)), HB2.out⟩
        case measure => simp [intOf]
      | some l =>
        replace HRS : Hid (RES = l) := by show RES = _; rw [HRS.out]; rfl
        go_wp2_with (go_at_call 21; refine (H1.out _ HEr.out).mono ?_; rintro e w2 h2; obtain ⟨⟨p3, n3, c3, rfl, g1⟩, g2⟩ := h2.some; have HC2 := Lib.hid g1; have HE2 : Hid (Below w.heap.size w w2) := HEr.out.trans (g2.mono HEr.out.size); clear g1 g2 h2 r0 r1 r2 r3 r4 r5 r6)
        go_ret
        exact ⟨⟨_, rfl, by rw [HRS.out]; exact HC2.out⟩, HE2.out⟩
    · obtain rfl : o1 = none := HZ1.out (by omega)
      cases o2 with
      | none =>
        go_wp2_with (go_at_call 22; refine (H2.out _ HEr.out).mono ?_; rintro e w2 h2; obtain ⟨⟨p3, n3, c3, rfl⟩, g2⟩ := h2.none; have HB2 : Hid (Below W2.heap.size W2 w2) := HBr.out.trans (g2.mono HBr.out.size); clear g2 h2 r0 r1 r2 r3 r4 r5 r6)
        go_roundw
        case rel => exact ⟨2, by omega, by go_num, (fun _ => by first | rfl | trivial), (fun _ => by first | rfl | trivial), (fun h => absurd h (by omega)), (fun h => absurd h (by omega)), HB2.out⟩
        case measure => simp [intOf]
      | some l =>
        replace HRS : Hid (RES = l) := by show RES = _; rw [HRS.out]; rfl
        go_wp2_with (go_at_call 22; refine (H2.out _ HEr.out).mono ?_; rintro e w2 h2; obtain ⟨⟨p3, n3, c3, rfl, g1⟩, g2⟩ := h2.some; have HC2 := Lib.hid g1; have HE2 : Hid (Below w.heap.size w w2) := HEr.out.trans (g2.mono HEr.out.size); clear g1 g2 h2 r0 r1 r2 r3 r4 r5 r6)
        go_ret
        exact ⟨⟨_, rfl, by rw [HRS.out]; exact HC2.out⟩, HE2.out⟩
    · obtain rfl : o1 = none := HZ1.out (by omega)
      obtain rfl : o2 = none := HZ2.out (by omega)
      cases o3 with
      | none =>
        go_wp2_with (go_at_call 23; refine (H3.out _ HEr.out).mono ?_; rintro e w2 h2; obtain ⟨⟨p3, n3, c3, rfl⟩, g2⟩ := h2.none; have HB2 : Hid (Below W2.heap.size W2 w2) := HBr.out.trans (g2.mono HBr.out.size); clear g2 h2 r0 r1 r2 r3 r4 r5 r6)
        go_roundw
        case rel => exact ⟨3, by omega, by go_num, (fun _ => by first | rfl | trivial), (fun _ => by first | rfl | trivial), (fun _ => by first | rfl | trivial), (fun h => absurd h (by omega)), HB2.out⟩
        case measure => simp [intOf]
      | some l =>
        replace HRS : Hid (RES = l) := by show RES = _; rw [HRS.out]; rfl
        go_wp2_with (go_at_call 23; refine (H3.out _ HEr.out).mono ?_; rintro e w2 h2; obtain ⟨⟨p3, n3, c3, rfl, g1⟩, g2⟩ := h2.some; have HC2 := Lib.hid g1; have HE2 : Hid (Below w.heap.size w w2) := HEr.out.trans (g2.mono HEr.out.size); clear g1 g2 h2 r0 r1 r2 r3 r4 r5 r6)
        go_ret
        exact ⟨⟨_, rfl, by rw [HRS.out]; exact HC2.out⟩, HE2.out⟩
    · obtain rfl : o1 = none := HZ1.out (by omega)
      obtain rfl : o2 = none := HZ2.out (by omega)
      obtain rfl : o3 = none := HZ3.out (by omega)
      cases o4 with
      | none =>
        go_wp2_with (go_at_call 24; refine (H4.out _ HEr.out).mono ?_; rintro e w2 h2; obtain ⟨⟨p3, n3, c3, rfl⟩, g2⟩ := h2.none; have HB2 : Hid (Below W2.heap.size W2 w2) := HBr.out.trans (g2.mono HBr.out.size); clear g2 h2 r0 r1 r2 r3 r4 r5 r6)
        go_roundw
        case rel => exact ⟨4, by omega, by go_num, (fun _ => by first | rfl | trivial), (fun _ => by first | rfl | trivial), (fun _ => by first | rfl | trivial), (fun _ => by first | rfl | trivial), HB2.out⟩
        case measure => simp [intOf]
      | some l =>
        replace HRS : Hid (RES = l) := by show RES = _; rw [HRS.out]; rfl
        go_wp2_with (go_at_call 24; refine (H4.out _ HEr.out).mono ?_; rintro e w2 h2; obtain ⟨⟨p3, n3, c3, rfl, g1⟩, g2⟩ := h2.some; have HC2 := Lib.hid g1; have HE2 : Hid (Below w.heap.size w w2) := HEr.out.trans (g2.mono HEr.out.size); clear g1 g2 h2 r0 r1 r2 r3 r4 r5 r6)
        go_ret
        exact ⟨⟨_, rfl, by rw [HRS.out]; exact HC2.out⟩, HE2.out⟩
    · obtain rfl : o1 = none := HZ1.out (by omega)
      obtain rfl : o2 = none := HZ2.out (by omega)
      obtain rfl : o3 = none := HZ3.out (by omega)
      obtain rfl : o4 = none := HZ4.out (by omega)
      clear HZ1 HZ2 HZ3 HZ4
      go_wp2_with fail
      try rw [show ((4 : Nat) : Int) = 4 from rfl]
      have HBq := HBr
      clear HBr
      go_loopw [2, 9, 10, 11, 38] (fun u2 u9 u10 u11 i wq => ∃ q : Nat, q ≤ 2 ∧ i = .int .i64 q ∧ Hid (1 ≤ q → o5 = none) ∧ Hid (2 ≤ q → o6 = none) ∧ Hid (Below W2.heap.size W2 wq)) (fun _ _ _ _ i _ => 2 - (intOf i).toNat)
      case atStart => exact ⟨0, Nat.zero_le _, rfl, (fun h => absurd h (by omega)), (fun h => absurd h (by omega)), HBq.out⟩
      case round =>
        clear r0 r1 r2 r3 r4 r5 r6 HEr HBq
        obtain ⟨q, hq, rfl, HZ5, HZ6, HBr⟩ := hrel
        have HEr : Hid (Below w.heap.size w wr) := HQ2.out.trans (HBr.out.mono HQ2.out.size)
        obtain ⟨r0, r1, r2, r3, r4, r5, r6⟩ := HF1.out wr (HB12.out.trans (HBr.out.mono HB12.out.size))
        have hqs : q = 0 ∨ q = 1 ∨ q = 2 := by omega
        rcases hqs with rfl | rfl | rfl
        · cases o5 with
          | none =>
            go_wp2_with (go_at_call 25; refine (H5.out _ HEr.out).mono ?_; rintro e w2 h2; obtain ⟨⟨p3, n3, c3, rfl⟩, g2⟩ := h2.none; have HB2 : Hid (Below W2.heap.size W2 w2) := HBr.out.trans (g2.mono HBr.out.size); clear g2 h2 r0 r1 r2 r3 r4 r5 r6)
            go_roundw
            case rel => exact ⟨1, by omega, by go_num, (fun _ => by first | rfl | trivial), (fun h => absurd h (by omega)), HB2.out⟩
            case measure => simp [intOf]
          | some l =>
            replace HRS : Hid (RES = l) := by show RES = _; rw [HRS.out]; rfl
            go_wp2_with (go_at_call 25; refine (H5.out _ HEr.out).mono ?_; rintro e w2 h2; obtain ⟨⟨p3, n3, c3, rfl, g1⟩, g2⟩ := h2.some; have HC2 := Lib.hid g1; have HE2 : Hid (Below w.heap.size w w2) := HEr.out.trans (g2.mono HEr.out.size); clear g1 g2 h2 r0 r1 r2 r3 r4 r5 r6)
            go_ret
            exact ⟨⟨_, rfl, by rw [HRS.out]; exact HC2.out⟩, HE2.out⟩
        · obtain rfl : o5 = none := HZ5.out (by omega)
          cases o6 with
          | none =>
            go_wp2_with (go_at_call 26; refine (H6.out _ HEr.out).mono ?_; rintro e w2 h2; obtain ⟨⟨p3, n3, c3, rfl⟩, g2⟩ := h2.none; have HB2 : Hid (Below W2.heap.size W2 w2) := HBr.out.trans (g2.mono HBr.out.size); clear g2 h2 r0 r1 r2 r3 r4 r5 r6)
            go_roundw
            case rel => exact ⟨2, by omega, by go_num, (fun _ => by first | rfl | trivial), (fun _ => by first | rfl | trivial), HB2.out⟩
            case measure => simp [intOf]
          | some l =>
            replace HRS : Hid (RES = l) := by show RES = _; rw [HRS.out]; rfl
            go_wp2_with (go_at_call 26; refine (H6.out _ HEr.out).mono ?_; rintro e w2 h2; obtain ⟨⟨p3, n3, c3, rfl, g1⟩, g2⟩ := h2.some; have HC2 := Lib.hid g1; have HE2 : Hid (Below w.heap.size w w2) := HEr.out.trans (g2.mono HEr.out.size); clear g1 g2 h2 r0 r1 r2 r3 r4 r5 r6)
            go_ret
            exact ⟨⟨_, rfl, by rw [HRS.out]; exact HC2.out⟩, HE2.out⟩
        · obtain rfl : o5 = none := HZ5.out (by omega)
          obtain rfl : o6 = none := HZ6.out (by omega)
          replace HRS : Hid (RES = d) := by show RES = _; rw [HRS.out]; rfl
          go_wp2_with (go_at_call 27; refine (HPL.out _ HEr.out).mono ?_; rintro e w2 ⟨⟨z, rfl, g1⟩, g2⟩; have HC2 := Lib.hid g1; have HE2 : Hid (Below w.heap.size w w2) := HEr.out.trans (g2.mono HEr.out.size); clear g1 g2)
          go_ret
          exact ⟨⟨_, rfl, by rw [HRS.out]; exact HC2.out.mono (Nat.le_trans HBS.out HEr.out.size)⟩, HE2.out⟩

end Go.Proofs.Ytehcclcokgmplaa

/-
  Layer 35's code, walked: made of two parts is madeB.
-/
namespace Go.Proofs.Ytehcclcokgmplaa
open Go.RowKit Go.Maps

theorem isB_tree {p : Prg} {act w : Int} {t : Tr} (h : WTr p act t w) (v : Nat) : isB t.flat v = t.isV v := by
  unfold isB Tr.isV
  rw [cV_tree h]
  cases t.isC <;> simp
theorem madeB_key {p : Prg} {act wa wb : Int} {a b : Tr} {n : Nod} (ha : WTr p act a wa) (hb : WTr p act b wb) (hu : ¬ isUn n.op) :
    firstO [if allC [a.flat, b.flat] = true then some [cst n (kN n [a.flat, b.flat].flatten)] else none, if (n.op = 7 ∨ n.op = 8) ∧ a.root.op = n.op then some a.ini else none, if n.op = 9 then (if n.a = a.root.w - 1 ∧ n.b = 0 then some (a.ini ++ [a.root]) else if a.root.op = 9 then some ([] : List Nod) else none) else none, if shf n then some a.flat else none, if (either n ∨ n.op = 12) ∧ isB b.flat 0 = true then some a.flat else if either n ∧ isB a.flat 0 = true then some b.flat else none, if n.op = 15 ∨ n.op = 16 then (if isB b.flat (onesN n) = true then some (if n.op = 15 then a.flat else (madeU a (notN n)).flat) else if isB a.flat (onesN n) = true then some (if n.op = 15 then b.flat else (madeU b (notN n)).flat) else none) else none] ([a.flat, b.flat].flatten ++ [n]) = (madeB n a b).flat := by
  have e1 : ¬ ((n.op = 7 ∨ n.op = 8) ∧ a.root.op = n.op) := by unfold isUn at hu; omega
  have e2 : ¬ n.op = 9 := by unfold isUn at hu; omega
  have e3 : ¬ shf n := by unfold shf; unfold isUn at hu; omega
  rw [allC_two ha hb, flat_two, isB_tree ha, isB_tree hb, isB_tree ha, isB_tree hb, if_neg e1, if_neg e2, if_neg e3]
  unfold madeB
  by_cases c1 : a.isC = true ∧ b.isC = true
  · rw [if_pos c1, if_pos (by rw [c1.1, c1.2]; rfl)]; rfl
  · rw [if_neg c1, if_neg (by rw [Bool.and_eq_true]; exact c1)]
    by_cases c2 : (either n ∨ n.op = 12) ∧ b.isV 0 = true
    · rw [if_pos c2, if_pos c2]; rfl
    · rw [if_neg c2, if_neg c2]
      by_cases c3 : either n ∧ a.isV 0 = true
      · rw [if_pos c3, if_pos c3]; rfl
      · rw [if_neg c3, if_neg c3]
        by_cases c4 : n.op = 15 ∨ n.op = 16
        · rw [if_pos c4]
          by_cases c5 : b.isV (onesN n) = true
          · rw [if_pos c5, if_pos (show (n.op = 15 ∨ n.op = 16) ∧ b.isV (onesN n) = true from ⟨c4, c5⟩)]
            by_cases c6 : n.op = 15
            · rw [if_pos c6, if_pos c6]; rfl
            · rw [if_neg c6, if_neg c6]; rfl
          · rw [if_neg c5, if_neg (show ¬ ((n.op = 15 ∨ n.op = 16) ∧ b.isV (onesN n) = true) from fun h => c5 h.2)]
            by_cases c7 : a.isV (onesN n) = true
            · rw [if_pos c7, if_pos (show (n.op = 15 ∨ n.op = 16) ∧ a.isV (onesN n) = true from ⟨c4, c7⟩)]
              by_cases c6 : n.op = 15
              · rw [if_pos c6, if_pos c6]; rfl
              · rw [if_neg c6, if_neg c6]; rfl
            · rw [if_neg c7, if_neg (show ¬ ((n.op = 15 ∨ n.op = 16) ∧ a.isV (onesN n) = true) from fun h => c7 h.2)]; rfl
        · rw [if_neg c4, if_neg (show ¬ ((n.op = 15 ∨ n.op = 16) ∧ b.isV (onesN n) = true) from fun h => c4 h.1), if_neg (show ¬ ((n.op = 15 ∨ n.op = 16) ∧ a.isV (onesN n) = true) from fun h => c4 h.1)]; rfl
theorem madeB_any {p : Prg} {act : Int} (base : Nat) (a b : Tr) (n : Nod) (wa wb : Int) (pp : Option Addr) (pc : Nat) (w : World) (ha : WTr p act a wa) (hb : WTr p act b wb) (h1 : ¬ (1 ≤ n.op ∧ n.op ≤ 6)) (hu : ¬ isUn n.op) (hv : n.v = 0) (hs : pair0P n wa wb = n.w) (hok : okP n.w = true) (hla : a.flat.length + b.flat.length ≤ 3000) (hbs : base ≤ w.heap.size) (hp : Prt base w (.slice pp 2 pc) [a.flat, b.flat]) :
    Calls Try.prog 18 #[fndV n (.slice pp 2 pc)] w fun e w' => (∃ v, e = .returned v ∧ CO base w' v (madeB n a b).flat) ∧ Below w.heap.size w w' := by
  have hfl : [a.flat, b.flat].flatten.length ≤ 5000 := by rw [flat_two, List.length_append]; omega
  have hvB : n.v < B * B := by rw [hv]; exact bb_pos
  have hr := ha.root
  have hri : okP wa = true := hr.2
  rw [okP_iff] at hri
  have hini : [a.flat, b.flat][0]? = some (a.ini ++ [a.root]) := by rw [← flat_ini]; rfl
  have hil : a.ini.length ≤ 6000 := by have := congrArg List.length (flat_ini a); rw [List.length_append] at this; omega
  have h9 : ¬ n.op = 9 := by unfold isUn at hu; omega
  obtain ⟨q1, q2, q3, q4⟩ := not_ok hok
  have h := made2_gen base n [a.flat, b.flat] _ _ _ _ _ _ pp pc w hp hfl hvB hbs
    (fun W h => known_any base n [a.flat, b.flat] n.w pp 2 pc W (hp.below h) hfl (by omega) hvB (Nat.le_trans hbs h.size)
      (fun hc => by
        rw [allC_two ha hb, Bool.and_eq_true] at hc
        rw [flat_two]
        exact width_tree (kN_bin ha hb hc.1 hc.2 h1 hu hv hs hok).1 (by show (a.flat ++ b.flat ++ [n]).length ≤ _; rw [List.length_append, List.length_append, List.length_singleton]; omega))
      (fun hc => by
        rw [allC_two ha hb, Bool.and_eq_true] at hc
        rw [flat_two]
        exact sh_ltBB (kN_bin ha hb hc.1 hc.2 h1 hu hv hs hok).2))
    (fun W h => twice_any base n [a.flat, b.flat] a.ini a.root pp 2 pc W (hp.below h) hini hil (Nat.le_trans hbs h.size))
    (fun W h => slice_any base n [a.flat, b.flat] a.ini [] a.root pp 2 pc W (hp.below h) hini hil (Nat.le_trans hbs h.size) (by rw [hr.1]; unfold wrap64; omega)
      (fun h92 _ _ => absurd h92 h9) (fun h92 _ _ => absurd h92 h9))
    (fun W h => shift_any base n [a.flat, b.flat] a.flat pp 2 pc W (hp.below h) rfl)
    (fun W h => nought_any base n a.flat b.flat pp 2 pc W (hp.below h))
    (fun W h => ones_any base n a.flat b.flat (madeU a (notN n)).flat (madeU b (notN n)).flat pp 2 pc W (hp.below h)
      (fun h16 W2 q c hb2 hp2 => by
        obtain ⟨e, -⟩ := pair_same (by omega) hs hok
        exact madeU_any base a (notN n) wa q c W2 ha q1 q2 (by rw [e]; exact q3) q4 (by omega) (Nat.le_trans hbs (Nat.le_trans h.size hb2.size)) hp2)
      (fun h16 W2 q c hb2 hp2 => by
        obtain ⟨-, e⟩ := pair_same (by omega) hs hok
        exact madeU_any base b (notN n) wb q c W2 hb q1 q2 (by rw [e]; exact q3) q4 (by omega) (Nat.le_trans hbs (Nat.le_trans h.size hb2.size)) hp2))
  rw [madeB_key ha hb hu] at h
  exact h

end Go.Proofs.Ytehcclcokgmplaa

/-
  Layer 35's code, walked: one node more on the stack of folded codes.
-/
namespace Go.Proofs.Ytehcclcokgmplaa
open Go.RowKit Go.Maps

/-- Trees put together again, node by node. -/
def asm : List Tr → List Nod → List Tr
  | ts, [] => ts
  | ts, n :: r => asm (if asksP n.op = 0 then .leaf n :: ts else if asksP n.op = 1 then (match ts with | t :: q => .un n t :: q | [] => []) else (match ts with | b :: a :: q => .bin n a b :: q | _ => [])) r
theorem asm_app : ∀ (c d : List Nod) (ts : List Tr), asm ts (c ++ d) = asm (asm ts c) d
  | [], _d, _ts => rfl
  | _n :: c, d, _ts => asm_app c d _
theorem asm_tree {p : Prg} {act w : Int} {t : Tr} (h : WTr p act t w) : ∀ ts, asm ts t.flat = t :: ts := by
  induction h with
  | leaf n h1 h2 h3 h4 =>
    intro ts
    simp [Tr.flat, asm, asks_leaf h2]
  | un n t w h1 h2 h3 h4 h5 ih =>
    intro ts
    simp [Tr.flat, asm_app, ih, asm, asks_un h1]
  | bin n a b wa wb h1 h2 h3 h4 h5 h6 h7 ih1 ih2 =>
    intro ts
    simp [Tr.flat, asm_app, ih1, ih2, asm, asks_bin (bin_op h6 h7) h2]
theorem flat_inj {p : Prg} {act w w2 : Int} {t t2 : Tr} (h : WTr p act t w) (h2 : WTr p act t2 w2) (e : t.flat = t2.flat) : t = t2 := by
  have e1 := asm_tree h []
  rw [e, asm_tree h2 []] at e1
  simpa using e1.symm

/-- The first k nodes, as typed trees. -/
structure FI (p : Prg) (act : Int) (c : List Nod) (k : Nat) (st : List Int) (ts : List Tr) : Prop where
  fw : foldW p act [] (c.take k) = some st
  len : ts.length = st.length
  ty : ∀ (j : Nat) (t : Tr) (w : Int), ts[j]? = some t → st[j]? = some w → WTr p act t w
  fl : c.take k = (ts.reverse.map Tr.flat).flatten
/-- The stack's codes. -/
def lsF (ts : List Tr) : List (List Nod) := ts.reverse.map fun t => (foldT t).flat
theorem lsF_cons (t : Tr) (ts : List Tr) : lsF (t :: ts) = lsF ts ++ [(foldT t).flat] := by simp [lsF]
theorem lsF_len (ts : List Tr) : (lsF ts).length = ts.length := by simp [lsF]
theorem rev_flat (t : Tr) (ts : List Tr) : ((t :: ts).reverse.map Tr.flat).flatten = (ts.reverse.map Tr.flat).flatten ++ t.flat := by simp
theorem FI.start (p : Prg) (act : Int) (c : List Nod) : FI p act c 0 [] [] := ⟨rfl, rfl, fun j t w h => by simp at h, rfl⟩
theorem fold_step {p : Prg} {act wt : Int} {c : List Nod} {k : Nat} {st : List Int} {ts : List Tr} {n : Nod} (h : FI p act c k st ts) (hn : c[k]? = some n) (hw : widthP p act c = some wt) (hl : c.length ≤ 500) (hv : n.v < B * B) :
    ∃ (M : Nat) (t' : Tr) (r : List Tr) (parts : List (List Nod)), asksP n.op = M ∧ M ≤ 2 ∧ r.length + M = ts.length ∧ (∃ st2, FI p act c (k + 1) st2 (t' :: r)) ∧ lsF ts = lsF r ++ parts ∧ parts.length = M ∧
      ∀ (base : Nat) (W : World) (pp : Option Addr) (pc : Nat), base ≤ W.heap.size → Prt base W (.slice pp M pc) parts → Calls Try.prog 18 #[fndV n (.slice pp M pc)] W fun e w' => (∃ v, e = .returned v ∧ CO base w' v (foldT t').flat) ∧ Below W.heap.size W w' := by
  obtain ⟨h1, h2, h3, h4⟩ := h
  have hk1 : c.take (k + 1) = c.take k ++ [n] := by rw [List.take_add_one, hn]; rfl
  have hfs := foldW_snoc (p := p) (act := act) hn
  rw [h1, Option.bind_some] at hfs
  obtain ⟨st2, hs2⟩ : ∃ st2, stepW p act st n = some st2 := by
    cases hq : stepW p act st n with
    | some s => exact ⟨s, rfl⟩
    | none => rw [hq] at hfs; rw [foldW_none hfs] at hw; cases hw
  rw [hs2] at hfs
  have hkl : (c.take k).length ≤ 500 := by rw [List.length_take]; omega
  rcases tree_step hs2 h2 h3 with ⟨a1, a2, a3, a4, rfl⟩ | ⟨t, r, w, r', a1, rfl, rfl, rfl, a2, a3, a4, a5⟩ | ⟨b, a, r, wb, wa, r', a1, a2, rfl, rfl, rfl, a3, a4, a5, a6, a7⟩
  · refine ⟨0, .leaf n, ts, [], asks_leaf a2, by omega, rfl, ⟨_, hfs, by simp [h2], fun j t w h5 h6 => ?_, ?_⟩, by simp, rfl, fun base W pp pc hb hp => ?_⟩
    · match j, h5, h6 with
      | 0, h5, h6 => cases h5; cases h6; exact .leaf n a1 a2 a3 a4
      | j + 1, h5, h6 => exact h3 j t w h5 h6
    · rw [hk1, rev_flat, ← h4]; rfl
    · exact (made0_any n pp pc W hv).mono fun e w' ⟨⟨v, q1, q2⟩, q3⟩ => ⟨⟨v, q1, q2.mono hb⟩, q3⟩
  · refine ⟨1, .un n t, r, [(foldT t).flat], asks_un a1, by omega, by simp, ⟨_, hfs, by simpa using h2, fun j t2 w2 h5 h6 => ?_, ?_⟩, lsF_cons t r, rfl, fun base W pp pc hb hp => ?_⟩
    · match j, h5, h6 with
      | 0, h5, h6 => cases h5; cases h6; exact .un n t w a1 a2 a5 a3 a4
      | j + 1, h5, h6 => exact h3 (j + 1) t2 w2 h5 h6
    · rw [hk1, rev_flat, h4, rev_flat, Tr.flat, List.append_assoc]
    · have hfl := foldT_len t
      have hcl : t.flat.length ≤ 500 := by rw [h4, rev_flat, List.length_append] at hkl; omega
      exact madeU_any base (foldT t) n w pp pc W (foldT_w a2) a1 a5 a3 a4 (by omega) hb hp
  · refine ⟨2, .bin n a b, r, [(foldT a).flat, (foldT b).flat], asks_bin (bin_op a5 a6) a2, by omega, by simp, ⟨_, hfs, by simpa using h2, fun j t2 w2 h5 h6 => ?_, ?_⟩, by rw [lsF_cons, lsF_cons, List.append_assoc]; rfl, rfl, fun base W pp pc hb hp => ?_⟩
    · match j, h5, h6 with
      | 0, h5, h6 => cases h5; cases h6; exact .bin n a b wa wb a1 a2 a3 a4 a7 a5 a6
      | j + 1, h5, h6 => exact h3 (j + 2) t2 w2 h5 h6
    · rw [hk1, rev_flat, h4, rev_flat, rev_flat, Tr.flat]; simp only [List.append_assoc]
    · have hfa := foldT_len a
      have hfb := foldT_len b
      have hcl : a.flat.length + b.flat.length ≤ 500 := by rw [h4, rev_flat, rev_flat, List.length_append, List.length_append] at hkl; omega
      exact madeB_any base (foldT a) (foldT b) n wa wb pp pc W (foldT_w a3) (foldT_w a4) a1 a2 a7 a5 a6 (by omega) hb hp
/-- At the end one tree is left. -/
theorem FI.done {p : Prg} {act wt : Int} {c : List Nod} {st : List Int} {ts : List Tr} (h : FI p act c c.length st ts) (hw : widthP p act c = some wt) : ∃ t, ts = [t] ∧ c = t.flat ∧ WTr p act t wt := by
  obtain ⟨t0, rfl, ht⟩ := tree_of hw
  obtain ⟨h1, h2, h3, h4⟩ := h
  rw [List.take_length] at h1 h4
  rw [foldW_tree ht] at h1
  cases h1
  match ts, h2 with
  | [t], _ =>
    refine ⟨t, rfl, ?_, h3 0 t wt rfl rfl⟩
    rw [h4]; simp

end Go.Proofs.Ytehcclcokgmplaa
