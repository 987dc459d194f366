/-
  The law SymopNone of layer 18: the call answers true, and nothing that was has changed.
-/
import Derived.Test.YtlihbbeodclncaaKnown18
import Derived.Test.YtlihbbeodclncaaAgree
namespace Go.Proofs.Ytlihbbeodclncaa
open Go.RowKit Go.Maps

theorem new_bdd (w : World) (c : Nat) (h0 : 2 ≤ c) (h1 : c ≤ 1048576) : ∃ O, IsBdd (newWorld w c) (w.heap.size + 2) O ⟨c, [], false⟩ (fun _ => none) ∧ ∀ k, O k → w.heap.size ≤ k := by
  refine ⟨Blk (w.heap.size + 2) w.heap.size (w.heap.size + 1) (.slice none 0 0), ⟨.slice none 0 0, w.heap.size, w.heap.size + 1, ?_, ?_, ?_, ?_, ?_, ?_, ?_, by omega, by simp [Value.ownBlock], ?_, ?_, fun k => Iff.rfl, h0, h1, Nat.zero_le _, by simp⟩, ?_⟩
  · simp [newWorld, newCells, go_sem]
  · simp [newWorld, newCells, go_sem]
  · simp [newWorld, newCells, go_sem]
  · simp [newWorld, newCells, go_sem]
  · simp [newWorld, newCells, go_sem]
  · intro j; simp [newWorld, newCells, go_sem]
  · exact ⟨rfl, .inl ⟨rfl, rfl⟩⟩
  · have e : byOf [] = fun _ => none := by funext t; simp [byOf]
    rw [e]
    refine IMap.empty _ _ ?_
    unfold newWorld
    rw [Below.heap_alloc _ _ _ (by simp; omega), Below.heap_alloc _ _ _ (by simp)]
    show (w.heap.push (.map #[] 0))[w.heap.size]? = _
    simp
  · refine IMap.empty _ _ ?_
    unfold newWorld
    rw [Below.heap_alloc _ _ _ (by simp)]
    show ((w.heap.push (.map #[] 0)).push (.map #[] 0))[w.heap.size + 1]? = _
    rw [Array.getElem?_push]
    simp
  · rintro k (h | h | h | h)
    · omega
    · omega
    · omega
    · simp [Value.ownBlock] at h

/-- The store behind the first k variables. -/
def varsK : Nat → BS
  | 0 => ⟨2, [], false⟩
  | k + 1 => (varF (varsK k) (k : Int)).1
theorem varsK_full : (varsK 3).full = true := by decide +kernel

theorem IVec.zshape' {w : World} {v : Value} {n : Nat} (h : IVec w v (List.replicate n 0)) : ∃ p c, v = .slice p n c := by
  obtain ⟨p, c, h1, -⟩ := h.shape
  exact ⟨p, c, by simpa using h1⟩

theorem held5a {w W : World} {o : Obj} {p0 p1 p2 p3 : Addr} {v0 v1 v2 v3 : Value} (h : Below w.heap.size w W ∧ W.cell? p0 = some v0 ∧ W.cell? p1 = some v1 ∧ W.cell? p2 = some v2 ∧ W.cell? p3 = some v3) :
    Below w.heap.size w (W.alloc o) ∧ (W.alloc o).cell? p0 = some v0 ∧ (W.alloc o).cell? p1 = some v1 ∧ (W.alloc o).cell? p2 = some v2 ∧ (W.alloc o).cell? p3 = some v3 :=
  ⟨h.1.alloc h.1.size _, (World.cell?_alloc_lt _ _ _ (cell_there h.2.1).1).trans h.2.1, (World.cell?_alloc_lt _ _ _ (cell_there h.2.2.1).1).trans h.2.2.1, (World.cell?_alloc_lt _ _ _ (cell_there h.2.2.2.1).1).trans h.2.2.2.1, (World.cell?_alloc_lt _ _ _ (cell_there h.2.2.2.2).1).trans h.2.2.2.2⟩

set_option maxHeartbeats 800000 in
theorem law18_long (pa pb : Option Addr) (la lb ca cb : Nat) (v0 v1 m0 m1 : Int) (w : World) (h : 300 < la ∨ 300 < lb) (hla : la ≤ maxLen) (hlb : lb ≤ maxLen) :
    Calls Try.prog 3 #[.slice pa la ca, .slice pb lb cb, .agg #[.int .u64 v0, .int .u64 v1, .int .u64 m0, .int .u64 m1]] w fun e w' => e = .returned (.bool true) ∧ Below w.heap.size w w' := by
  unfold maxLen at hla hlb
  have HK : Hid (∀ W, Calls Try.prog 5 #[] W fun e w' => e = .returned (.bool true) ∧ Below W.heap.size W w') := fun W => known18_true W
  by_cases h1 : 300 < la
  · go_enter Try.func3, Try.ntmps3
    go_wp2_with fail
    refine (HK.out _).mono ?_
    rintro e w1 ⟨rfl, hb⟩
    go_wp2_with fail
    go_ret
    exact ⟨rfl, ((Below.refl w.heap.size w).alloc (Nat.le_refl _) _).trans (hb.mono (by simp))⟩
  · have h2 : 300 < lb := by omega
    go_enter Try.func3, Try.ntmps3
    go_wp2_with fail
    refine (HK.out _).mono ?_
    rintro e w1 ⟨rfl, hb⟩
    go_wp2_with fail
    go_ret
    exact ⟨rfl, ((Below.refl w.heap.size w).alloc (Nat.le_refl _) _).trans (hb.mono (by simp))⟩

set_option maxRecDepth 100000 in
set_option maxHeartbeats 2000000 in
theorem law18_short (va vb : Value) (xs ys : List Int) (v0 v1 m0 m1 : Int) (fv fm : Int → Bool) (HV : Hid (BitsAre v0 v1 fv)) (HM : Hid (BitsAre m0 m1 fm)) (w : World) (ha : IVec w va xs) (hb : IVec w vb ys) (hxl : xs.length ≤ 300) (hyl : ys.length ≤ 300) :
    Calls Try.prog 3 #[va, vb, .agg #[.int .u64 v0, .int .u64 v1, .int .u64 m0, .int .u64 m1]] w fun e w' => e = .returned (.bool true) ∧ Below w.heap.size w w' := by
  have HN : Hid (∀ W, Calls Try.prog 6 #[.int .i64 2] W fun e w' => e = .returned (.tuple #[.pointer (some ⟨W.heap.size + 2, 0, none⟩), .int .i64 0]) ∧ newWorld W 2 = w') := fun W => new_ok 2 W (by omega) (by omega)
  have HA : Hid (∀ W, Below w.heap.size w W → IVec W va xs) := fun W hW => ha.below hW
  have HB : Hid (∀ W, Below w.heap.size w W → IVec W vb ys) := fun W hW => hb.below hW
  obtain ⟨pa, ca, ea, ha3, ha4, -⟩ := ha.shape
  obtain ⟨pb, cb, eb, hb3, hb4, -⟩ := hb.shape
  subst ea eb
  clear ha hb
  go_enter Try.func3, Try.ntmps3
  go_wp2_with fail
  refine (HN.out _).mono ?_
  rintro e w1 ⟨rfl, hw1⟩
  obtain ⟨P, hP⟩ : ∃ P, P = w.alloc (.cells #[.int .u64 v0, .int .u64 v1, .int .u64 m0, .int .u64 m1] 28) := ⟨_, rfl⟩
  rw [← hP] at hw1
  have hPs : P.heap.size = w.heap.size + 1 := by rw [hP]; simp
  have hPB : Below w.heap.size w P := by rw [hP]; exact (by repeat (first | exact Below.refl _ _ | assumption | refine Below.drew ?_ | refine Below.alloc ?_ (by first | omega | (simp <;> omega)) _ | refine Below.setCell ?_ (by first | omega | (simp <;> omega)) _ | refine Below.trans ?_ (Below.mono (by assumption) (by first | omega | (simp <;> omega)))))
  have pP : PatAt P w.heap.size v0 v1 m0 m1 := by rw [hP]; simp [PatAt, go_sem]
  have h1B : Below P.heap.size P w1 := by rw [← hw1]; unfold newWorld; exact (by repeat (first | exact Below.refl _ _ | assumption | refine Below.drew ?_ | refine Below.alloc ?_ (by first | omega | (simp <;> omega)) _ | refine Below.setCell ?_ (by first | omega | (simp <;> omega)) _ | refine Below.trans ?_ (Below.mono (by assumption) (by first | omega | (simp <;> omega)))))
  obtain ⟨O, hI, hOlo⟩ := new_bdd P 2 (by omega) (by omega)
  rw [hw1, hPs] at hI
  rw [hPs] at hOlo h1B
  have HI := Lib.hid hI
  have HO := Lib.hid hOlo
  have HPB := Lib.hid hPB
  have H1B := Lib.hid h1B
  have HPP := Lib.hid pP
  have hsz : (w.alloc (.cells #[.int .u64 v0, .int .u64 v1, .int .u64 m0, .int .u64 m1] 28)).heap.size = w.heap.size + 1 := by simp
  clear hI hOlo hw1 hP hPB h1B pP HN
  go_wp2_with fail
  go_loopw [35] (fun i wr => ∃ k : Nat, k ≤ 3 ∧ i = .int .i64 k ∧ Hid (Made (w.heap.size + 1 + 2) O w1 (fun s t => s = varsK k) wr)) (fun i _ => 3 - (intOf i).toNat)
  case atStart => exact ⟨0, Nat.zero_le _, rfl, O, _, _, HI.out, Ext.refl _ _, rfl⟩
  case round =>
    obtain ⟨k, hk, rfl, HMM⟩ := hrel
    by_cases hlt : k < 3
    · obtain ⟨O', s, t, hs, he, hk'⟩ := HMM.out
      have HVA := Lib.hid (var_any (w.heap.size + 1 + 2) O' s t k wr hs)
      have HE := Lib.hid he
      have HK := Lib.hid hk'
      clear hs he hk'
      go_wp2_with fail
      refine HVA.out.mono ?_
      rintro e w2 ⟨rfl, O'', s'', t'', h1, h2, h3, h4⟩
      have HX : Hid (Made (w.heap.size + 1 + 2) O w1 (fun s t => s = varsK (k + 1)) w2) := ⟨O'', s'', t'', h1, HE.out.trans h2, by rw [h3, HK.out]; rfl⟩
      clear h1 h2 h3 h4
      go_wp2_with fail
      go_roundw
      case rel => exact ⟨k + 1, by omega, by go_num, HX⟩
      case measure => simp [intOf]; omega
    · obtain rfl : k = 3 := by omega
      obtain ⟨O', s, t, hs, he, rfl⟩ := HMM.out
      have hD : Dead wr (.pointer (some ⟨w.heap.size + 1 + 2, 0, none⟩)) := .inr ⟨_, _, _, t, rfl, hs, varsK_full⟩
      have hBr : Below (w.heap.size + 1) P wr := below_ext H1B.out he HO.out (by have := H1B.out.size; omega)
      have hpr : PatAt wr w.heap.size v0 v1 m0 m1 := HPP.out.below hBr (by omega)
      have hWr : Below w.heap.size w wr := HPB.out.trans (hBr.mono (by omega))
      have HD := Lib.hid hD
      have HPR := Lib.hid hpr
      have HWR := Lib.hid hWr
      clear hs he hD hBr hpr hWr HMM HI HO HPB H1B HPP hPs
      go_wp2_with fail
      obtain ⟨Z, hZ⟩ : ∃ Z, Z = wr.alloc (.cells #[.pointer none, .pointer (some ⟨w.heap.size + 1 + 2, 0, none⟩)] 30) := ⟨_, rfl⟩
      have hBZ : Below wr.heap.size wr Z := by rw [hZ]; exact (by repeat (first | exact Below.refl _ _ | assumption | refine Below.drew ?_ | refine Below.alloc ?_ (by first | omega | (simp <;> omega)) _ | refine Below.setCell ?_ (by first | omega | (simp <;> omega)) _ | refine Below.trans ?_ (Below.mono (by assumption) (by first | omega | (simp <;> omega)))))
      have z0 : Z.cell? ⟨wr.heap.size, 0, none⟩ = some (.pointer none) := by rw [hZ]; simp [go_sem]
      have z1 : Z.cell? ⟨wr.heap.size, 1, none⟩ = some (.pointer (some ⟨w.heap.size + 1 + 2, 0, none⟩)) := by rw [hZ]; simp [go_sem]
      have hsZ : wr.heap.size < Z.heap.size := by rw [hZ]; simp
      have hpl : w.heap.size < Z.heap.size := by have := HWR.out.size; omega
      have HP4 : Hid (∀ W, Below Z.heap.size Z W → PatAt W w.heap.size v0 v1 m0 m1) := fun W hW => (HPR.out.below hBZ (cell_there HPR.out.1).1).below hW hpl
      have HWZ : Hid (Below w.heap.size w Z) := HWR.out.trans (hBZ.mono HWR.out.size)
      have HSP : Hid (∀ k : Nat, k < 2 → ∃ po : Option Addr, ∀ W, Below Z.heap.size Z W → W.cell? ⟨wr.heap.size, k, none⟩ = some (.pointer po) ∧ Dead W (.pointer po)) := by
        intro k hk
        match k, hk with
        | 0, _ => exact ⟨none, fun W hW => ⟨(hW.cell (p := ⟨wr.heap.size, 0, none⟩) hsZ).trans z0, .inl rfl⟩⟩
        | 1, _ => exact ⟨_, fun W hW => ⟨(hW.cell (p := ⟨wr.heap.size, 1, none⟩) hsZ).trans z1, (HD.out.below hBZ).below hW⟩⟩
      rw [← hZ]
      clear hZ hBZ z0 z1 HD HPR HWR
      go_loopw [45] (fun i wz => ∃ k : Nat, k ≤ 2 ∧ i = .int .i64 k ∧ Hid (Below Z.heap.size Z wz)) (fun i _ => 2 - (intOf i).toNat)
      case atStart => exact ⟨0, Nat.zero_le _, rfl, Below.refl _ _⟩
      case round =>
        obtain ⟨k, hk, rfl, HZ⟩ := hrel
        by_cases hlt : k < 2
        · obtain ⟨po, hpo⟩ := HSP.out k hlt
          obtain ⟨cz, dz⟩ := hpo _ HZ.out
          have HDD : Hid (∀ W, Below Z.heap.size Z W → Dead W (.pointer po)) := fun W hW => (hpo W hW).2
          have HAZ : Hid (∀ W, Below Z.heap.size Z W → IVec W (.slice pa xs.length ca) xs) := fun W hW => HA.out W (HWZ.out.trans (hW.mono HWZ.out.size))
          have HBZ : Hid (∀ W, Below Z.heap.size Z W → IVec W (.slice pb ys.length cb) ys) := fun W hW => HB.out W (HWZ.out.trans (hW.mono HWZ.out.size))
          obtain ⟨p0, p1, p2, p3⟩ := HP4.out _ HZ.out
          clear dz hpo
          go_wp2_with fail
          go_region_held3 (fun w' => Below Z.heap.size Z w' ∧ w'.cell? ⟨w.heap.size, 0, none⟩ = some (.int .u64 v0) ∧ w'.cell? ⟨w.heap.size, 1, none⟩ = some (.int .u64 v1) ∧ w'.cell? ⟨w.heap.size, 2, none⟩ = some (.int .u64 m0) ∧ w'.cell? ⟨w.heap.size, 3, none⟩ = some (.int .u64 m1))
            (first | exact ⟨below_drewN HZ.out 1, p0, p1, p2, p3⟩ | exact held5 hb1 (by assumption) | exact held5a (by assumption) | go_keep)
            (first
              | (go_at_call 8; refine (add_dead _ _ xs ys _ (HDD.out _ (And.left (by assumption))) (HAZ.out _ (And.left (by assumption))) (HBZ.out _ (And.left (by assumption))) (by omega) (by omega)).mono ?_; rintro e w1 ⟨x1, rfl, hx1, hb1⟩; obtain ⟨q1, r1, rfl⟩ := hx1.zshape')
              | (go_at_call 9; refine (sub_dead _ _ xs ys _ (HDD.out _ (And.left (by assumption))) (HAZ.out _ (And.left (by assumption))) (HBZ.out _ (And.left (by assumption))) (by omega) (by omega)).mono ?_; rintro e w1 ⟨x2, rfl, hx2, hb1⟩; obtain ⟨q2, r2, rfl⟩ := hx2.zshape'; have hx1 := hx1.below hb1)
              | (go_at_call 10; refine (neg_dead _ xs _ (HDD.out _ (And.left (by assumption))) (HAZ.out _ (And.left (by assumption))) (by omega)).mono ?_; rintro e w1 ⟨x3, rfl, hx3, hb1⟩; obtain ⟨q3, r3, rfl⟩ := hx3.zshape'; have hx1 := hx1.below hb1; have hx2 := hx2.below hb1)
              | (go_at_call 11; refine (eq_dead _ _ xs ys _ (HDD.out _ (And.left (by assumption))) (HAZ.out _ (And.left (by assumption))) (HBZ.out _ (And.left (by assumption))) (by omega) (by omega)).mono ?_; rintro e w1 ⟨rfl, hb1⟩; have hx1 := hx1.below hb1; have hx2 := hx2.below hb1; have hx3 := hx3.below hb1)
              | (go_at_call 12; refine (less_dead _ _ xs ys _ (HDD.out _ (And.left (by assumption))) (HAZ.out _ (And.left (by assumption))) (HBZ.out _ (And.left (by assumption))) (by omega) (by omega)).mono ?_; rintro e w1 ⟨rfl, hb1⟩; have hx1 := hx1.below hb1; have hx2 := hx2.below hb1; have hx3 := hx3.below hb1)
              | (go_at_call 13; refine (atMost_dead _ _ xs ys _ (HDD.out _ (And.left (by assumption))) (HAZ.out _ (And.left (by assumption))) (HBZ.out _ (And.left (by assumption))) (by omega) (by omega)).mono ?_; rintro e w1 ⟨rfl, hb1⟩; have hx1 := hx1.below hb1; have hx2 := hx2.below hb1; have hx3 := hx3.below hb1)
              | (go_at_call 14; refine (any_dead _ xs _ (HDD.out _ (And.left (by assumption))) (HAZ.out _ (And.left (by assumption))) (by omega)).mono ?_; rintro e w1 ⟨rfl, hb1⟩; have hx1 := hx1.below hb1; have hx2 := hx2.below hb1; have hx3 := hx3.below hb1)
              | (go_at_call 15; refine (agrees_dead _ xs v0 v1 m0 m1 fv fm HV HM _ (HDD.out _ (And.left (by assumption))) (HAZ.out _ (And.left (by assumption))) (by omega)).mono ?_; rintro e w1 ⟨rfl, hb1⟩; have hx1 := hx1.below hb1; have hx2 := hx2.below hb1; have hx3 := hx3.below hb1))
          rename_i hH
          have hw1 : Below Z.heap.size Z _ := hH.1
          clear hH p0 p1 p2 p3
          have hMm : max xs.length ys.length ≤ 300 := by omega
          generalize max xs.length ys.length = M at hMm hx1 hx2 hw1 ⊢
          generalize hN : xs.length = N at hxl hx3 hw1 ⊢
          go_wp2_with fail
          obtain ⟨Y, hY⟩ : ∃ Y, Y = (w1.alloc (.cells #[.int .i64 0, .int .i64 0, .int .i64 0, .int .i64 0, .int .i64 0] 3)).alloc (.cells #[.slice q1 M r1, .slice q2 M r2, .slice q3 N r3, .slice (some ⟨w1.heap.size, 0, none⟩) 5 5] 23) := ⟨_, rfl⟩
          have hBY : Below w1.heap.size w1 Y := by rw [hY]; exact (by repeat (first | exact Below.refl _ _ | assumption | refine Below.drew ?_ | refine Below.alloc ?_ (by first | omega | (simp <;> omega)) _ | refine Below.setCell ?_ (by first | omega | (simp <;> omega)) _ | refine Below.trans ?_ (Below.mono (by assumption) (by first | omega | (simp <;> omega)))))
          have h5 : IVec Y (.slice (some ⟨w1.heap.size, 0, none⟩) 5 5) (List.replicate 5 0) := by
            refine ⟨some ⟨w1.heap.size, 0, none⟩, 5, rfl, by simp, by unfold maxLen; omega, fun _ => ⟨w1.heap.size, 0, rfl, by rw [hY]; simp; omega, fun i hi => ?_⟩⟩
            simp at hi
            rw [hY]
            match i, hi with
            | 0, _ => simp [go_sem]
            | 1, _ => simp [go_sem]
            | 2, _ => simp [go_sem]
            | 3, _ => simp [go_sem]
            | 4, _ => simp [go_sem]
          have HALL : Hid (∀ j, j < 4 → ∃ p m c, Y.cell? ⟨w1.heap.size + 1, j, none⟩ = some (.slice p m c) ∧ IVec Y (.slice p m c) (List.replicate m 0)) := by
            intro j hj
            match j, hj with
            | 0, _ => exact ⟨_, _, _, by rw [hY]; simp [go_sem], hx1.below hBY⟩
            | 1, _ => exact ⟨_, _, _, by rw [hY]; simp [go_sem], hx2.below hBY⟩
            | 2, _ => exact ⟨_, _, _, by rw [hY]; simp [go_sem], hx3.below hBY⟩
            | 3, _ => exact ⟨_, _, _, by rw [hY]; simp [go_sem], h5⟩
          have HZY : Hid (Below Z.heap.size Z Y) := by rw [hY]; exact Lib.hid hw1
          rw [← hY]
          clear hY hBY h5 hx1 hx2 hx3 hw1
          go_loop [82] (fun i => ∃ k : Nat, k ≤ 4 ∧ i = .int .i64 k) (fun i => 4 - (intOf i).toNat)
          case atStart => exact ⟨0, Nat.zero_le _, rfl⟩
          case round =>
            obtain ⟨j, hj, rfl⟩ := hrel
            by_cases hlj : j < 4
            · obtain ⟨p, m, c, hck, hvk⟩ := HALL.out j hlj
              obtain ⟨p', c', e', hm1, hm2, hm3⟩ := hvk.shape
              simp only [List.length_replicate] at e' hm1 hm2 hm3
              have hmm : m ≤ maxLen := by omega
              unfold maxLen at hmm
              simp only [Value.slice.injEq] at e'
              obtain ⟨e1, -, e2⟩ := e'
              subst e1 e2
              have HM3 := Lib.hid hm3
              clear hm3 hvk
              go_wp2_with fail
              go_loop [88] (fun i => ∃ j : Nat, j ≤ m ∧ i = .int .i64 j) (fun i => m - (intOf i).toNat)
              case atStart => exact ⟨0, Nat.zero_le _, rfl⟩
              case round =>
                obtain ⟨l, hl, rfl⟩ := hrel
                by_cases hll : l < m
                · obtain ⟨bb, ob, rfl, hbb, hcc⟩ := HM3.out (by omega)
                  have gj := hcc l hll
                  have ez : (List.replicate m (0 : Int)).getD l 0 = 0 := by simp [hll]
                  rw [ez] at gj
                  clear hcc ez
                  go_wp2_with fail
                  go_round
                  case rel => exact ⟨l + 1, by omega, by go_num⟩
                  case measure => simp [intOf]; omega
                · obtain rfl : l = m := by omega
                  go_wp2_with fail
                  go_round
                  case rel => exact ⟨j + 1, by omega, by go_num⟩
                  case measure => simp [intOf]; omega
            · obtain rfl : j = 4 := by omega
              go_wp2_with fail
              go_roundw
              case rel => exact ⟨_, _, _, _, _, ⟨k + 1, by omega, rfl⟩, rfl, rfl, rfl, rfl, by go_num⟩
              case measure => simp [intOf]; omega
        · obtain rfl : k = 2 := by omega
          go_wp2_with fail
          refine (known18_true _).mono ?_
          rintro e w9 ⟨rfl, hb9⟩
          go_wp2_with fail
          go_ret
          exact ⟨rfl, (HWZ.out.trans (HZ.out.mono HWZ.out.size)).trans (hb9.mono (by have := HWZ.out.size; have := HZ.out.size; omega))⟩

end Go.Proofs.Ytlihbbeodclncaa
