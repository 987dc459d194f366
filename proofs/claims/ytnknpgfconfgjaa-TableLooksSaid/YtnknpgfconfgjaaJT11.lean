/-
  The law TableLooks walked.
-/
import Derived.Test.YtnknpgfconfgjaaJT10
import Derived.Test.YtnknpgfconfgjaaJT08
import Derived.Deep.QuietTactic
import Derived.BigQuiet

namespace Go.Proofs.Ytnknpgfconfgjaa
open Go.RowKit Stab

theorem NOwn.cells {base : Nat} {w : World} {v : Value} {l : List Nat} (h : NOwn base w v l) : (l = [] ∧ v = .slice none 0 0) ∨ ∃ g c, v = .slice (some ⟨g, 0, none⟩) l.length c ∧ base ≤ g ∧ g < w.heap.size ∧ (l.length : Int) ≤ (c : Int) ∧ ∀ j, j < l.length → (∃ x : Int, w.cell? ⟨g, j * 2 + 1, none⟩ = some (.int .u64 x)) ∧ w.frozen? ⟨g, j * 2 + 1, none⟩ = false := by
  have hr := h.row
  rcases h.1.2 with ⟨h2, h3⟩ | ⟨g, cap, cur, q1, q2, q3, q4, q5, q6, q7⟩
  · exact .inl ⟨List.length_eq_zero_iff.1 h3, h2⟩
  · refine .inr ⟨g, cap, q1, q2, (Array.getElem?_eq_some_iff.1 q3).1, by omega, fun j hj => ⟨?_, ?_⟩⟩
    · obtain ⟨b, o, c, e, -, -, -, e2⟩ := hr.at (List.getElem?_eq_getElem hj)
      rw [q1] at e
      cases e
      rw [Nat.zero_add] at e2
      exact ⟨_, e2⟩
    · simp [World.frozen?, q3]

/-- What is run: this action, these arguments. -/
def RunIs (a : Int) (g : List Nat) (W : World) (x : Value) : Prop := ∃ p n c, x = .agg #[.int .i64 a, .slice p n c] ∧ NRow W (.slice p n c) g
theorem RunIs.keeps (a : Int) (g : List Nat) : (Out.rel (RunIs a g)).keeps := fun w w' v ⟨p, n, c, e, h⟩ hb => ⟨p, n, c, e, h.below keepN hb⟩
theorem RetRun.is {w : World} {R : Int → List Nat → Prop} {a : Int} {g : List Nat} {e : Ending} {w' : World} {l : Nat → Value} (h : RetRun w R e w') (hu : ∀ b k, R b k → b = a ∧ k = g) : ∃ v, e = .returned v ∧ (Out.rel (RunIs a g)).ok l w' v ∧ Below w.heap.size w w' := by
  obtain ⟨b, k, v, rfl, hr, hn, hb⟩ := h
  obtain ⟨rfl, rfl⟩ := hu b k hr
  obtain ⟨p, c, rfl, -⟩ := hn.shape
  exact ⟨_, rfl, ⟨p, _, c, rfl, hn⟩, hb⟩
theorem RetRunO.is {w : World} {R : Int → List Nat → Prop} {a : Int} {g : List Nat} {e : Ending} {w' : World} {l : Nat → Value} (h : RetRunO w R e w') (hu : ∀ b k, R b k → b = a ∧ k = g) : ∃ v, e = .returned v ∧ (Out.rel (RunIs a g)).ok l w' v ∧ Below w.heap.size w w' := by
  obtain ⟨b, k, v, e1, hr, hn, hb⟩ := h
  exact RetRun.is ⟨b, k, v, e1, hr, hn.row, hb⟩ hu
/-- The numbers' lower halves, in memory of a call's own. -/
def EU (base G : Nat) (vp : Option Addr) (n : Nat) (W : World) : Prop := ∀ j, j < n → ∃ b, vp = some ⟨b, 0, none⟩ ∧ base ≤ b ∧ b < G ∧ (∃ x : Int, W.cell? ⟨b, j * 2 + 1, none⟩ = some (.int .u64 x)) ∧ W.frozen? ⟨b, j * 2 + 1, none⟩ = false
theorem EU.of {base : Nat} {w : World} {vp : Option Addr} {n c : Nat} {g : List Nat} (h : NOwn base w (.slice vp n c) g) : EU base w.heap.size vp n w := by
  intro j hj
  rcases h.cells with ⟨-, h2⟩ | ⟨b, c, e, h1, h2, -, h3⟩
  · cases h2; exact absurd hj (Nat.not_lt_zero j)
  · cases e
    exact ⟨b, rfl, h1, h2, (h3 j hj).1, (h3 j hj).2⟩
theorem EU.below {base G : Nat} {vp : Option Addr} {n : Nat} {W W' : World} (h : EU base G vp n W) (hG : G ≤ W.heap.size) (hb : Below W.heap.size W W') : EU base G vp n W' := fun j hj => by
  obtain ⟨b, h1, h2, h3, ⟨x, h4⟩, h5⟩ := h j hj
  exact ⟨b, h1, h2, h3, ⟨x, (hb.cell (p := ⟨b, j * 2 + 1, none⟩) (by show b < _; omega)).trans h4⟩, (hb.frozen (p := ⟨b, j * 2 + 1, none⟩) (by show b < _; omega)).trans h5⟩
theorem EU.set {base G k : Nat} {b : Nat} {n : Nat} {W : World} {y : Int} (h : EU base G (some ⟨b, 0, none⟩) n W) (hk : k < n) : EU base G (some ⟨b, 0, none⟩) n (W.setCell ⟨b, k * 2 + 1, none⟩ (.int .u64 y)) := fun j hj => by
  obtain ⟨b', h1, h2, h3, ⟨x, h4⟩, h5⟩ := h j hj
  cases h1
  refine ⟨b, rfl, h2, h3, ?_, by simp [go_sem, h5]⟩
  by_cases e : j = k
  · subst e; exact ⟨y, by simp [go_sem, h4]⟩
  · refine ⟨x, ?_⟩
    rw [World.cell?_setCell_other _ _ _ _ (by intro q; simp only [Addr.mk.injEq] at q; omega)]
    exact h4

set_option maxRecDepth 100000 in
set_option maxHeartbeats 12000000 in
theorem looks_any (l : List Ent) (tab : Int) (ks : List Nat) (a0 : Int) (g0 : List Nat) (lv kv gv : Value) (w : World) (hl : ERow w lv l) (hk : NRow w kv ks) (hg : NRow w gv g0) :
    Calls Try.prog 4 #[lv, .int .i64 tab, kv, .agg #[.int .i64 a0, gv]] w fun e w' => e = .returned (.bool true) ∧ Below w.heap.size w w' := by
  obtain ⟨la, lc, rfl, hc1, hc2⟩ := hl.shape
  obtain ⟨ka, kc, rfl, kc1, kc2⟩ := hk.shape
  obtain ⟨ga, gc, rfl, gc1, gc2⟩ := hg.shape
  have HKN := Lib.hid known20_true
  have HL := Lib.hid hl
  have HK := Lib.hid hk
  have HG := Lib.hid hg
  obtain ⟨n, hnn⟩ : ∃ n, n = l.length := ⟨_, rfl⟩
  rw [← hnn] at hc1 HL ⊢
  have HN := Lib.hid hnn
  have hcz : (n : Int) ≤ (lc : Int) := by omega
  clear hl hk hg hnn
  unfold maxLen at hc2 kc2 gc2
  go_enter Try.func4, Try.ntmps4
  go_wp2_with fail
  have hb0 : Below w.heap.size w (w.alloc (.cells #[.int .i64 a0, .slice ga g0.length gc] 56)) := (by repeat (first | exact Below.refl _ _ | assumption | refine Below.drew ?_ | refine Below.alloc ?_ (by first | omega | (simp <;> omega)) _ | refine Below.setCell ?_ (by first | omega | (simp <;> omega)) _ | refine Below.trans ?_ (Below.mono (by assumption) (by first | omega | (simp <;> omega)))))
  generalize hX : w.alloc (.cells #[.int .i64 a0, .slice ga g0.length gc] 56) = X at hb0
  have x2 : X.cell? ⟨w.heap.size, 0, none⟩ = some (.int .i64 a0) := by rw [← hX]; simp [go_sem]
  have x3 : X.cell? ⟨w.heap.size, 1, none⟩ = some (.slice ga g0.length gc) := by rw [← hX]; simp [go_sem]
  have xs : X.heap.size = w.heap.size + 1 := by rw [← hX]; simp
  obtain ⟨N, hNN⟩ : ∃ N, N = w.heap.size := ⟨_, rfl⟩
  have HX : Hid (∀ W, Below X.heap.size X W → (W.cell? ⟨N, 0, none⟩ = some (.int .i64 a0) ∧ W.cell? ⟨N, 1, none⟩ = some (.slice ga g0.length gc)) ∧ Below w.heap.size w W ∧ N < W.heap.size) := fun W hW => by
    rw [hNN]
    exact ⟨⟨(hW.cell (p := ⟨w.heap.size, 0, none⟩) (by show w.heap.size < _; omega)).trans x2, (hW.cell (p := ⟨w.heap.size, 1, none⟩) (by show w.heap.size < _; omega)).trans x3⟩, hb0.trans (hW.mono hb0.size), by have := hW.size; omega⟩
  have HNW : Hid (N = w.heap.size) := hNN
  rw [← hNN]
  clear hX x2 x3 xs hb0 hNN
  have HGR : Hid (Calls Try.prog 13 #[.slice la n lc] X (RetGreat l X)) := by
    have := great_any l _ X (HL.out.below keepE (HX.out X (Below.refl _ _)).2.1)
    exact this
  refine HGR.out.mono ?_
  rintro e w1 ⟨b, rfl, hgr, hb1⟩
  have HB1 := Lib.hid hb1
  have HGT := Lib.hid hgr
  obtain ⟨⟨c0, c1⟩, -, hs1⟩ := HX.out _ HB1.out
  clear hgr hb1 HGR
  cases b
  · by_cases hk10 : 10 < ks.length
    · go_wp2_with fail
      refine (HKN.out _).mono ?_
      rintro e w2 ⟨rfl, hb2⟩
      have HB2 := Lib.hid (HB1.out.trans (hb2.mono HB1.out.size))
      clear hb2
      go_wp2_with fail
      go_ret
      exact ⟨rfl, (HX.out _ HB2.out).2.1⟩
    by_cases hg10 : 10 < g0.length
    · have hdk : decide ((10 : Int) < (ks.length : Int)) = false := decide_eq_false (by omega)
      go_wp2_with fail
      refine (HKN.out _).mono ?_
      rintro e w2 ⟨rfl, hb2⟩
      have HB2 := Lib.hid (HB1.out.trans (hb2.mono HB1.out.size))
      clear hb2
      go_wp2_with fail
      go_ret
      exact ⟨rfl, (HX.out _ HB2.out).2.1⟩
    obtain ⟨hf, hn40⟩ := HGT.out (by trivial)
    have HF := Lib.hid hf
    clear hf HGT
    rw [← HN.out] at hn40
    have HG10 : Hid (g0.length ≤ 10) := by show _ ≤ _; omega
    have HCH : Hid (∀ W, Below w.heap.size w W → Calls Try.prog 19 #[.slice la n lc, .int .i64 tab, .slice ka ks.length kc] W (RetBest W l tab ks)) := fun W hW => choose_any l tab ks _ _ W (HL.out.below keepE hW) (HK.out.below keepN hW) (by rw [← HN.out]; exact hn40) HF.out
    have HRC : Hid (∀ W, Below w.heap.size w W → Calls Try.prog 20 #[.slice la n lc, .int .i64 tab, .slice ka ks.length kc] W (RetBest W l tab ks)) := fun W hW => refChoose_any l tab ks _ _ W (HL.out.below keepE hW) (HK.out.below keepN hW) (by rw [← HN.out]; exact hn40) HF.out
    have HOR : Hid (∀ W, Below w.heap.size w W → Calls Try.prog 17 #[.slice la n lc, .int .i64 tab] W (RetOrd W (IsOrd l tab))) := fun W hW => order_any l tab _ W (HL.out.below keepE hW) (by rw [← HN.out]; exact hn40)
    have HRO : Hid (∀ W, Below w.heap.size w W → Calls Try.prog 18 #[.slice la n lc, .int .i64 tab] W (RetOrd W (IsOrd l tab))) := fun W hW => refOrder_any l tab _ W (HL.out.below keepE hW) (by rw [← HN.out]; exact hn40)
    have HLO : Hid (∀ W, Below w.heap.size w W → Calls Try.prog 21 #[.slice la n lc, .int .i64 tab, .slice ka ks.length kc, .agg #[.int .i64 a0, .slice ga g0.length gc]] W (RetRunO W (Look l tab ks a0 g0))) := fun W hW => lookup_any l tab ks a0 g0 _ _ _ W (HL.out.below keepE hW) (HK.out.below keepN hW) (HG.out.below keepN hW) (by rw [← HN.out]; exact hn40) HF.out HG10.out
    have HRL : Hid (∀ W, Below w.heap.size w W → Calls Try.prog 23 #[.slice la n lc, .int .i64 tab, .slice ka ks.length kc, .agg #[.int .i64 a0, .slice ga g0.length gc]] W (RetRun W (Look l tab ks a0 g0))) := fun W hW => refLookup_any l tab ks a0 g0 _ _ _ W (HL.out.below keepE hW) (HK.out.below keepN hW) (HG.out.below keepN hW) (by rw [← HN.out]; exact hn40) HF.out
    have hdk : decide ((10 : Int) < (ks.length : Int)) = false := decide_eq_false (by omega)
    have hdg : decide ((10 : Int) < (g0.length : Int)) = false := decide_eq_false (by omega)
    go_wp2_with fail
    clear hdk hdg c0 c1 hk10 hg10
    go_loopw [10, 32] (fun u i wr => ∃ k : Nat, k ≤ n ∧ i = .int .i64 k ∧ Hid (Below X.heap.size X wr)) (fun _ i _ => n - (intOf i).toNat)
    case atStart => exact ⟨0, Nat.zero_le _, rfl, HB1.out⟩
    case round =>
      obtain ⟨k, hk, rfl, HW⟩ := hrel
      obtain ⟨-, hbw, -⟩ := HX.out _ HW.out
      by_cases hlt : k < n
      · obtain ⟨lb, lo, lc', he, hlb, hek⟩ := (HL.out.below keepE hbw).at (eAt_nat l k (by have := HN.out; omega))
        simp only [Value.slice.injEq] at he
        obtain ⟨rfl, -, -⟩ := he
        obtain ⟨p1, n1, c1, r1, m1, d1, a0', a1, a2, a3, a4, a5, hp, hr⟩ := hek.six
        have hpl : (eAt l (k : Int)).pats.length ≤ 1000000 := by have := (HF.out k (by have := HN.out; omega)).1; omega
        obtain ⟨r, hr2⟩ : ∃ r, r = matB (eAt l (k : Int)) tab ks := ⟨_, rfl⟩
        have HMA : Hid (∀ W, Below wr.heap.size wr W → Calls Try.prog 15 #[.agg #[.int .i64 (eAt l (k : Int)).tab, .slice p1 n1 c1, .int .i64 (eAt l (k : Int)).len, .int .i64 (eAt l (k : Int)).prio, .int .i64 (eAt l (k : Int)).act, .slice r1 m1 d1], .int .i64 tab, .slice ka ks.length kc] W fun e w' => e = .returned (.bool r) ∧ Below W.heap.size W w') := fun W hW => by
          rw [hr2]; exact matches_any _ tab ks _ _ W ⟨_, _, rfl, hp.below keepP hW, hr.below keepN hW⟩ (HK.out.below keepN (hbw.trans (hW.mono hbw.size))) hpl
        have HMR : Hid (∀ W, Below wr.heap.size wr W → Calls Try.prog 16 #[.agg #[.int .i64 (eAt l (k : Int)).tab, .slice p1 n1 c1, .int .i64 (eAt l (k : Int)).len, .int .i64 (eAt l (k : Int)).prio, .int .i64 (eAt l (k : Int)).act, .slice r1 m1 d1], .int .i64 tab, .slice ka ks.length kc] W fun e w' => e = .returned (.bool r) ∧ Below W.heap.size W w') := fun W hW => by
          rw [hr2]; exact refMatches_any _ tab ks _ _ W ⟨_, _, rfl, hp.below keepP hW, hr.below keepN hW⟩ (HK.out.below keepN (hbw.trans (hW.mono hbw.size))) hpl
        clear hek hp hr hpl hr2
        generalize (eAt l (k : Int)).tab = t1 at *
        generalize (eAt l (k : Int)).len = l1 at *
        generalize (eAt l (k : Int)).prio = q1 at *
        generalize (eAt l (k : Int)).act = s1 at *
        have z1 : (k : Int) < (n : Int) := by omega
        have z0 : (0 : Int) ≤ (k : Int) := by omega
        clear hbw
        go_wp2_with fail
        have hbx : Below wr.heap.size wr (wr.alloc (.cells #[.int .i64 t1, .slice p1 n1 c1, .int .i64 l1, .int .i64 q1, .int .i64 s1, .slice r1 m1 d1] 60)) := (by repeat (first | exact Below.refl _ _ | assumption | refine Below.drew ?_ | refine Below.alloc ?_ (by first | omega | (simp <;> omega)) _ | refine Below.setCell ?_ (by first | omega | (simp <;> omega)) _ | refine Below.trans ?_ (Below.mono (by assumption) (by first | omega | (simp <;> omega)))))
        generalize hY : wr.alloc (.cells #[.int .i64 t1, .slice p1 n1 c1, .int .i64 l1, .int .i64 q1, .int .i64 s1, .slice r1 m1 d1] 60) = Y at hbx
        have y0 : Y.cell? ⟨wr.heap.size, 0, none⟩ = some (.int .i64 t1) := by rw [← hY]; simp [go_sem]
        have y1 : Y.cell? ⟨wr.heap.size, 1, none⟩ = some (.slice p1 n1 c1) := by rw [← hY]; simp [go_sem]
        have y2 : Y.cell? ⟨wr.heap.size, 2, none⟩ = some (.int .i64 l1) := by rw [← hY]; simp [go_sem]
        have y3 : Y.cell? ⟨wr.heap.size, 3, none⟩ = some (.int .i64 q1) := by rw [← hY]; simp [go_sem]
        have y4 : Y.cell? ⟨wr.heap.size, 4, none⟩ = some (.int .i64 s1) := by rw [← hY]; simp [go_sem]
        have y5 : Y.cell? ⟨wr.heap.size, 5, none⟩ = some (.slice r1 m1 d1) := by rw [← hY]; simp [go_sem]
        have HCL : Hid (∀ W, Below Y.heap.size Y W → W.cell? ⟨wr.heap.size, 0, none⟩ = some (.int .i64 t1) ∧ W.cell? ⟨wr.heap.size, 1, none⟩ = some (.slice p1 n1 c1) ∧ W.cell? ⟨wr.heap.size, 2, none⟩ = some (.int .i64 l1) ∧ W.cell? ⟨wr.heap.size, 3, none⟩ = some (.int .i64 q1) ∧ W.cell? ⟨wr.heap.size, 4, none⟩ = some (.int .i64 s1) ∧ W.cell? ⟨wr.heap.size, 5, none⟩ = some (.slice r1 m1 d1)) := fun W hW =>
          ⟨(hW.cell (cell_there y0).1).trans y0, (hW.cell (cell_there y1).1).trans y1, (hW.cell (cell_there y2).1).trans y2, (hW.cell (cell_there y3).1).trans y3, (hW.cell (cell_there y4).1).trans y4, (hW.cell (cell_there y5).1).trans y5⟩
        have HBY := Lib.hid hbx
        clear hY hbx y0 y1 y2 y3 y4 y5 a0' a1 a2 a3 a4 a5
        refine region_outS (by kernel_rfl) (fun Wk => Below Y.heap.size Y Wk) (fun w1 w2 h1 h2 => h1.trans (h2.mono h1.size)) (by kernel_rfl) (Below.drew (Below.refl _ _)) ?_
        refine ⟨.eq ?_, trivial, rfl, fun aa ww ll hh => ?_, ?_⟩
        rotate_left
        · have e10 := (hh.old 10 (by kernel_rfl)).trans (evalO rfl)
          simp only [nthO] at e10
          obtain ⟨y0, y1, y2, y3, y4, y5⟩ := HCL.out ww hh.inv
          refine out_val (wanted_none rfl) ?_
          clear hh
          generalize aa.eval = ev at e10 ⊢
          go_simp
          try rfl
        refine ⟨.eq ?_, trivial, rfl, fun aa ww ll hh => ?_, ?_⟩
        rotate_left
        · have e1 := (hh.old 1 (by kernel_rfl)).trans (evalO rfl)
          simp only [nthO] at e1
          refine out_val (wanted_none rfl) ?_
          rw [ex_moveO (by first | exact .inl rfl | exact .inr rfl) e1]
        refine ⟨.eq ?_, trivial, rfl, fun aa ww ll hh => ?_, ?_⟩
        rotate_left
        · have e2 := (hh.old 2 (by kernel_rfl)).trans (evalO rfl)
          simp only [nthO] at e2
          refine out_val (wanted_none rfl) ?_
          rw [ex_moveO (by first | exact .inl rfl | exact .inr rfl) e2]
        refine ⟨.eq (.bool r), trivial, rfl, fun aa ww ll hh => ?_, ?_⟩
        · have e36 := hh.get 0 2 (by kernel_rfl) rfl rfl rfl
          have e37 := hh.get 1 1 (by kernel_rfl) rfl rfl rfl
          have e38 := hh.get 2 0 (by kernel_rfl) rfl rfl rfl
          have ef : ∀ f, aa.eval (.func f) = .func (.func f) #[] #[] := fun _ => rfl
          refine out_call_eq (wanted_none rfl) ?_ (HMA.out ww (HBY.out.trans (hh.inv.mono HBY.out.size)))
          clear hh
          generalize aa.eval = ev at e36 e37 e38 ef ⊢
          go_simp
        refine ⟨.eq ?_, trivial, rfl, fun aa ww ll hh => ?_, ?_⟩
        rotate_left
        · have e10 := (hh.old 10 (by kernel_rfl)).trans (evalO rfl)
          simp only [nthO] at e10
          obtain ⟨y0, y1, y2, y3, y4, y5⟩ := HCL.out ww hh.inv
          refine out_val (wanted_none rfl) ?_
          clear hh
          generalize aa.eval = ev at e10 ⊢
          go_simp
          try rfl
        refine ⟨.eq ?_, trivial, rfl, fun aa ww ll hh => ?_, ?_⟩
        rotate_left
        · have e1 := (hh.old 1 (by kernel_rfl)).trans (evalO rfl)
          simp only [nthO] at e1
          refine out_val (wanted_none rfl) ?_
          rw [ex_moveO (by first | exact .inl rfl | exact .inr rfl) e1]
        refine ⟨.eq ?_, trivial, rfl, fun aa ww ll hh => ?_, ?_⟩
        rotate_left
        · have e2 := (hh.old 2 (by kernel_rfl)).trans (evalO rfl)
          simp only [nthO] at e2
          refine out_val (wanted_none rfl) ?_
          rw [ex_moveO (by first | exact .inl rfl | exact .inr rfl) e2]
        refine ⟨.eq (.bool r), trivial, rfl, fun aa ww ll hh => ?_, ?_⟩
        · have e40 := hh.get 4 2 (by kernel_rfl) rfl rfl rfl
          have e41 := hh.get 5 1 (by kernel_rfl) rfl rfl rfl
          have e42 := hh.get 6 0 (by kernel_rfl) rfl rfl rfl
          have ef : ∀ f, aa.eval (.func f) = .func (.func f) #[] #[] := fun _ => rfl
          refine out_call_eq (wanted_none rfl) ?_ (HMR.out ww (HBY.out.trans (hh.inv.mono HBY.out.size)))
          clear hh
          generalize aa.eval = ev at e40 e41 e42 ef ⊢
          go_simp
        refine ⟨.eq ?_, trivial, rfl, fun aa ww ll hh => ?_, ?_⟩
        rotate_left
        · have e39 := hh.get 3 4 (by kernel_rfl) rfl rfl rfl
          have e43 := hh.get 7 0 (by kernel_rfl) rfl rfl rfl
          refine out_val (wanted_none rfl) ?_
          clear hh
          generalize aa.eval = ev at e39 e43 ⊢
          go_simp
          try rfl
        intro ll w2 hS hok
        clear hok
        simp only [List.reverse_cons, List.reverse_nil, List.nil_append, List.cons_append, layO, Out.val, Act.put, List.setIfInBounds_toArray, List.set_cons_zero, List.set_cons_succ]
        have HW2 : Hid (Below X.heap.size X w2) := HW.out.trans ((HBY.out.trans (hS.mono HBY.out.size)).mono HW.out.size)
        clear hS HBY HCL
        go_wp2_with fail
        go_roundw
        case rel => exact ⟨k + 1, by omega, by go_num, HW2⟩
        case measure => simp [intOf]; omega
      · obtain rfl : k = n := by omega
        clear hbw
        go_wp2_with fail
        refine (HOR.out _ (HX.out _ HW.out).2.1).mono ?_
        rintro e w2 ⟨v, xs, rfl, hx, ho, hb2⟩
        obtain ⟨xa, xc, rfl, xc1, xc2, -⟩ := hx.shape
        have HX1 := Lib.hid hx
        have HO1 := Lib.hid ho
        have HB2 : Hid (Below X.heap.size X w2) := HW.out.trans (hb2.mono HW.out.size)
        clear hx ho hb2
        go_wp2_with fail
        refine (HRO.out _ (HX.out _ HB2.out).2.1).mono ?_
        rintro e w3 ⟨v, ys, rfl, hy, ho, hb3⟩
        obtain rfl : xs = ys := HO1.out.unique ho
        obtain ⟨ya, yc, rfl, yc1, yc2, -⟩ := hy.shape
        have HX2 := Lib.hid (HX1.out.below hb3)
        have HX3 := Lib.hid hy
        have HB3 : Hid (Below X.heap.size X w3) := HB2.out.trans (hb3.mono HB2.out.size)
        have hx40 : xs.length ≤ 40 := by have := HO1.out.len; have := sel_len l tab l.length; have := HN.out; omega
        clear hy ho hb3 HX1 HB2
        obtain ⟨m, hm⟩ : ∃ m, m = xs.length := ⟨_, rfl⟩
        rw [← hm] at xc1 yc1 hx40 HX2 HX3 ⊢
        have HM := Lib.hid hm
        have hxz : (m : Int) ≤ (xc : Int) := by omega
        have hyz : (m : Int) ≤ (yc : Int) := by omega
        clear hm
        go_wp2_with fail
        refine (HCH.out _ (HX.out _ HB3.out).2.1).mono ?_
        rintro e w4 ⟨c, rfl, hc1, hb4⟩
        have HBE := Lib.hid hc1
        have HB4 : Hid (Below X.heap.size X w4) := HB3.out.trans (hb4.mono HB3.out.size)
        have HX4 := Lib.hid (HX2.out.below hb4)
        have HX5 := Lib.hid (HX3.out.below hb4)
        clear hc1 hb4 HX2 HX3 HB3
        go_wp2_with fail
        refine (HRC.out _ (HX.out _ HB4.out).2.1).mono ?_
        rintro e w5 ⟨c', rfl, hc2', hb5⟩
        obtain rfl : c = c' := HBE.out.unique hc2'
        have HB5 : Hid (Below X.heap.size X w5) := HB4.out.trans (hb5.mono HB4.out.size)
        have HX6 := Lib.hid (HX4.out.below hb5)
        have HX7 := Lib.hid (HX5.out.below hb5)
        clear hc2' hb5 HX4 HX5 HB4 HBE
        go_wp2_with fail
        go_loopw [13, 70] (fun u i wr => ∃ k : Nat, k ≤ m ∧ i = .int .i64 k ∧ Hid (Below w5.heap.size w5 wr)) (fun _ i _ => m - (intOf i).toNat)
        case atStart => exact ⟨0, Nat.zero_le _, rfl, Below.refl _ _⟩
        case round =>
          obtain ⟨k2, hk2, rfl, HW5⟩ := hrel
          by_cases hlt2 : k2 < m
          · obtain ⟨_, _, ee, -, -, h4⟩ := HX6.out
            simp only [Value.slice.injEq] at ee
            obtain ⟨rfl, -, -⟩ := ee
            obtain ⟨xb, xo, rfl, hxb, hxe⟩ := h4 (by have := HM.out; omega)
            obtain ⟨_, _, ee, -, -, k4⟩ := HX7.out
            simp only [Value.slice.injEq] at ee
            obtain ⟨rfl, -, -⟩ := ee
            obtain ⟨yb, yo, rfl, hyb, hye⟩ := k4 (by have := HM.out; omega)
            have u0 := (HW5.out.cell (p := ⟨xb, xo + k2, none⟩) hxb).trans (hxe k2 (by have := HM.out; omega))
            have v0 := (HW5.out.cell (p := ⟨yb, yo + k2, none⟩) hyb).trans (hye k2 (by have := HM.out; omega))
            generalize xs.getD k2 0 = z at u0 v0
            have z1 : (k2 : Int) < (m : Int) := by omega
            have z0 : (0 : Int) ≤ (k2 : Int) := by omega
            have HW6 : ∀ j, Hid (Below w5.heap.size w5 (wr.drewN j)) := fun j => below_drewN HW5.out j
            clear hxe hye h4 k4
            go_wp2_with fail
            go_quiet (fail)
            go_wp2_with fail
            go_roundw
            case rel => exact ⟨k2 + 1, by omega, by go_num, HW6 _⟩
            case measure => simp [intOf]; omega
          · obtain rfl : m = k2 := by omega
            have HB6 : Hid (Below X.heap.size X wr) := HB5.out.trans (HW5.out.mono HB5.out.size)
            obtain ⟨⟨c0, c1⟩, -, hs1⟩ := HX.out _ HB6.out
            clear HW5 HX6 HX7 HB5
            go_wp2_with fail
            refine (HLO.out _ (HX.out _ HB6.out).2.1).mono ?_
            rintro e w6 ⟨a, g, v, rfl, hlook, hown, hb6⟩
            obtain ⟨vp, vc, rfl⟩ := hown.shape
            have HLK := Lib.hid hlook
            have HOW := Lib.hid hown
            have HB7 : Hid (Below X.heap.size X w6) := HB6.out.trans (hb6.mono HB6.out.size)
            have HB67 := Lib.hid hb6
            obtain ⟨wq, hwq⟩ : ∃ wq : World, wq = wr := ⟨_, rfl⟩
            clear hlook hown hb6 c0 c1 hs1
            go_wp2_with fail
            have hbv : Below w6.heap.size w6 (w6.alloc (.cells #[.int .i64 a, .slice vp g.length vc] 56)) := (by repeat (first | exact Below.refl _ _ | assumption | refine Below.drew ?_ | refine Below.alloc ?_ (by first | omega | (simp <;> omega)) _ | refine Below.setCell ?_ (by first | omega | (simp <;> omega)) _ | refine Below.trans ?_ (Below.mono (by assumption) (by first | omega | (simp <;> omega)))))
            generalize hV : w6.alloc (.cells #[.int .i64 a, .slice vp g.length vc] 56) = V at hbv
            have v0 : V.cell? ⟨w6.heap.size, 0, none⟩ = some (.int .i64 a) := by rw [← hV]; simp [go_sem]
            have v1 : V.cell? ⟨w6.heap.size, 1, none⟩ = some (.slice vp g.length vc) := by rw [← hV]; simp [go_sem]
            have vs : w6.heap.size < V.heap.size := by rw [← hV]; simp
            have HBV : Hid (Below X.heap.size X V) := HB7.out.trans (hbv.mono HB7.out.size)
            have HBQ : Hid (Below wr.heap.size wr V) := HB67.out.trans (hbv.mono HB67.out.size)
            have HEU : Hid (EU wr.heap.size w6.heap.size vp g.length V) := (EU.of HOW.out).below (Nat.le_refl _) hbv
            have HRW : Hid (NRow V (.slice vp g.length vc) g) := HOW.out.row.below keepN hbv
            obtain ⟨G, hG⟩ : ∃ G, G = w6.heap.size := ⟨_, rfl⟩
            rw [← hG] at v0 v1 vs HEU ⊢
            have HCL : Hid (∀ W, Below V.heap.size V W → W.cell? ⟨N, 0, none⟩ = some (.int .i64 a0) ∧ W.cell? ⟨N, 1, none⟩ = some (.slice ga g0.length gc) ∧ W.cell? ⟨G, 0, none⟩ = some (.int .i64 a) ∧ W.cell? ⟨G, 1, none⟩ = some (.slice vp g.length vc)) := fun W hW =>
              ⟨(HX.out _ (HBV.out.trans (hW.mono HBV.out.size))).1.1, (HX.out _ (HBV.out.trans (hW.mono HBV.out.size))).1.2, (hW.cell (cell_there v0).1).trans v0, (hW.cell (cell_there v1).1).trans v1⟩
            have HGL : Hid (g.length ≤ 1000000) := by
              obtain ⟨c, hc, -, rfl⟩ := HLK.out
              have := HG10.out
              show _ ≤ _
              by_cases h : c < 0
              · rw [if_pos h]; omega
              · rw [if_neg h]
                rcases hc with ⟨e, -⟩ | ⟨q1, q2, -⟩
                · omega
                · obtain ⟨j, rfl⟩ : ∃ j : Nat, c = (j : Int) := ⟨c.toNat, by omega⟩
                  have := (HF.out j (by omega)).2
                  omega
            have HRL2 : Hid (∀ W, Below w.heap.size w W → ∀ ll, Calls Try.prog 23 #[.slice la k lc, .int .i64 tab, .slice ka ks.length kc, .agg #[.int .i64 a0, .slice ga g0.length gc]] W fun e w' => ∃ v, e = .returned v ∧ (Out.rel (RunIs a g)).ok ll w' v ∧ Below W.heap.size W w') := fun W hW ll => (HRL.out W hW).mono fun e w' h => h.is fun b k h2 => h2.unique HLK.out
            have HLO2 : Hid (∀ W, Below w.heap.size w W → ∀ ll, Calls Try.prog 21 #[.slice la k lc, .int .i64 tab, .slice ka ks.length kc, .agg #[.int .i64 a0, .slice ga g0.length gc]] W fun e w' => ∃ v, e = .returned v ∧ (Out.rel (RunIs a g)).ok ll w' v ∧ Below W.heap.size W w') := fun W hW ll => (HLO.out W hW).mono fun e w' h => h.is fun b k h2 => h2.unique HLK.out
            obtain ⟨B0, hB0⟩ : ∃ B0, B0 = wr.heap.size := ⟨_, rfl⟩
            clear hV hbv hG hwq HB67 HOW
            refine region_outS (by kernel_rfl) (fun Wk => Below V.heap.size V Wk) (fun w1 w2 h1 h2 => h1.trans (h2.mono h1.size)) (by kernel_rfl) (Below.drew (Below.refl _ _)) ?_
            refine ⟨.eq ?_, trivial, rfl, fun aa ww ll hh => ?_, ?_⟩
            rotate_left
            · have e14 := (hh.old 14 (by kernel_rfl)).trans (evalO rfl)
              simp only [nthO] at e14
              obtain ⟨y0, y1, y2, y3⟩ := HCL.out ww hh.inv
              refine out_val (wanted_none rfl) ?_
              clear hh
              generalize aa.eval = ev at e14 ⊢
              go_simp
              try rfl
            refine ⟨.eq ?_, trivial, rfl, fun aa ww ll hh => ?_, ?_⟩
            rotate_left
            · have e0 := (hh.old 0 (by kernel_rfl)).trans (evalO rfl)
              simp only [nthO] at e0
              refine out_val (wanted_none rfl) ?_
              rw [ex_moveO (by first | exact .inl rfl | exact .inr rfl) e0]
            refine ⟨.eq ?_, trivial, rfl, fun aa ww ll hh => ?_, ?_⟩
            rotate_left
            · have e1 := (hh.old 1 (by kernel_rfl)).trans (evalO rfl)
              simp only [nthO] at e1
              refine out_val (wanted_none rfl) ?_
              rw [ex_moveO (by first | exact .inl rfl | exact .inr rfl) e1]
            refine ⟨.eq ?_, trivial, rfl, fun aa ww ll hh => ?_, ?_⟩
            rotate_left
            · have e2 := (hh.old 2 (by kernel_rfl)).trans (evalO rfl)
              simp only [nthO] at e2
              refine out_val (wanted_none rfl) ?_
              rw [ex_moveO (by first | exact .inl rfl | exact .inr rfl) e2]
            refine ⟨.eq ?_, trivial, rfl, fun aa ww ll hh => ?_, ?_⟩
            rotate_left
            · have e7 := (hh.old 7 (by kernel_rfl)).trans (evalO rfl)
              simp only [nthO] at e7
              obtain ⟨y0, y1, y2, y3⟩ := HCL.out ww hh.inv
              refine out_val (wanted_none rfl) ?_
              clear hh
              generalize aa.eval = ev at e7 ⊢
              go_simp
              try rfl
            refine ⟨.rel (RunIs a g), RunIs.keeps a g, rfl, fun aa ww ll hh => ?_, ?_⟩
            · have e89 := hh.get 1 3 (by kernel_rfl) rfl rfl rfl
              have e90 := hh.get 2 2 (by kernel_rfl) rfl rfl rfl
              have e91 := hh.get 3 1 (by kernel_rfl) rfl rfl rfl
              have e92 := hh.get 4 0 (by kernel_rfl) rfl rfl rfl
              have ef : ∀ f, aa.eval (.func f) = .func (.func f) #[] #[] := fun _ => rfl
              refine out_call (wanted_none rfl) ?_ (HRL2.out ww (HX.out _ (HBV.out.trans (hh.inv.mono HBV.out.size))).2.1 ll)
              clear hh
              generalize aa.eval = ev at e89 e90 e91 e92 ef ⊢
              go_simp
            refine ⟨.eq (.bool true), trivial, rfl, fun aa ww ll hh => ?_, ?_⟩
            · have e88 := hh.get 0 5 (by kernel_rfl) rfl rfl rfl
              obtain ⟨x93, e93, -, p93⟩ := hh.got 5 0 (by kernel_rfl) rfl rfl rfl
              have ef : ∀ f, aa.eval (.func f) = .func (.func f) #[] #[] := fun _ => rfl
              obtain ⟨qp, qn, qc, rfl, hq⟩ := p93
              refine out_call_eq (wanted_none rfl) ?_ (refSame_any a g _ _ ww (HRW.out.below keepN hh.inv) hq HGL.out)
              clear hh
              generalize aa.eval = ev at e88 e93 ef ⊢
              go_simp
            refine ⟨.eq ?_, trivial, rfl, fun aa ww ll hh => ?_, ?_⟩
            rotate_left
            · have e94 := hh.get 6 0 (by kernel_rfl) rfl rfl rfl
              refine out_val (wanted_none rfl) ?_
              clear hh
              generalize aa.eval = ev at e94 ⊢
              go_simp
              try rfl
            intro ll w7 hS hok
            clear hok
            simp only [List.reverse_cons, List.reverse_nil, List.nil_append, List.cons_append, layO, Out.val, Act.put, List.setIfInBounds_toArray, List.set_cons_zero, List.set_cons_succ]
            have HB8 := Lib.hid hS
            have w1c := (hS.cell (cell_there v1).1).trans v1
            have HEU2 : Hid (EU wr.heap.size G vp g.length w7) := HEU.out.below (by omega) hS
            have HBQ2 : Hid (Below wr.heap.size wr w7) := HBQ.out.trans (hS.mono HBQ.out.size)
            have hs7 : G < w7.heap.size := by have := hS.size; omega
            obtain ⟨wL, hwL⟩ : ∃ wL : World, wL = wr := ⟨_, rfl⟩
            rw [← hwL] at HEU2 HBQ2 HB6
            clear hS v0 v1 vs HB8 HCL HBQ HEU HRW hB0 hwL
            have hgc : (g.length : Int) ≤ 1000000 := by have := HGL.out; omega
            go_wp2_with fail
            go_loopw [15, 99] (fun u i wr => ∃ k : Nat, k ≤ g.length ∧ i = .int .i64 k ∧ wr.cell? ⟨G, 1, none⟩ = some (.slice vp g.length vc) ∧ Hid (EU wL.heap.size G vp g.length wr) ∧ Hid (Below wL.heap.size wL wr)) (fun _ i _ => g.length - (intOf i).toNat)
            case atStart => exact ⟨0, Nat.zero_le _, rfl, w1c, HEU2.out, HBQ2.out⟩
            case round =>
              obtain ⟨k3, hk3, rfl, hcg, HEW, HWL⟩ := hrel
              clear w1c
              by_cases hlt3 : k3 < g.length
              · obtain ⟨b, rfl, hb1, hb2, ⟨x, hcx⟩, hfz⟩ := HEW.out k3 hlt3
                have hbG : b ≠ G := by omega
                have z1 : (k3 : Int) < (g.length : Int) := by omega
                have HEW2 : ∀ y, Hid (EU wL.heap.size G (some ⟨b, 0, none⟩) g.length (wr.setCell ⟨b, k3 * 2 + 1, none⟩ (.int .u64 y))) := fun y => HEW.out.set hlt3
                have HWL2 : ∀ y, Hid (Below wL.heap.size wL (wr.setCell ⟨b, k3 * 2 + 1, none⟩ (.int .u64 y))) := fun y => HWL.out.setCell hb1 _
                have hcg2 : ∀ y, Hid ((wr.setCell ⟨b, k3 * 2 + 1, none⟩ (.int .u64 y)).cell? ⟨G, 1, none⟩ = some (.slice (some ⟨b, 0, none⟩) g.length vc)) := fun y => by
                  show _ = _
                  rw [World.cell?_setCell_other _ _ _ _ (by intro q; simp only [Addr.mk.injEq] at q; exact hbG q.1)]
                  exact hcg
                have HB12 := Lib.hid (And.intro hb1 hb2)
                clear hb1 hb2
                go_wp2_with fail
                go_roundw
                case rel => exact ⟨k3 + 1, by omega, by go_num, (hcg2 _).out, HEW2 _, HWL2 _⟩
                case measure => simp [intOf]; omega
              · obtain rfl : k3 = g.length := by omega
                have HBF : Hid (Below X.heap.size X wr) := HB6.out.trans (HWL.out.mono HB6.out.size)
                have HCL : Hid (∀ W, Below wr.heap.size wr W → (W.cell? ⟨N, 0, none⟩ = some (.int .i64 a0) ∧ W.cell? ⟨N, 1, none⟩ = some (.slice ga g0.length gc)) ∧ Below w.heap.size w W) := fun W hW => ⟨(HX.out _ (HBF.out.trans (hW.mono HBF.out.size))).1, (HX.out _ (HBF.out.trans (hW.mono HBF.out.size))).2.1⟩
                clear HWL HEW hcg
                go_wp2_with fail
                refine region_outS (by kernel_rfl) (fun Wk => Below wr.heap.size wr Wk) (fun w1 w2 h1 h2 => h1.trans (h2.mono h1.size)) (by kernel_rfl) (Below.drew (Below.refl _ _)) ?_
                refine ⟨.eq ?_, trivial, rfl, fun aa ww ll hh => ?_, ?_⟩
                rotate_left
                · have e0 := (hh.old 0 (by kernel_rfl)).trans (evalO rfl)
                  simp only [nthO] at e0
                  refine out_val (wanted_none rfl) ?_
                  rw [ex_moveO (by first | exact .inl rfl | exact .inr rfl) e0]
                refine ⟨.eq ?_, trivial, rfl, fun aa ww ll hh => ?_, ?_⟩
                rotate_left
                · have e1 := (hh.old 1 (by kernel_rfl)).trans (evalO rfl)
                  simp only [nthO] at e1
                  refine out_val (wanted_none rfl) ?_
                  rw [ex_moveO (by first | exact .inl rfl | exact .inr rfl) e1]
                refine ⟨.eq ?_, trivial, rfl, fun aa ww ll hh => ?_, ?_⟩
                rotate_left
                · have e2 := (hh.old 2 (by kernel_rfl)).trans (evalO rfl)
                  simp only [nthO] at e2
                  refine out_val (wanted_none rfl) ?_
                  rw [ex_moveO (by first | exact .inl rfl | exact .inr rfl) e2]
                refine ⟨.eq ?_, trivial, rfl, fun aa ww ll hh => ?_, ?_⟩
                rotate_left
                · have e7 := (hh.old 7 (by kernel_rfl)).trans (evalO rfl)
                  simp only [nthO] at e7
                  obtain ⟨⟨y0, y1⟩, -⟩ := HCL.out ww hh.inv
                  refine out_val (wanted_none rfl) ?_
                  clear hh
                  generalize aa.eval = ev at e7 ⊢
                  go_simp
                  try rfl
                refine ⟨.rel (RunIs a g), RunIs.keeps a g, rfl, fun aa ww ll hh => ?_, ?_⟩
                · have e112 := hh.get 0 3 (by kernel_rfl) rfl rfl rfl
                  have e113 := hh.get 1 2 (by kernel_rfl) rfl rfl rfl
                  have e114 := hh.get 2 1 (by kernel_rfl) rfl rfl rfl
                  have e115 := hh.get 3 0 (by kernel_rfl) rfl rfl rfl
                  have ef : ∀ f, aa.eval (.func f) = .func (.func f) #[] #[] := fun _ => rfl
                  refine out_call (wanted_none rfl) ?_ (HLO2.out ww (HCL.out ww hh.inv).2 ll)
                  clear hh
                  generalize aa.eval = ev at e112 e113 e114 e115 ef ⊢
                  go_simp
                refine ⟨.eq ?_, trivial, rfl, fun aa ww ll hh => ?_, ?_⟩
                rotate_left
                · have e0 := (hh.old 0 (by kernel_rfl)).trans (evalO rfl)
                  simp only [nthO] at e0
                  refine out_val (wanted_none rfl) ?_
                  rw [ex_moveO (by first | exact .inl rfl | exact .inr rfl) e0]
                refine ⟨.eq ?_, trivial, rfl, fun aa ww ll hh => ?_, ?_⟩
                rotate_left
                · have e1 := (hh.old 1 (by kernel_rfl)).trans (evalO rfl)
                  simp only [nthO] at e1
                  refine out_val (wanted_none rfl) ?_
                  rw [ex_moveO (by first | exact .inl rfl | exact .inr rfl) e1]
                refine ⟨.eq ?_, trivial, rfl, fun aa ww ll hh => ?_, ?_⟩
                rotate_left
                · have e2 := (hh.old 2 (by kernel_rfl)).trans (evalO rfl)
                  simp only [nthO] at e2
                  refine out_val (wanted_none rfl) ?_
                  rw [ex_moveO (by first | exact .inl rfl | exact .inr rfl) e2]
                refine ⟨.eq ?_, trivial, rfl, fun aa ww ll hh => ?_, ?_⟩
                rotate_left
                · have e7 := (hh.old 7 (by kernel_rfl)).trans (evalO rfl)
                  simp only [nthO] at e7
                  obtain ⟨⟨y0, y1⟩, -⟩ := HCL.out ww hh.inv
                  refine out_val (wanted_none rfl) ?_
                  clear hh
                  generalize aa.eval = ev at e7 ⊢
                  go_simp
                  try rfl
                refine ⟨.rel (RunIs a g), RunIs.keeps a g, rfl, fun aa ww ll hh => ?_, ?_⟩
                · have e117 := hh.get 5 3 (by kernel_rfl) rfl rfl rfl
                  have e118 := hh.get 6 2 (by kernel_rfl) rfl rfl rfl
                  have e119 := hh.get 7 1 (by kernel_rfl) rfl rfl rfl
                  have e120 := hh.get 8 0 (by kernel_rfl) rfl rfl rfl
                  have ef : ∀ f, aa.eval (.func f) = .func (.func f) #[] #[] := fun _ => rfl
                  refine out_call (wanted_none rfl) ?_ (HRL2.out ww (HCL.out ww hh.inv).2 ll)
                  clear hh
                  generalize aa.eval = ev at e117 e118 e119 e120 ef ⊢
                  go_simp
                refine ⟨.eq (.bool true), trivial, rfl, fun aa ww ll hh => ?_, ?_⟩
                · obtain ⟨x116, e116, -, p116⟩ := hh.got 4 5 (by kernel_rfl) rfl rfl rfl
                  obtain ⟨x121, e121, -, p121⟩ := hh.got 9 0 (by kernel_rfl) rfl rfl rfl
                  have ef : ∀ f, aa.eval (.func f) = .func (.func f) #[] #[] := fun _ => rfl
                  obtain ⟨qp, qn, qc, rfl, hq⟩ := p116
                  obtain ⟨rp, rn, rc, rfl, hr⟩ := p121
                  refine out_call_eq (wanted_none rfl) ?_ (refSame_any a g _ _ ww hq hr HGL.out)
                  clear hh
                  generalize aa.eval = ev at e116 e121 ef ⊢
                  go_simp
                refine ⟨.eq ?_, trivial, rfl, fun aa ww ll hh => ?_, ?_⟩
                rotate_left
                · have e122 := hh.get 10 0 (by kernel_rfl) rfl rfl rfl
                  refine out_val (wanted_none rfl) ?_
                  rw [ex_moveO (by first | exact .inl rfl | exact .inr rfl) e122]
                refine ⟨.eq (.bool true), trivial, rfl, fun aa ww ll hh => ?_, ?_⟩
                · have ef : ∀ f, aa.eval (.func f) = .func (.func f) #[] #[] := fun _ => rfl
                  refine out_call_eq (hh.go 0 rfl (by kernel_rfl) rfl rfl) ?_ (HKN.out ww)
                  clear hh
                  generalize aa.eval = ev at ef ⊢
                  go_simp
                refine ⟨.eq ?_, trivial, rfl, fun aa ww ll hh => ?_, ?_⟩
                rotate_left
                · have e123 := hh.get 11 1 (by kernel_rfl) rfl rfl rfl
                  have e124 := hh.get 12 0 (by kernel_rfl) rfl rfl rfl
                  have ec : ∀ v, aa.eval (.const v) = v := fun _ => rfl
                  refine out_val (wanted_none rfl) ?_
                  clear hh
                  generalize aa.eval = ev at e123 e124 ec ⊢
                  go_simp
                  try rfl
                refine ⟨.eq ?_, trivial, rfl, fun aa ww ll hh => ?_, ?_⟩
                rotate_left
                · have e125 := hh.get 13 0 (by kernel_rfl) rfl rfl rfl
                  refine out_val (wanted_none rfl) ?_
                  rw [ex_moveO (by first | exact .inl rfl | exact .inr rfl) e125]
                intro ll w8 hS hok
                clear hok
                simp only [List.reverse_cons, List.reverse_nil, List.nil_append, List.cons_append, layO, Out.val, Act.put, List.setIfInBounds_toArray, List.set_cons_zero, List.set_cons_succ]
                have HB9 : Hid (Below w.heap.size w w8) := (HX.out _ (HBF.out.trans (hS.mono HBF.out.size))).2.1
                clear hS HCL
                go_wp2_with fail
                go_ret
                exact ⟨rfl, HB9.out⟩
  · go_wp2_with fail
    refine (HKN.out _).mono ?_
    rintro e w2 ⟨rfl, hb2⟩
    have HB2 := Lib.hid (HB1.out.trans (hb2.mono HB1.out.size))
    clear hb2
    go_wp2_with fail
    go_ret
    exact ⟨rfl, (HX.out _ HB2.out).2.1⟩

end Go.Proofs.Ytnknpgfconfgjaa
