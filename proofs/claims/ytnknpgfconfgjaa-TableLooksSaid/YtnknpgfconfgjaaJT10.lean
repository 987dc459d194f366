/-
  Lemmas, joined: TabN, TabO, TabQ.
-/
import Derived.Test.YtnknpgfconfgjaaJT09
import Derived.LoopN
/-
  The document's Lookup; Same; great.
-/
namespace Go.Proofs.Ytnknpgfconfgjaa
open Go.RowKit Stab

set_option maxRecDepth 100000 in
set_option maxHeartbeats 3200000 in
theorem refLookup_any (l : List Ent) (tab : Int) (ks : List Nat) (a0 : Int) (g0 : List Nat) (lv kv gv : Value) (w : World) (hl : ERow w lv l) (hk : NRow w kv ks) (hg : NRow w gv g0) (hn : l.length ≤ 40) (hf : Few l) :
    Calls Try.prog 23 #[lv, .int .i64 tab, kv, .agg #[.int .i64 a0, gv]] w (RetRun w (Look l tab ks a0 g0)) := by
  obtain ⟨la, lc, rfl, hc1, hc2⟩ := hl.shape
  obtain ⟨ka, kc, rfl, kc1, kc2⟩ := hk.shape
  obtain ⟨ga, gc, rfl, gc1, gc2⟩ := hg.shape
  have HC : Hid (∀ W, Below w.heap.size w W → Calls Try.prog 20 #[.slice la l.length lc, .int .i64 tab, .slice ka ks.length kc] W (RetBest W l tab ks)) := fun W hW => refChoose_any l tab ks _ _ W (hl.below keepE hW) (hk.below keepN hW) hn hf
  have HL := Lib.hid hl
  have HG := Lib.hid hg
  clear hl hk hg hf
  go_enter Try.func23, Try.ntmps23
  go_wp2_with fail
  have hb0 : Below w.heap.size w ((w.alloc (.cells #[.int .i64 a0, .slice ga g0.length gc] 56)).alloc (.cells #[.int .i64 0, .slice none 0 0] 56)) := (by repeat (first | exact Below.refl _ _ | assumption | refine Below.drew ?_ | refine Below.alloc ?_ (by first | omega | (simp <;> omega)) _ | refine Below.setCell ?_ (by first | omega | (simp <;> omega)) _ | refine Below.trans ?_ (Below.mono (by assumption) (by first | omega | (simp <;> omega)))))
  generalize hX : (w.alloc (.cells #[.int .i64 a0, .slice ga g0.length gc] 56)).alloc (.cells #[.int .i64 0, .slice none 0 0] 56) = X at hb0
  have x0 : X.cell? ⟨w.heap.size + 1, 0, none⟩ = some (.int .i64 0) := by rw [← hX]; simp [go_sem]
  have x1 : X.cell? ⟨w.heap.size + 1, 1, none⟩ = some (.slice none 0 0) := by rw [← hX]; simp [go_sem]
  have x2 : X.cell? ⟨w.heap.size, 0, none⟩ = some (.int .i64 a0) := by rw [← hX]; simp [go_sem]
  have x3 : X.cell? ⟨w.heap.size, 1, none⟩ = some (.slice ga g0.length gc) := by rw [← hX]; simp [go_sem]
  have xs : X.heap.size = w.heap.size + 1 + 1 := by rw [← hX]; simp
  have xf : ∀ j, X.frozen? ⟨w.heap.size + 1, j, none⟩ = false := fun j => by rw [← hX]; simp [go_sem]
  have HCX := Lib.hid (HC.out X hb0)
  refine HCX.out.mono ?_
  rintro e w1 ⟨c, rfl, hbest, hb1⟩
  have y0 := (hb1.cell (p := ⟨w.heap.size + 1, 0, none⟩) (by show w.heap.size + 1 < _; omega)).trans x0
  have y1 := (hb1.cell (p := ⟨w.heap.size + 1, 1, none⟩) (by show w.heap.size + 1 < _; omega)).trans x1
  have y2 := (hb1.cell (p := ⟨w.heap.size, 0, none⟩) (by show w.heap.size < _; omega)).trans x2
  have y3 := (hb1.cell (p := ⟨w.heap.size, 1, none⟩) (by show w.heap.size < _; omega)).trans x3
  have f0 := (hb1.frozen (p := ⟨w.heap.size + 1, 0, none⟩) (by show w.heap.size + 1 < _; omega)).trans (xf 0)
  have f1 := (hb1.frozen (p := ⟨w.heap.size + 1, 1, none⟩) (by show w.heap.size + 1 < _; omega)).trans (xf 1)
  have HB := Lib.hid hbest
  have HW1 := Lib.hid (hb0.trans (hb1.mono hb0.size))
  obtain ⟨N, hN⟩ : ∃ N, N = w.heap.size := ⟨_, rfl⟩
  have HNN := Lib.hid hN
  rw [← hN] at y0 y1 y2 y3 f0 f1 ⊢
  clear hX x0 x1 x2 x3 xs xf HC hb0 HCX hbest hb1 hN
  by_cases hc : c < 0
  · go_wp2_with fail
    refine bodyPost_ret (v := .agg #[.int .i64 a0, .slice ga g0.length gc]) (by simp [results, Try.results23, go_sem, y0, y1]) rfl ?_
    have hbz := (HW1.out.setCell (p := ⟨N + 1, 0, none⟩) (by have := HNN.out; show _ ≤ N + 1; omega) (.int .i64 a0)).setCell (p := ⟨N + 1, 1, none⟩) (by have := HNN.out; show _ ≤ N + 1; omega) (.slice ga g0.length gc)
    exact ⟨a0, g0, _, rfl, ⟨c, HB.out, by rw [if_pos hc], by rw [if_pos hc]⟩, HG.out.below keepN hbz, hbz⟩
  · obtain ⟨y, rfl⟩ : ∃ y : Nat, c = (y : Int) := ⟨c.toNat, by omega⟩
    have hyl : y < l.length := by
      rcases HB.out with ⟨h, -⟩ | ⟨-, h, -⟩
      · omega
      · omega
    obtain ⟨lb, lo, lc2, he2, hlb, hej⟩ := HL.out.at (eAt_nat l y hyl)
    simp only [Value.slice.injEq] at he2
    obtain ⟨rfl, -, -⟩ := he2
    obtain ⟨p1, n1, c1, r1, m1, d1, a0', a1', a2', a3', a4, a5, hp, hr⟩ := hej.six
    clear a0' a1' a2' a3' hp
    have b4 := (HW1.out.cell (p := ⟨lb, lo + y * 6 + 4, none⟩) hlb).trans a4
    have b5 := (HW1.out.cell (p := ⟨lb, lo + y * 6 + 5, none⟩) hlb).trans a5
    have hne1 : lb ≠ N + 1 := by have := HNN.out; omega
    have HR := Lib.hid hr
    have HL2 : Hid (Look l tab ks a0 g0 (eAt l (y : Int)).act (eAt l (y : Int)).args) := ⟨(y : Int), HB.out, by rw [if_neg (by omega)], by rw [if_neg (by omega)]⟩
    clear a4 a5 hej hr
    generalize (eAt l (y : Int)).act = act at *
    generalize (eAt l (y : Int)).args = g at *
    have z1 : (y : Int) < (l.length : Int) := by omega
    go_wp2_with fail
    refine bodyPost_ret (v := .agg #[.int .i64 act, .slice r1 m1 d1]) (by simp [results, Try.results23, go_sem, y0, y1]) rfl ?_
    have hbz := (HW1.out.setCell (p := ⟨N + 1, 0, none⟩) (by have := HNN.out; show _ ≤ N + 1; omega) (.int .i64 act)).setCell (p := ⟨N + 1, 1, none⟩) (by have := HNN.out; show _ ≤ N + 1; omega) (.slice r1 m1 d1)
    exact ⟨act, g, _, rfl, HL2.out, HR.out.below keepN hbz, hbz⟩

set_option maxRecDepth 100000 in
set_option maxHeartbeats 3200000 in
theorem refSame_any (a : Int) (g : List Nat) (v u : Value) (w : World) (hv : NRow w v g) (hu : NRow w u g) (hgl : g.length ≤ 1000000) :
    Calls Try.prog 22 #[.agg #[.int .i64 a, v], .agg #[.int .i64 a, u]] w fun e w' => e = .returned (.bool true) ∧ Below w.heap.size w w' := by
  obtain ⟨pa, ca, rfl, h1, h2⟩ := hv.shape
  obtain ⟨pb, cb, rfl, k1, k2⟩ := hu.shape
  have HV := Lib.hid hv
  have HU := Lib.hid hu
  obtain ⟨n, hn⟩ : ∃ n, n = g.length := ⟨_, rfl⟩
  rw [← hn] at hgl HV HU h1 k1 ⊢
  have HN := Lib.hid hn
  clear hv hu hn
  go_enter Try.func22, Try.ntmps22
  go_wp2_with fail
  have hb0 : Below w.heap.size w ((w.alloc (.cells #[.int .i64 a, .slice pa n ca] 56)).alloc (.cells #[.int .i64 a, .slice pb n cb] 56)) := (by repeat (first | exact Below.refl _ _ | assumption | refine Below.drew ?_ | refine Below.alloc ?_ (by first | omega | (simp <;> omega)) _ | refine Below.setCell ?_ (by first | omega | (simp <;> omega)) _ | refine Below.trans ?_ (Below.mono (by assumption) (by first | omega | (simp <;> omega)))))
  generalize hX : (w.alloc (.cells #[.int .i64 a, .slice pa n ca] 56)).alloc (.cells #[.int .i64 a, .slice pb n cb] 56) = X at hb0
  have x1 : X.cell? ⟨w.heap.size, 1, none⟩ = some (.slice pa n ca) := by rw [← hX]; simp [go_sem]
  have x3 : X.cell? ⟨w.heap.size + 1, 1, none⟩ = some (.slice pb n cb) := by rw [← hX]; simp [go_sem]
  have xs : X.heap.size = w.heap.size + 1 + 1 := by rw [← hX]; simp
  have HX : Hid (∀ W, Below X.heap.size X W → W.cell? ⟨w.heap.size, 1, none⟩ = some (.slice pa n ca) ∧ W.cell? ⟨w.heap.size + 1, 1, none⟩ = some (.slice pb n cb) ∧ Below w.heap.size w W) := fun W hW =>
    ⟨(hW.cell (p := ⟨w.heap.size, 1, none⟩) (by show w.heap.size < _; omega)).trans x1, (hW.cell (p := ⟨w.heap.size + 1, 1, none⟩) (by show w.heap.size + 1 < _; omega)).trans x3, hb0.trans (hW.mono hb0.size)⟩
  clear hX x1 x3 xs hb0
  have hcz : (n : Int) ≤ (ca : Int) := by omega
  have hcz2 : (n : Int) ≤ (cb : Int) := by omega
  go_loopw [5] (fun i wr => ∃ k : Nat, k ≤ n ∧ i = .int .i64 k ∧ Hid (Below X.heap.size X wr)) (fun i _ => n - (intOf i).toNat)
  case atStart => exact ⟨0, Nat.zero_le _, rfl, Below.refl _ _⟩
  case round =>
    obtain ⟨k, hk, rfl, HW⟩ := hrel
    obtain ⟨c1, c3, hbw⟩ := HX.out _ HW.out
    by_cases hlt : k < n
    · have hgk := List.getElem?_eq_getElem (show k < g.length by have := HN.out; omega)
      obtain ⟨ab, ao, ac', hae, hab, -, a0, a1⟩ := (HV.out.below keepN hbw).at hgk
      obtain ⟨bb, bo, bc', hbe, hbb, -, b0, b1⟩ := (HU.out.below keepN hbw).at hgk
      simp only [Value.slice.injEq] at hae hbe
      obtain ⟨rfl, -, -⟩ := hae
      obtain ⟨rfl, -, -⟩ := hbe
      obtain ⟨x, hx⟩ : ∃ x : Int, x = ((g[k]'(by have := HN.out; omega) / B : Nat) : Int) := ⟨_, rfl⟩
      obtain ⟨y, hy⟩ : ∃ y : Int, y = ((g[k]'(by have := HN.out; omega) % B : Nat) : Int) := ⟨_, rfl⟩
      rw [← hx] at a0 b0
      rw [← hy] at a1 b1
      have z1 : (k : Int) < (n : Int) := by omega
      have z0 : (0 : Int) ≤ (k : Int) := by omega
      clear hx hy hgk
      have HW2 : ∀ j, Hid (Below X.heap.size X (wr.drewN j)) := fun j => below_drewN HW.out j
      clear hbw
      go_wp2_with fail
      go_quiet (fail)
      go_wp2_with fail
      go_roundw
      case rel => exact ⟨k + 1, by omega, by go_num, HW2 _⟩
      case measure => simp [intOf]; omega
    · obtain rfl : k = n := by omega
      have HBW := Lib.hid hbw
      clear hbw
      go_wp2_with fail
      go_ret
      exact ⟨rfl, HBW.out⟩

end Go.Proofs.Ytnknpgfconfgjaa

/-
  great.
-/
namespace Go.Proofs.Ytnknpgfconfgjaa
open Go.RowKit Stab

def RetGreat (l : List Ent) (w : World) (e : Ending) (w' : World) : Prop := ∃ b, e = .returned (.bool b) ∧ (b = false → Few l ∧ l.length ≤ 40) ∧ Below w.heap.size w w'

set_option maxRecDepth 100000 in
set_option maxHeartbeats 1600000 in
theorem great_any (l : List Ent) (lv : Value) (w : World) (hl : ERow w lv l) : Calls Try.prog 13 #[lv] w (RetGreat l w) := by
  obtain ⟨la, lc, rfl, hc1, hc2⟩ := hl.shape
  have HL := Lib.hid hl
  obtain ⟨n, hnn⟩ : ∃ n, n = l.length := ⟨_, rfl⟩
  rw [← hnn] at hc1 HL ⊢
  have HN := Lib.hid hnn
  clear hl hnn
  unfold maxLen at hc2
  have hcz : (n : Int) ≤ (lc : Int) := by omega
  go_enter Try.func13, Try.ntmps13
  go_wp2_with fail
  go_loopw [4, 7] (fun u i wr => ∃ k : Nat, k ≤ n ∧ i = .int .i64 k ∧ Hid (∀ j, j < k → (eAt l (j : Int)).pats.length ≤ 10 ∧ (eAt l (j : Int)).args.length ≤ 10) ∧ Hid (Below w.heap.size w wr)) (fun _ i _ => n - (intOf i).toNat)
  case atStart => exact ⟨0, Nat.zero_le _, rfl, fun j h => absurd h (by omega), Below.refl _ _⟩
  case round =>
    obtain ⟨k, hk, rfl, HJ, HW⟩ := hrel
    by_cases hlt : k < n
    · obtain ⟨lb, lo, lc', he, hlb, hek⟩ := (HL.out.below keepE HW.out).at (eAt_nat l k (by have := HN.out; omega))
      simp only [Value.slice.injEq] at he
      obtain ⟨rfl, -, -⟩ := he
      obtain ⟨p1, n1, c1, r1, m1, d1, a0, a1, a2, a3, a4, a5, hp, hr⟩ := hek.six
      have hn1 : (eAt l (k : Int)).pats.length = n1 := by
        obtain ⟨_, _, e, -⟩ := hp.shape; cases e; rfl
      have hm1 : (eAt l (k : Int)).args.length = m1 := by
        obtain ⟨_, _, e, -⟩ := hr.shape; cases e; rfl
      have HNM := Lib.hid (And.intro hn1 hm1)
      have HW2 : ∀ o, Hid (Below w.heap.size w (wr.alloc o)) := fun o => HW.out.alloc HW.out.size o
      generalize (eAt l (k : Int)).tab = t1 at *
      generalize (eAt l (k : Int)).len = l1 at *
      generalize (eAt l (k : Int)).prio = q1 at *
      generalize (eAt l (k : Int)).act = s1 at *
      have z1 : (k : Int) < (n : Int) := by omega
      clear hek hp hr hn1 hm1
      by_cases hp1 : 10 < n1
      · have hd : decide ((10 : Int) < (n1 : Int)) = true := decide_eq_true (by omega)
        go_wp2_with fail
        go_ret
        exact ⟨true, rfl, (fun h => by cases h), (HW2 _).out⟩
      · by_cases hp2 : 10 < m1
        · go_wp2_with fail
          go_ret
          exact ⟨true, rfl, (fun h => by cases h), (HW2 _).out⟩
        · go_wp2_with fail
          go_roundw
          case rel =>
            refine ⟨k + 1, by omega, by go_num, fun j hj => ?_, HW2 _⟩
            by_cases e : j = k
            · subst e; have := HNM.out; omega
            · exact HJ.out j (by omega)
          case measure => simp [intOf]; omega
    · obtain rfl : k = n := by omega
      go_wp2_with fail
      go_ret
      refine ⟨decide ((40 : Int) < (k : Int)), rfl, fun h => ?_, HW.out⟩
      have := of_decide_eq_false h
      exact ⟨fun j hj => HJ.out j (by have := HN.out; omega), by have := HN.out; omega⟩

end Go.Proofs.Ytnknpgfconfgjaa

/-
  known.
-/
namespace Go.Proofs.Ytnknpgfconfgjaa
open Go.RowKit Stab

def knL : List Ent := [⟨0, [⟨1, 255⟩], 0, 0, 0, []⟩, ⟨0, [⟨0, 0⟩], 0, 0, 0, []⟩, ⟨0, [⟨1, 255⟩], 0, 2, 7, []⟩]
theorem forall3 {p : Nat → Prop} (h0 : p 0) (h1 : p 1) (h2 : p 2) : ∀ j, j < 3 → p j := fun j hj => by
  match j, hj with
  | 0, _ => exact h0
  | 1, _ => exact h1
  | 2, _ => exact h2
theorem kn1 : Best knL 0 [1] knL.length 2 := .inr ⟨by decide, by decide, by decide, forall3 (fun _ => .inr (by decide)) (fun _ => .inr (by decide)) (fun _ => .inl rfl)⟩
theorem kn2 : Best knL 0 [3] knL.length 1 := .inr ⟨by decide, by decide, by decide, forall3 (fun h => absurd h (by decide)) (fun _ => .inl rfl) (fun h => absurd h (by decide))⟩
theorem kn3 : Best knL 1 [] knL.length (-1) := .inl ⟨rfl, forall3 (by decide) (by decide) (by decide)⟩
theorem knF : Few knL := forall3 (by decide) (by decide) (by decide)

theorem nAt_small {W : World} {b o n : Nat} (h : n < B) (c0 : W.cell? ⟨b, o, none⟩ = some (.int .u64 0)) (c1 : W.cell? ⟨b, o + 1, none⟩ = some (.int .u64 (n : Int))) : NAt W b o n := by
  have hB : 0 < B := by decide
  refine ⟨Nat.lt_of_lt_of_le h (Nat.le_mul_of_pos_right _ hB), ?_, ?_⟩
  · rw [Nat.div_eq_of_lt h]; exact c0
  · rw [Nat.mod_eq_of_lt h]; exact c1
theorem row_one {α : Type} {size : Nat} {At : World → Nat → Nat → α → Prop} {W : World} {g c : Nat} {x : α} (hc : 1 ≤ c) (hm : c ≤ maxLen) (hg : g < W.heap.size) (h : At W g 0 x) : RowAt size At W (.slice (some ⟨g, 0, none⟩) 1 c) [x] :=
  ⟨_, c, rfl, hc, hm, (fun h => by cases h), fun _ => ⟨g, 0, rfl, hg, fun j y hj => by
    match j, hj with
    | 0, hj => cases hj; simpa using h⟩⟩
theorem row_three {α : Type} {size : Nat} {At : World → Nat → Nat → α → Prop} {W : World} {g : Nat} {x y z : α} (hg : g < W.heap.size) (h0 : At W g 0 x) (h1 : At W g size y) (h2 : At W g (size + size) z) : RowAt size At W (.slice (some ⟨g, 0, none⟩) 3 3) [x, y, z] :=
  ⟨_, 3, rfl, Nat.le_refl _, by unfold maxLen; omega, (fun h => by cases h), fun _ => ⟨g, 0, rfl, hg, fun j y hj => by
    match j, hj with
    | 0, hj => cases hj; simpa using h0
    | 1, hj => cases hj; simpa using h1
    | 2, hj => cases hj; simpa [Nat.succ_mul] using h2⟩⟩

set_option maxRecDepth 100000 in
set_option maxHeartbeats 3200000 in
theorem known20_true (w : World) : Calls Try.prog 14 #[] w fun e w' => e = .returned (.bool true) ∧ Below w.heap.size w w' := by
  have h1B : 1 < B := by decide
  have h255 : 255 < B := by decide
  have h0B : 0 < B := by decide
  have h3B : 3 < B := by decide
  have HBB := Lib.hid (And.intro h1B (And.intro h255 (And.intro h0B h3B)))
  clear h1B h255 h0B h3B
  have hfld : ∀ p n c W, (Instr.field 56 (.agg #[.int .i64 7, .slice p n c]) 0).run Try.prog W = .ok (.int .i64 7) W := fun _ _ _ _ => by kernel_rfl
  go_enter Try.func14, Try.ntmps14
  go_wp2_with fail
  generalize hX : World.alloc (World.alloc (World.alloc (World.alloc (World.alloc (World.alloc (World.alloc w _) _) _) _) _) _) _ = X
  have hb0 : Below w.heap.size w X := by rw [← hX]; exact (by repeat (first | exact Below.refl _ _ | assumption | refine Below.drew ?_ | refine Below.alloc ?_ (by first | omega | (simp <;> omega)) _ | refine Below.setCell ?_ (by first | omega | (simp <;> omega)) _ | refine Below.trans ?_ (Below.mono (by assumption) (by first | omega | (simp <;> omega)))))
  have hsz : X.heap.size = w.heap.size + 7 := by rw [← hX]; simp
  have hE : ERow X (.slice (some ⟨w.heap.size + 1 + 1 + 1 + 1 + 1, 0, none⟩) 3 3) knL := by
    obtain ⟨h1B, h255, h0B, h3B⟩ := HBB.out
    refine row_three (by omega) ⟨?_, ⟨_, ?_, row_one (g := w.heap.size + 1 + 1) (c := 1) (by omega) (by unfold maxLen; omega) (by omega) ⟨nAt_small h1B ?_ ?_, nAt_small h255 ?_ ?_⟩⟩, ?_, ?_, ?_, ⟨_, ?_, RowAt.nil⟩⟩ ⟨?_, ⟨_, ?_, row_one (g := w.heap.size + 1 + 1 + 1) (c := 1) (by omega) (by unfold maxLen; omega) (by omega) ⟨nAt_small h0B ?_ ?_, nAt_small h0B ?_ ?_⟩⟩, ?_, ?_, ?_, ⟨_, ?_, RowAt.nil⟩⟩ ⟨?_, ⟨_, ?_, row_one (g := w.heap.size + 1 + 1 + 1 + 1) (c := 1) (by omega) (by unfold maxLen; omega) (by omega) ⟨nAt_small h1B ?_ ?_, nAt_small h255 ?_ ?_⟩⟩, ?_, ?_, ?_, ⟨_, ?_, RowAt.nil⟩⟩
    all_goals (rw [← hX]; simp [go_sem])
  have hK : NRow X (.slice (some ⟨w.heap.size + 1 + 1 + 1 + 1 + 1 + 1, 0, none⟩) 1 1) [1] := by
    obtain ⟨h1B, h255, h0B, h3B⟩ := HBB.out
    refine row_one (by omega) (by unfold maxLen; omega) (by omega) (nAt_small h1B ?_ ?_)
    all_goals (rw [← hX]; simp [go_sem])
  have HE : Hid (∀ W, Below X.heap.size X W → ERow W (.slice (some ⟨w.heap.size + 1 + 1 + 1 + 1 + 1, 0, none⟩) 3 3) knL) := fun W hW => hE.below keepE hW
  have HB := Lib.hid hb0
  have HC1 := Lib.hid (choose_any knL 0 [1] _ _ X hE hK (by decide) knF)
  clear hX hE hK hb0 hsz
  refine HC1.out.mono ?_
  rintro e w1 ⟨c, rfl, hbest, hb1⟩
  obtain rfl := hbest.unique kn1
  have HB1 := Lib.hid hb1
  clear hbest hb1 HC1
  have HC2 : Hid (∀ g, g = w1.heap.size → Calls Try.prog 19 #[.slice (some ⟨w.heap.size + 1 + 1 + 1 + 1 + 1, 0, none⟩) 3 3, .int .i64 0, .slice (some ⟨g, 0, none⟩) 1 1] (w1.alloc (.cells #[.int .u64 0, .int .u64 3] 24)) (RetBest (w1.alloc (.cells #[.int .u64 0, .int .u64 3] 24)) knL 0 [3])) := by
    rintro g rfl
    refine choose_any knL 0 [3] _ _ _ (HE.out _ (HB1.out.alloc HB1.out.size _)) (row_one (by omega) (by unfold maxLen; omega) (by simp) (nAt_small HBB.out.2.2.2 ?_ ?_)) (by decide) knF
    all_goals simp [go_sem]
  go_wp2_with fail
  refine (HC2.out _ rfl).mono ?_
  rintro e w2 ⟨c, rfl, hbest, hb2⟩
  obtain rfl := hbest.unique kn2
  have HB2 : Hid (Below X.heap.size X w2) := (HB1.out.alloc HB1.out.size _).trans (hb2.mono (HB1.out.alloc HB1.out.size _).size)
  clear hbest hb2 HC2 HB1
  have HC3 := Lib.hid (choose_any knL 1 [] _ (.slice none 0 0) w2 (HE.out _ HB2.out) RowAt.nil (by decide) knF)
  go_wp2_with fail
  refine HC3.out.mono ?_
  rintro e w3 ⟨c, rfl, hbest, hb3⟩
  obtain rfl := hbest.unique kn3
  have HB3 : Hid (Below X.heap.size X w3) := HB2.out.trans (hb3.mono HB2.out.size)
  clear hbest hb3 HC3 HB2
  have HC4 : Hid (∀ g, g = w3.heap.size → Calls Try.prog 21 #[.slice (some ⟨w.heap.size + 1 + 1 + 1 + 1 + 1, 0, none⟩) 3 3, .int .i64 0, .slice (some ⟨g, 0, none⟩) 1 1, .agg #[.int .i64 0, .slice none 0 0]] (w3.alloc (.cells #[.int .u64 0, .int .u64 1] 24)) (RetRunO (w3.alloc (.cells #[.int .u64 0, .int .u64 1] 24)) (Look knL 0 [1] 0 []))) := by
    rintro g rfl
    refine lookup_any knL 0 [1] 0 [] _ _ _ _ (HE.out _ (HB3.out.alloc HB3.out.size _)) (row_one (by omega) (by unfold maxLen; omega) (by simp) (nAt_small HBB.out.1 ?_ ?_)) RowAt.nil (by decide) knF (by decide)
    all_goals simp [go_sem]
  go_wp2_with fail
  refine (HC4.out _ rfl).mono ?_
  rintro e w4 ⟨a, g, v, rfl, hlook, ho, hb4⟩
  obtain ⟨vp, vc, rfl⟩ := ho.shape
  obtain rfl : a = 7 := (hlook.unique ⟨2, kn1, rfl, rfl⟩).1
  have HB4 : Hid (Below X.heap.size X w4) := (HB3.out.alloc HB3.out.size _).trans (hb4.mono (HB3.out.alloc HB3.out.size _).size)
  clear hlook ho hb4 HC4 HB3
  go_wp2_with fail
  go_ret
  exact ⟨rfl, HB.out.trans (HB4.out.mono HB.out.size)⟩

end Go.Proofs.Ytnknpgfconfgjaa
