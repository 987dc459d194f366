/-
  Lemmas, joined: TabL, TabN, TabO, TabQ, TabS.
-/
import Derived.Test.YtnknpgfconfgjaaJF05
import Derived.LoopN
import Derived.Maps.OwnOps
import Derived.Maps.Views
/-
  slices.Clone of numbers; table.Lookup and the document's.
-/
namespace Go.Proofs.Ytnknpgfconfgjaa
open Go.RowKit Stab

def numC (n : Nat) : List Value := [.int .u64 ((n / B : Nat) : Int), .int .u64 ((n % B : Nat) : Int)]
theorem flatGN : FlatG 2 NAt numC where
  len := fun _ => rfl
  one := fun x u hu => by
    unfold numC at hu
    simp at hu
    rcases hu with rfl | rfl <;> rfl
  get := fun w b o x h i v hi => by
    match i, hi with
    | 0, hi => cases hi; exact h.2.1
    | 1, hi => cases hi; exact h.2.2
theorem elemNum : ElemOk 29 24 (.agg #[.int .u64 0, .int .u64 0]) 2 16 := ⟨Try.underlying29, infoNum, rfl, by decide⟩

/-- The list's numbers are numbers. -/
def Nums (l : List Nat) : Prop := ∀ n ∈ l, n < B * B
theorem RowAt.nums {w : World} {v : Value} {l : List Nat} (h : NRow w v l) : Nums l := by
  intro n hn
  obtain ⟨j, hj, rfl⟩ := List.mem_iff_getElem.1 hn
  obtain ⟨pa, cap, -, -, -, -, h5⟩ := h
  obtain ⟨b, o, -, -, h6⟩ := h5 (by omega)
  exact (h6 j _ (List.getElem?_eq_getElem hj)).1
/-- Numbers in memory of a call's own. -/
def NOwn (base : Nat) (w : World) (v : Value) (l : List Nat) : Prop := w.ownsRow base 24 2 v l.length (l.flatMap numC) ∧ Nums l
set_option maxRecDepth 100000 in
set_option maxHeartbeats 800000 in
theorem cloneN_any (l : List Nat) (v : Value) (w : World) (hv : NRow w v l) (hl : l.length ≤ 1000000) :
    Calls Try.prog 37 #[v] w fun e w' => ∃ v', e = .returned v' ∧ NOwn w.heap.size w' v' l ∧ Below w.heap.size w w' := by
  have HN := Lib.hid hv.nums
  have HV := Lib.hid hv
  obtain ⟨pa, ca, rfl, h1, h2, h3, -⟩ := hv.all
  clear hv
  cases pa with
  | none =>
    obtain rfl := h3 rfl
    obtain rfl : l = [] := List.eq_nil_of_length_eq_zero (by omega)
    clear h1 h2 h3 hl HV
    have q : (Go.binOp .eql 29 (.slice none 0 0) (.slice none 0 0)).run Try.prog w = .ok (.bool true) w := Lib.run_eql_slice_nil w _ _ none 0 0 0 0 Try.underlying29
    go_enter Try.func37, Try.ntmps37
    go_wp2_with fail
    go_ret
    exact ⟨_, rfl, ⟨World.ownsRow_nil _ _ _ _, HN.out⟩, Below.refl _ _⟩
  | some ad =>
    clear h3
    have q : ∀ m, (Go.binOp .eql 29 (.slice (some ad) m ca) (.slice none 0 0)).run Try.prog w = .ok (.bool false) w := fun m => Lib.run_eql_slice_nil w _ _ (some ad) m ca 0 0 Try.underlying29
    obtain ⟨n, hn⟩ : ∃ n, n = l.length := ⟨_, rfl⟩
    have S1 : Hid (∀ W, Below w.heap.size w W → SrcAt W 2 (.slice (some ad) n ca) n (l.flatMap numC)) := fun W hW => by rw [hn]; exact (HV.out.below keepN hW).src flatGN
    rw [← hn] at hl h1 ⊢
    have HNN := Lib.hid hn
    clear hn
    go_enter Try.func37, Try.ntmps37
    go_wp2_with (at_builtin; refine append_gen elemNum rfl (.tmp 5) (.tmp 6) rfl w.heap.size (.slice (some ⟨w.heap.size, 0, none⟩) 0 0) 0 [] rfl (owns_made0 w 24 2) (.slice (some ad) n ca) n _ rfl (S1.out _ ((Below.refl _ _).alloc (Nat.le_refl _) _)) (by omega) (by unfold maxLen; omega) (by simp) ?_; intro y1 w1 g1 g2; have HO1 := Lib.hid g1; have HB1 : Hid (Below w.heap.size w w1) := below_grown ((Below.refl _ _).alloc (Nat.le_refl _) _) (owns_made0 w 24 2) g2 (Nat.le_refl _) (by simp); clear g1 g2)
    go_ret
    refine ⟨_, rfl, ⟨?_, HN.out⟩, HB1.out⟩
    have := HO1.out
    rw [Nat.zero_add, List.nil_append, HNN.out] at this
    exact this

/-- What is run: of the chosen entry, or else what is told. -/
def Look (l : List Ent) (tab : Int) (ks : List Nat) (a0 : Int) (g0 : List Nat) (a : Int) (g : List Nat) : Prop := ∃ c, Best l tab ks l.length c ∧ a = (if c < 0 then a0 else (eAt l c).act) ∧ g = (if c < 0 then g0 else (eAt l c).args)
theorem Look.unique {l : List Ent} {tab : Int} {ks : List Nat} {a0 a b : Int} {g0 g h : List Nat} (x : Look l tab ks a0 g0 a g) (y : Look l tab ks a0 g0 b h) : a = b ∧ g = h := by
  obtain ⟨c, h1, h2, h3⟩ := x
  obtain ⟨d, k1, k2, k3⟩ := y
  obtain rfl := h1.unique k1
  exact ⟨h2.trans k2.symm, h3.trans k3.symm⟩
def RetRunO (w : World) (R : Int → List Nat → Prop) (e : Ending) (w' : World) : Prop := ∃ a g v, e = .returned (.agg #[.int .i64 a, v]) ∧ R a g ∧ NOwn w.heap.size w' v g ∧ Below w.heap.size w w'
theorem NOwn.mono {base base' : Nat} {w : World} {v : Value} {l : List Nat} (h : NOwn base w v l) (hb : base' ≤ base) : NOwn base' w v l := by
  obtain ⟨⟨h1, h2⟩, h3⟩ := h
  refine ⟨⟨h1, ?_⟩, h3⟩
  rcases h2 with h2 | ⟨g, cap, cur, q1, q2, q3⟩
  · exact .inl h2
  · exact .inr ⟨g, cap, cur, q1, by omega, q3⟩

theorem NOwn.at {base : Nat} {w w' : World} {v : Value} {l : List Nat} (h : NOwn base w v l) (hk : ∀ k, base ≤ k → w'.heap[k]? = w.heap[k]?) : NOwn base w' v l := by
  obtain ⟨⟨h1, h2⟩, h3⟩ := h
  refine ⟨⟨h1, ?_⟩, h3⟩
  rcases h2 with h2 | ⟨g, cap, cur, q1, q2, q3, q4⟩
  · exact .inl h2
  · exact .inr ⟨g, cap, cur, q1, q2, by rw [hk g q2]; exact q3, q4⟩
theorem NOwn.shape {base : Nat} {w : World} {v : Value} {l : List Nat} (h : NOwn base w v l) : ∃ p c, v = .slice p l.length c := by
  rcases h.1.2 with ⟨h2, h3⟩ | ⟨g, cap, cur, q1, -⟩
  · exact ⟨_, _, by rw [h2, h3]⟩
  · exact ⟨_, _, q1⟩

set_option maxRecDepth 100000 in
set_option maxHeartbeats 3200000 in
theorem lookup_any (l : List Ent) (tab : Int) (ks : List Nat) (a0 : Int) (g0 : List Nat) (lv kv gv : Value) (w : World) (hl : ERow w lv l) (hk : NRow w kv ks) (hg : NRow w gv g0) (hn : l.length ≤ 40) (hf : Few l) (hg0 : g0.length ≤ 10) :
    Calls Try.prog 21 #[lv, .int .i64 tab, kv, .agg #[.int .i64 a0, gv]] w (RetRunO w (Look l tab ks a0 g0)) := by
  obtain ⟨la, lc, rfl, hc1, hc2⟩ := hl.shape
  obtain ⟨ka, kc, rfl, kc1, kc2⟩ := hk.shape
  obtain ⟨ga, gc, rfl, gc1, gc2⟩ := hg.shape
  have HC : Hid (∀ W, Below w.heap.size w W → Calls Try.prog 19 #[.slice la l.length lc, .int .i64 tab, .slice ka ks.length kc] W (RetBest W l tab ks)) := fun W hW => choose_any l tab ks _ _ W (hl.below keepE hW) (hk.below keepN hW) hn hf
  have HL := Lib.hid hl
  have HG := Lib.hid hg
  have HF := Lib.hid hf
  have HCL : Hid (∀ (g : List Nat) (v : Value) (W : World), NRow W v g → g.length ≤ 1000000 → Calls Try.prog 37 #[v] W fun e w' => ∃ v', e = .returned v' ∧ NOwn W.heap.size w' v' g ∧ Below W.heap.size W w') := fun g v W h1 h2 => cloneN_any g v W h1 h2
  clear hl hk hg hf
  go_enter Try.func21, Try.ntmps21
  go_wp2_with fail
  have hb0 : Below w.heap.size w (((w.alloc (.cells #[.int .i64 a0, .slice ga g0.length gc] 56)).alloc (.cells #[.int .i64 0, .slice none 0 0] 56)).alloc (.cells #[.int .i64 a0, .slice ga g0.length gc] 56)) := (by repeat (first | exact Below.refl _ _ | assumption | refine Below.drew ?_ | refine Below.alloc ?_ (by first | omega | (simp <;> omega)) _ | refine Below.setCell ?_ (by first | omega | (simp <;> omega)) _ | refine Below.trans ?_ (Below.mono (by assumption) (by first | omega | (simp <;> omega)))))
  generalize hX : ((w.alloc (.cells #[.int .i64 a0, .slice ga g0.length gc] 56)).alloc (.cells #[.int .i64 0, .slice none 0 0] 56)).alloc (.cells #[.int .i64 a0, .slice ga g0.length gc] 56) = X at hb0
  have x0 : X.cell? ⟨w.heap.size + 1, 0, none⟩ = some (.int .i64 0) := by rw [← hX]; simp [go_sem]
  have x1 : X.cell? ⟨w.heap.size + 1, 1, none⟩ = some (.slice none 0 0) := by rw [← hX]; simp [go_sem]
  have x2 : X.cell? ⟨w.heap.size + 1 + 1, 0, none⟩ = some (.int .i64 a0) := by rw [← hX]; simp [go_sem]
  have x3 : X.cell? ⟨w.heap.size + 1 + 1, 1, none⟩ = some (.slice ga g0.length gc) := by rw [← hX]; simp [go_sem]
  have xs : X.heap.size = w.heap.size + 1 + 1 + 1 := by rw [← hX]; simp
  have xf : ∀ j, X.frozen? ⟨w.heap.size + 1, j, none⟩ = false ∧ X.frozen? ⟨w.heap.size + 1 + 1, j, none⟩ = false := fun j => by rw [← hX]; simp [go_sem]
  have hXW : ∀ W, Below X.heap.size X W → (W.cell? ⟨w.heap.size + 1, 0, none⟩ = some (.int .i64 0) ∧ W.cell? ⟨w.heap.size + 1, 1, none⟩ = some (.slice none 0 0) ∧ W.cell? ⟨w.heap.size + 1 + 1, 0, none⟩ = some (.int .i64 a0) ∧ W.cell? ⟨w.heap.size + 1 + 1, 1, none⟩ = some (.slice ga g0.length gc)) ∧
      (∀ j, W.frozen? ⟨w.heap.size + 1, j, none⟩ = false) ∧ (∀ j, W.frozen? ⟨w.heap.size + 1 + 1, j, none⟩ = false) ∧ w.heap.size + 1 + 1 < W.heap.size ∧ Below w.heap.size w W := fun W hW =>
    ⟨⟨(hW.cell (p := ⟨w.heap.size + 1, 0, none⟩) (by show w.heap.size + 1 < _; omega)).trans x0, (hW.cell (p := ⟨w.heap.size + 1, 1, none⟩) (by show w.heap.size + 1 < _; omega)).trans x1, (hW.cell (p := ⟨w.heap.size + 1 + 1, 0, none⟩) (by show w.heap.size + 1 + 1 < _; omega)).trans x2, (hW.cell (p := ⟨w.heap.size + 1 + 1, 1, none⟩) (by show w.heap.size + 1 + 1 < _; omega)).trans x3⟩,
      fun j => (hW.frozen (p := ⟨w.heap.size + 1, j, none⟩) (by show w.heap.size + 1 < _; omega)).trans (xf j).1, fun j => (hW.frozen (p := ⟨w.heap.size + 1 + 1, j, none⟩) (by show w.heap.size + 1 + 1 < _; omega)).trans (xf j).2, by have := hW.size; omega, hb0.trans (hW.mono hb0.size)⟩
  have HXW := Lib.hid hXW
  have HCX := Lib.hid (HC.out X hb0)
  clear hX x0 x1 x2 x3 xs xf hXW HC hb0
  refine HCX.out.mono ?_
  rintro e w1 ⟨c, rfl, hbest, hb1⟩
  obtain ⟨⟨x0, x1, x2, x3⟩, f1, f2, hs1, hbw⟩ := HXW.out w1 hb1
  have HB := Lib.hid hbest
  have HW1 := Lib.hid hbw
  have f10 := f1 0
  have f11 := f1 1
  have f20 := f2 0
  have f21 := f2 1
  clear hbest hb1 hbw HCX f1 f2
  obtain ⟨N, hN⟩ : ∃ N, N = w.heap.size := ⟨_, rfl⟩
  have HNN := Lib.hid hN
  rw [← hN] at x0 x1 x2 x3 f10 f11 f20 f21 hs1 ⊢
  clear hN
  by_cases hc : c < 0
  · have HCC := Lib.hid (HCL.out g0 _ w1 (HG.out.below keepN HW1.out) (by omega))
    go_wp2_with fail
    refine HCC.out.mono ?_
    rintro e w2 ⟨v', rfl, ho, hb2⟩
    obtain ⟨vp, vc, rfl⟩ := ho.shape
    have HO := Lib.hid ho
    have y0 := (hb2.cell (p := ⟨N + 1, 0, none⟩) (by show N + 1 < _; omega)).trans x0
    have y1 := (hb2.cell (p := ⟨N + 1, 1, none⟩) (by show N + 1 < _; omega)).trans x1
    have y2 := (hb2.cell (p := ⟨N + 1 + 1, 0, none⟩) (by show N + 1 + 1 < _; omega)).trans x2
    have y3 := (hb2.cell (p := ⟨N + 1 + 1, 1, none⟩) (by show N + 1 + 1 < _; omega)).trans x3
    have g10 := (hb2.frozen (p := ⟨N + 1, 0, none⟩) (by show N + 1 < _; omega)).trans f10
    have g11 := (hb2.frozen (p := ⟨N + 1, 1, none⟩) (by show N + 1 < _; omega)).trans f11
    have g21 := (hb2.frozen (p := ⟨N + 1 + 1, 1, none⟩) (by show N + 1 + 1 < _; omega)).trans f21
    have HW2 := Lib.hid (HW1.out.trans (hb2.mono HW1.out.size))
    have hs2 := hb2.size
    clear ho hb2 HCC x0 x1 x2 x3 f10 f11 f20 f21
    go_wp2_with fail
    refine bodyPost_ret (v := .agg #[.int .i64 a0, .slice vp g0.length vc]) (by simp [results, Try.results21, go_sem, y0, y1]) rfl ?_
    refine ⟨a0, g0, _, rfl, ⟨c, HB.out, by rw [if_pos hc], by rw [if_pos hc]⟩, (HO.out.at fun k hk => ?_).mono (by have := HNN.out; omega), ((HW2.out.setCell (by have := HNN.out; show _ ≤ N + 1 + 1; omega) _).setCell (by have := HNN.out; show _ ≤ N + 1; omega) _).setCell (by have := HNN.out; show _ ≤ N + 1; omega) _⟩
    rw [Below.heap_setCell _ _ _ _ (by show k ≠ N + 1; omega), Below.heap_setCell _ _ _ _ (by show k ≠ N + 1; omega), Below.heap_setCell _ _ _ _ (by show k ≠ N + 1 + 1; omega)]
  · obtain ⟨y, rfl⟩ : ∃ y : Nat, c = (y : Int) := ⟨c.toNat, by omega⟩
    have hyl : y < l.length := by
      rcases HB.out with ⟨h, -⟩ | ⟨-, h, -⟩
      · omega
      · omega
    obtain ⟨lb, lo, lc2, he2, hlb, hej⟩ := HL.out.at (eAt_nat l y hyl)
    simp only [Value.slice.injEq] at he2
    obtain ⟨rfl, -, -⟩ := he2
    obtain ⟨p1, n1, c1, r1, m1, d1, a0', a1', a2', a3', a4, a5, hp, hr⟩ := hej.six
    clear a0' a1' a2' a3' hp
    have hr2 := hr
    obtain ⟨r1', d1', he3, -, -⟩ := hr2.shape
    simp only [Value.slice.injEq] at he3
    obtain ⟨rfl, rfl, rfl⟩ := he3
    have b4 := (HW1.out.cell (p := ⟨lb, lo + y * 6 + 4, none⟩) hlb).trans a4
    have b5 := (HW1.out.cell (p := ⟨lb, lo + y * 6 + 5, none⟩) hlb).trans a5
    have hne1 : lb ≠ N + 1 := by have := HNN.out; omega
    have hne2 : lb ≠ N + 1 + 1 := by have := HNN.out; omega
    have hgl : (eAt l (y : Int)).args.length ≤ 10 := (HF.out y hyl).2
    have HR := Lib.hid hr
    have HA : Hid ((eAt l (y : Int)).act = (eAt l (y : Int)).act ∧ (eAt l (y : Int)).args = (eAt l (y : Int)).args) := ⟨rfl, rfl⟩
    have HLK : Hid (∀ a g, a = (eAt l (y : Int)).act → g = (eAt l (y : Int)).args → Look l tab ks a0 g0 a g) := fun a g h1 h2 => ⟨(y : Int), HB.out, by rw [if_neg (by omega)]; exact h1, by rw [if_neg (by omega)]; exact h2⟩
    obtain ⟨act, hact⟩ : ∃ act, act = (eAt l (y : Int)).act := ⟨_, rfl⟩
    obtain ⟨g, hgg⟩ : ∃ g, g = (eAt l (y : Int)).args := ⟨_, rfl⟩
    have HL2 := Lib.hid (HLK.out act g hact hgg)
    rw [← hact] at b4
    rw [← hgg] at b5 hgl HR
    clear hact hgg HLK HA a4 a5 hej hr hr2
    have HCC : ∀ p q : Value, Hid (Calls Try.prog 37 #[.slice r1 g.length d1] ((w1.setCell ⟨N + 1 + 1, 0, none⟩ p).setCell ⟨N + 1 + 1, 1, none⟩ q) fun e w' => ∃ v', e = .returned v' ∧ NOwn ((w1.setCell ⟨N + 1 + 1, 0, none⟩ p).setCell ⟨N + 1 + 1, 1, none⟩ q).heap.size w' v' g ∧ Below ((w1.setCell ⟨N + 1 + 1, 0, none⟩ p).setCell ⟨N + 1 + 1, 1, none⟩ q).heap.size ((w1.setCell ⟨N + 1 + 1, 0, none⟩ p).setCell ⟨N + 1 + 1, 1, none⟩ q) w') := fun p q =>
      HCL.out g _ _ (HR.out.below keepN ((HW1.out.setCell (by have := HNN.out; show _ ≤ N + 1 + 1; omega) _).setCell (by have := HNN.out; show _ ≤ N + 1 + 1; omega) _)) (by omega)
    have z1 : (y : Int) < (l.length : Int) := by omega
    go_wp2_with fail
    have HCY := HCC (.int .i64 act) (.slice r1 g.length d1)
    have hby : Below w.heap.size w ((w1.setCell ⟨N + 1 + 1, 0, none⟩ (.int .i64 act)).setCell ⟨N + 1 + 1, 1, none⟩ (.slice r1 g.length d1)) := (HW1.out.setCell (by have := HNN.out; show _ ≤ N + 1 + 1; omega) _).setCell (by have := HNN.out; show _ ≤ N + 1 + 1; omega) _
    generalize hY : (w1.setCell ⟨N + 1 + 1, 0, none⟩ (.int .i64 act)).setCell ⟨N + 1 + 1, 1, none⟩ (.slice r1 g.length d1) = Y at HCY hby
    have u0 : Y.cell? ⟨N + 1, 0, none⟩ = some (.int .i64 0) := by rw [← hY]; simp [go_sem, x0, x1, x2, x3]
    have u1 : Y.cell? ⟨N + 1, 1, none⟩ = some (.slice none 0 0) := by rw [← hY]; simp [go_sem, x0, x1, x2, x3]
    have u2 : Y.cell? ⟨N + 1 + 1, 0, none⟩ = some (.int .i64 act) := by rw [← hY]; simp [go_sem, x0, x1, x2, x3]
    have u3 : Y.cell? ⟨N + 1 + 1, 1, none⟩ = some (.slice r1 g.length d1) := by rw [← hY]; simp [go_sem, x0, x1, x2, x3]
    have v10 : Y.frozen? ⟨N + 1, 0, none⟩ = false := by rw [← hY]; simp [go_sem, f10]
    have v11 : Y.frozen? ⟨N + 1, 1, none⟩ = false := by rw [← hY]; simp [go_sem, f11]
    have v21 : Y.frozen? ⟨N + 1 + 1, 1, none⟩ = false := by rw [← hY]; simp [go_sem, f21]
    have hsy : N + 1 + 1 < Y.heap.size := by rw [← hY]; simp; omega
    have HBY := Lib.hid hby
    clear hY hby HCC x0 x1 x2 x3 f10 f11 f20 f21 b4 b5 hs1
    refine HCY.out.mono ?_
    rintro e w2 ⟨v', rfl, ho, hb2⟩
    obtain ⟨vp, vc, rfl⟩ := ho.shape
    have HO := Lib.hid ho
    have y0 := (hb2.cell (p := ⟨N + 1, 0, none⟩) (by show N + 1 < _; omega)).trans u0
    have y1 := (hb2.cell (p := ⟨N + 1, 1, none⟩) (by show N + 1 < _; omega)).trans u1
    have y2 := (hb2.cell (p := ⟨N + 1 + 1, 0, none⟩) (by show N + 1 + 1 < _; omega)).trans u2
    have y3 := (hb2.cell (p := ⟨N + 1 + 1, 1, none⟩) (by show N + 1 + 1 < _; omega)).trans u3
    have g10 := (hb2.frozen (p := ⟨N + 1, 0, none⟩) (by show N + 1 < _; omega)).trans v10
    have g11 := (hb2.frozen (p := ⟨N + 1, 1, none⟩) (by show N + 1 < _; omega)).trans v11
    have g21 := (hb2.frozen (p := ⟨N + 1 + 1, 1, none⟩) (by show N + 1 + 1 < _; omega)).trans v21
    have HW2 := Lib.hid (HBY.out.trans (hb2.mono HBY.out.size))
    have hs2 := hb2.size
    clear ho hb2 HCY u0 u1 u2 u3 v10 v11 v21
    go_wp2_with fail
    refine bodyPost_ret (v := .agg #[.int .i64 act, .slice vp g.length vc]) (by simp [results, Try.results21, go_sem, y0, y1]) rfl ?_
    refine ⟨act, g, _, rfl, HL2.out, (HO.out.at fun k hk => ?_).mono (by have := HNN.out; omega), ((HW2.out.setCell (by have := HNN.out; show _ ≤ N + 1 + 1; omega) _).setCell (by have := HNN.out; show _ ≤ N + 1; omega) _).setCell (by have := HNN.out; show _ ≤ N + 1; omega) _⟩
    rw [Below.heap_setCell _ _ _ _ (by show k ≠ N + 1; omega), Below.heap_setCell _ _ _ _ (by show k ≠ N + 1; omega), Below.heap_setCell _ _ _ _ (by show k ≠ N + 1 + 1; omega)]

end Go.Proofs.Ytnknpgfconfgjaa



/-
  great.
-/
namespace Go.Proofs.Ytnknpgfconfgjaa
open Go.RowKit Stab

def RetGreat (l : List Ent) (w : World) (e : Ending) (w' : World) : Prop := ∃ b, e = .returned (.bool b) ∧ (b = false → Few l ∧ l.length ≤ 40) ∧ Below w.heap.size w w'

set_option maxRecDepth 100000 in
set_option maxHeartbeats 1600000 in
theorem great_any (l : List Ent) (lv : Value) (w : World) (hl : ERow w lv l) : Calls Try.prog 13 #[lv] w (RetGreat l w) := by
  obtain ⟨la, lc, rfl, hc1, hc2⟩ := hl.shape
  have HL := Lib.hid hl
  obtain ⟨n, hnn⟩ : ∃ n, n = l.length := ⟨_, rfl⟩
  rw [← hnn] at hc1 HL ⊢
  have HN := Lib.hid hnn
  clear hl hnn
  unfold maxLen at hc2
  have hcz : (n : Int) ≤ (lc : Int) := by omega
  go_enter Try.func13, Try.ntmps13
  go_wp2_with fail
  go_loopw [4, 7] (fun u i wr => ∃ k : Nat, k ≤ n ∧ i = .int .i64 k ∧ Hid (∀ j, j < k → (eAt l (j : Int)).pats.length ≤ 10 ∧ (eAt l (j : Int)).args.length ≤ 10) ∧ Hid (Below w.heap.size w wr)) (fun _ i _ => n - (intOf i).toNat)
  case atStart => exact ⟨0, Nat.zero_le _, rfl, fun j h => absurd h (by omega), Below.refl _ _⟩
  case round =>
    obtain ⟨k, hk, rfl, HJ, HW⟩ := hrel
    by_cases hlt : k < n
    · obtain ⟨lb, lo, lc', he, hlb, hek⟩ := (HL.out.below keepE HW.out).at (eAt_nat l k (by have := HN.out; omega))
      simp only [Value.slice.injEq] at he
      obtain ⟨rfl, -, -⟩ := he
      obtain ⟨p1, n1, c1, r1, m1, d1, a0, a1, a2, a3, a4, a5, hp, hr⟩ := hek.six
      have hn1 : (eAt l (k : Int)).pats.length = n1 := by
        obtain ⟨_, _, e, -⟩ := hp.shape; cases e; rfl
      have hm1 : (eAt l (k : Int)).args.length = m1 := by
        obtain ⟨_, _, e, -⟩ := hr.shape; cases e; rfl
      have HNM := Lib.hid (And.intro hn1 hm1)
      have HW2 : ∀ o, Hid (Below w.heap.size w (wr.alloc o)) := fun o => HW.out.alloc HW.out.size o
      generalize (eAt l (k : Int)).tab = t1 at *
      generalize (eAt l (k : Int)).len = l1 at *
      generalize (eAt l (k : Int)).prio = q1 at *
      generalize (eAt l (k : Int)).act = s1 at *
      have z1 : (k : Int) < (n : Int) := by omega
      clear hek hp hr hn1 hm1
      by_cases hp1 : 10 < n1
      · have hd : decide ((10 : Int) < (n1 : Int)) = true := decide_eq_true (by omega)
        go_wp2_with fail
        go_ret
        exact ⟨true, rfl, (fun h => by cases h), (HW2 _).out⟩
      · by_cases hp2 : 10 < m1
        · go_wp2_with fail
          go_ret
          exact ⟨true, rfl, (fun h => by cases h), (HW2 _).out⟩
        · go_wp2_with fail
          go_roundw
          case rel =>
            refine ⟨k + 1, by omega, by go_num, fun j hj => ?_, HW2 _⟩
            by_cases e : j = k
            · subst e; have := HNM.out; omega
            · exact HJ.out j (by omega)
          case measure => simp [intOf]; omega
    · obtain rfl : k = n := by omega
      go_wp2_with fail
      go_ret
      refine ⟨decide ((40 : Int) < (k : Int)), rfl, fun h => ?_, HW.out⟩
      have := of_decide_eq_false h
      exact ⟨fun j hj => HJ.out j (by have := HN.out; omega), by have := HN.out; omega⟩

end Go.Proofs.Ytnknpgfconfgjaa

/-
  known.
-/
namespace Go.Proofs.Ytnknpgfconfgjaa
open Go.RowKit Stab

def knL : List Ent := [⟨0, [⟨1, 255⟩], 0, 0, 0, []⟩, ⟨0, [⟨0, 0⟩], 0, 0, 0, []⟩, ⟨0, [⟨1, 255⟩], 0, 2, 7, []⟩]
theorem forall3 {p : Nat → Prop} (h0 : p 0) (h1 : p 1) (h2 : p 2) : ∀ j, j < 3 → p j := fun j hj => by
  match j, hj with
  | 0, _ => exact h0
  | 1, _ => exact h1
  | 2, _ => exact h2
theorem kn1 : Best knL 0 [1] knL.length 2 := .inr ⟨by decide, by decide, by decide, forall3 (fun _ => .inr (by decide)) (fun _ => .inr (by decide)) (fun _ => .inl rfl)⟩
theorem kn2 : Best knL 0 [3] knL.length 1 := .inr ⟨by decide, by decide, by decide, forall3 (fun h => absurd h (by decide)) (fun _ => .inl rfl) (fun h => absurd h (by decide))⟩
theorem kn3 : Best knL 1 [] knL.length (-1) := .inl ⟨rfl, forall3 (by decide) (by decide) (by decide)⟩
theorem knF : Few knL := forall3 (by decide) (by decide) (by decide)

theorem nAt_small {W : World} {b o n : Nat} (h : n < B) (c0 : W.cell? ⟨b, o, none⟩ = some (.int .u64 0)) (c1 : W.cell? ⟨b, o + 1, none⟩ = some (.int .u64 (n : Int))) : NAt W b o n := by
  have hB : 0 < B := by decide
  refine ⟨Nat.lt_of_lt_of_le h (Nat.le_mul_of_pos_right _ hB), ?_, ?_⟩
  · rw [Nat.div_eq_of_lt h]; exact c0
  · rw [Nat.mod_eq_of_lt h]; exact c1
theorem row_one {α : Type} {size : Nat} {At : World → Nat → Nat → α → Prop} {W : World} {g c : Nat} {x : α} (hc : 1 ≤ c) (hm : c ≤ maxLen) (hg : g < W.heap.size) (h : At W g 0 x) : RowAt size At W (.slice (some ⟨g, 0, none⟩) 1 c) [x] :=
  ⟨_, c, rfl, hc, hm, (fun h => by cases h), fun _ => ⟨g, 0, rfl, hg, fun j y hj => by
    match j, hj with
    | 0, hj => cases hj; simpa using h⟩⟩
theorem row_three {α : Type} {size : Nat} {At : World → Nat → Nat → α → Prop} {W : World} {g : Nat} {x y z : α} (hg : g < W.heap.size) (h0 : At W g 0 x) (h1 : At W g size y) (h2 : At W g (size + size) z) : RowAt size At W (.slice (some ⟨g, 0, none⟩) 3 3) [x, y, z] :=
  ⟨_, 3, rfl, Nat.le_refl _, by unfold maxLen; omega, (fun h => by cases h), fun _ => ⟨g, 0, rfl, hg, fun j y hj => by
    match j, hj with
    | 0, hj => cases hj; simpa using h0
    | 1, hj => cases hj; simpa using h1
    | 2, hj => cases hj; simpa [Nat.succ_mul] using h2⟩⟩

set_option maxRecDepth 100000 in
set_option maxHeartbeats 3200000 in
theorem known20_true (w : World) : Calls Try.prog 14 #[] w fun e w' => e = .returned (.bool true) ∧ Below w.heap.size w w' := by
  have h1B : 1 < B := by decide
  have h255 : 255 < B := by decide
  have h0B : 0 < B := by decide
  have h3B : 3 < B := by decide
  have HBB := Lib.hid (And.intro h1B (And.intro h255 (And.intro h0B h3B)))
  clear h1B h255 h0B h3B
  have hfld : ∀ p n c W, (Instr.field 56 (.agg #[.int .i64 7, .slice p n c]) 0).run Try.prog W = .ok (.int .i64 7) W := fun _ _ _ _ => by kernel_rfl
  go_enter Try.func14, Try.ntmps14
  go_wp2_with fail
  generalize hX : World.alloc (World.alloc (World.alloc (World.alloc (World.alloc (World.alloc (World.alloc w _) _) _) _) _) _) _ = X
  have hb0 : Below w.heap.size w X := by rw [← hX]; exact (by repeat (first | exact Below.refl _ _ | assumption | refine Below.drew ?_ | refine Below.alloc ?_ (by first | omega | (simp <;> omega)) _ | refine Below.setCell ?_ (by first | omega | (simp <;> omega)) _ | refine Below.trans ?_ (Below.mono (by assumption) (by first | omega | (simp <;> omega)))))
  have hsz : X.heap.size = w.heap.size + 7 := by rw [← hX]; simp
  have hE : ERow X (.slice (some ⟨w.heap.size + 1 + 1 + 1 + 1 + 1, 0, none⟩) 3 3) knL := by
    obtain ⟨h1B, h255, h0B, h3B⟩ := HBB.out
    refine row_three (by omega) ⟨?_, ⟨_, ?_, row_one (g := w.heap.size + 1 + 1) (c := 1) (by omega) (by unfold maxLen; omega) (by omega) ⟨nAt_small h1B ?_ ?_, nAt_small h255 ?_ ?_⟩⟩, ?_, ?_, ?_, ⟨_, ?_, RowAt.nil⟩⟩ ⟨?_, ⟨_, ?_, row_one (g := w.heap.size + 1 + 1 + 1) (c := 1) (by omega) (by unfold maxLen; omega) (by omega) ⟨nAt_small h0B ?_ ?_, nAt_small h0B ?_ ?_⟩⟩, ?_, ?_, ?_, ⟨_, ?_, RowAt.nil⟩⟩ ⟨?_, ⟨_, ?_, row_one (g := w.heap.size + 1 + 1 + 1 + 1) (c := 1) (by omega) (by unfold maxLen; omega) (by omega) ⟨nAt_small h1B ?_ ?_, nAt_small h255 ?_ ?_⟩⟩, ?_, ?_, ?_, ⟨_, ?_, RowAt.nil⟩⟩
    all_goals (rw [← hX]; simp [go_sem])
  have hK : NRow X (.slice (some ⟨w.heap.size + 1 + 1 + 1 + 1 + 1 + 1, 0, none⟩) 1 1) [1] := by
    obtain ⟨h1B, h255, h0B, h3B⟩ := HBB.out
    refine row_one (by omega) (by unfold maxLen; omega) (by omega) (nAt_small h1B ?_ ?_)
    all_goals (rw [← hX]; simp [go_sem])
  have HE : Hid (∀ W, Below X.heap.size X W → ERow W (.slice (some ⟨w.heap.size + 1 + 1 + 1 + 1 + 1, 0, none⟩) 3 3) knL) := fun W hW => hE.below keepE hW
  have HB := Lib.hid hb0
  have HC1 := Lib.hid (choose_any knL 0 [1] _ _ X hE hK (by decide) knF)
  clear hX hE hK hb0 hsz
  refine HC1.out.mono ?_
  rintro e w1 ⟨c, rfl, hbest, hb1⟩
  obtain rfl := hbest.unique kn1
  have HB1 := Lib.hid hb1
  clear hbest hb1 HC1
  have HC2 : Hid (∀ g, g = w1.heap.size → Calls Try.prog 19 #[.slice (some ⟨w.heap.size + 1 + 1 + 1 + 1 + 1, 0, none⟩) 3 3, .int .i64 0, .slice (some ⟨g, 0, none⟩) 1 1] (w1.alloc (.cells #[.int .u64 0, .int .u64 3] 24)) (RetBest (w1.alloc (.cells #[.int .u64 0, .int .u64 3] 24)) knL 0 [3])) := by
    rintro g rfl
    refine choose_any knL 0 [3] _ _ _ (HE.out _ (HB1.out.alloc HB1.out.size _)) (row_one (by omega) (by unfold maxLen; omega) (by simp) (nAt_small HBB.out.2.2.2 ?_ ?_)) (by decide) knF
    all_goals simp [go_sem]
  go_wp2_with fail
  refine (HC2.out _ rfl).mono ?_
  rintro e w2 ⟨c, rfl, hbest, hb2⟩
  obtain rfl := hbest.unique kn2
  have HB2 : Hid (Below X.heap.size X w2) := (HB1.out.alloc HB1.out.size _).trans (hb2.mono (HB1.out.alloc HB1.out.size _).size)
  clear hbest hb2 HC2 HB1
  have HC3 := Lib.hid (choose_any knL 1 [] _ (.slice none 0 0) w2 (HE.out _ HB2.out) RowAt.nil (by decide) knF)
  go_wp2_with fail
  refine HC3.out.mono ?_
  rintro e w3 ⟨c, rfl, hbest, hb3⟩
  obtain rfl := hbest.unique kn3
  have HB3 : Hid (Below X.heap.size X w3) := HB2.out.trans (hb3.mono HB2.out.size)
  clear hbest hb3 HC3 HB2
  have HC4 : Hid (∀ g, g = w3.heap.size → Calls Try.prog 21 #[.slice (some ⟨w.heap.size + 1 + 1 + 1 + 1 + 1, 0, none⟩) 3 3, .int .i64 0, .slice (some ⟨g, 0, none⟩) 1 1, .agg #[.int .i64 0, .slice none 0 0]] (w3.alloc (.cells #[.int .u64 0, .int .u64 1] 24)) (RetRunO (w3.alloc (.cells #[.int .u64 0, .int .u64 1] 24)) (Look knL 0 [1] 0 []))) := by
    rintro g rfl
    refine lookup_any knL 0 [1] 0 [] _ _ _ _ (HE.out _ (HB3.out.alloc HB3.out.size _)) (row_one (by omega) (by unfold maxLen; omega) (by simp) (nAt_small HBB.out.1 ?_ ?_)) RowAt.nil (by decide) knF (by decide)
    all_goals simp [go_sem]
  go_wp2_with fail
  refine (HC4.out _ rfl).mono ?_
  rintro e w4 ⟨a, g, v, rfl, hlook, ho, hb4⟩
  obtain ⟨vp, vc, rfl⟩ := ho.shape
  obtain rfl : a = 7 := (hlook.unique ⟨2, kn1, rfl, rfl⟩).1
  have HB4 : Hid (Below X.heap.size X w4) := (HB3.out.alloc HB3.out.size _).trans (hb4.mono (HB3.out.alloc HB3.out.size _).size)
  clear hlook ho hb4 HC4 HB3
  go_wp2_with fail
  go_ret
  exact ⟨rfl, HB.out.trans (HB4.out.mono HB.out.size)⟩

end Go.Proofs.Ytnknpgfconfgjaa

/-
  The plain law of TableFirst: the table's own entries; the first of the order that matches. Entries in memory of a call's own.
-/
namespace Go.Proofs.Ytnknpgfconfgjaa
open Go.RowKit Go.Maps Stab

/-- The table's entries, in a list of their own. -/
def ownOf (l : List Ent) (tab : Int) (k : Nat) : List Ent := (sel l tab k).map (eAt l)
theorem ownOf_len (l : List Ent) (tab : Int) (k : Nat) : (ownOf l tab k).length = (sel l tab k).length := by simp [ownOf]
theorem ownOf_yes {l : List Ent} {tab : Int} {k : Nat} (h : (eAt l k).tab = tab) : ownOf l tab (k + 1) = ownOf l tab k ++ [eAt l k] := by
  unfold ownOf; rw [sel_succ_yes h]; simp
theorem ownOf_no {l : List Ent} {tab : Int} {k : Nat} (h : ¬ (eAt l k).tab = tab) : ownOf l tab (k + 1) = ownOf l tab k := by
  unfold ownOf; rw [sel_succ_no h]
theorem ownOf_at {l : List Ent} {tab : Int} {k j : Nat} (h : j < (sel l tab k).length) : eAt (ownOf l tab k) (j : Int) = eAt l (fnOf (sel l tab k) j) := by
  show (ownOf l tab k).getD (j : Int).toNat _ = _
  rw [Int.toNat_natCast, List.getD_eq_getElem?_getD]
  unfold ownOf
  rw [List.getElem?_map, List.getElem?_eq_getElem h, fnOf_at h]
  rfl

/-- A place of the own list, in the whole one. -/
def sig (l : List Ent) (tab : Int) (d : Int) : Int := if d < 0 then -1 else fnOf (sel l tab l.length) d.toNat
theorem best_own {l : List Ent} {tab : Int} {ks : List Nat} {d : Int} (h : Best (ownOf l tab l.length) tab ks (ownOf l tab l.length).length d) : Best l tab ks l.length (sig l tab d) := by
  have hmem : ∀ j : Nat, j < l.length → matB (eAt l j) tab ks = true → ∃ i, i < (sel l tab l.length).length ∧ fnOf (sel l tab l.length) i = (j : Int) := fun j hj hm => by
    have : (j : Int) ∈ sel l tab l.length := mem_sel.2 ⟨by omega, by omega, by
      by_cases e : (eAt l (j : Int)).tab = tab
      · exact e
      · rw [matB_tab e] at hm; cases hm⟩
    obtain ⟨i, -, hi, e⟩ := fnOf_mem.2 this
    exact ⟨i, hi, e⟩
  rw [ownOf_len] at h
  rcases h with ⟨rfl, h⟩ | ⟨h1, h2, h3, h4⟩
  · refine .inl ⟨rfl, fun j hj => ?_⟩
    cases hm : matB (eAt l j) tab ks
    · rfl
    · obtain ⟨i, hi, e⟩ := hmem j hj hm
      have := h i hi
      rw [ownOf_at hi, e, hm] at this; exact this
  · obtain ⟨d, rfl⟩ : ∃ n : Nat, d = (n : Int) := ⟨d.toNat, by omega⟩
    have hd : d < (sel l tab l.length).length := by omega
    have hs : sig l tab (d : Int) = fnOf (sel l tab l.length) d := by unfold sig; rw [if_neg (by omega), Int.toNat_natCast]
    rw [hs]
    have hr := sel_lt l tab hd
    rw [ownOf_at hd] at h3
    refine .inr ⟨hr.1, hr.2.1, h3, fun j hj hm => ?_⟩
    obtain ⟨i, hi, e⟩ := hmem j hj hm
    have hmi : matB (eAt (ownOf l tab l.length) (i : Int)) tab ks = true := by rw [ownOf_at hi, e]; exact hm
    rcases h4 i hi hmi with q | q
    · left; rw [← e]; congr 1; omega
    · right
      rw [← e]
      rw [tot_iff] at q ⊢
      rw [ownOf_at hi, ownOf_at hd] at q
      rcases q with q | ⟨q1, q | ⟨q2, q3⟩⟩
      · exact .inl q
      · exact .inr ⟨q1, .inl q⟩
      · exact .inr ⟨q1, .inr ⟨q2, sel_asc l tab l.length d i (by omega) hi⟩⟩
theorem few_own {l : List Ent} {tab : Int} (h : Few l) : Few (ownOf l tab l.length) := fun k hk => by
  rw [ownOf_len] at hk
  rw [ownOf_at hk]
  have hr := sel_lt l tab hk
  obtain ⟨j, hj⟩ : ∃ j : Nat, fnOf (sel l tab l.length) k = (j : Int) := ⟨(fnOf (sel l tab l.length) k).toNat, by unfold fnOf; omega⟩
  rw [hj]
  exact h j (by unfold fnOf at hj; omega)
/-- What is run is the same. -/
theorem look_own {l : List Ent} {tab : Int} {ks : List Nat} {a0 a b : Int} {g0 g h : List Nat} (x : Look l tab ks a0 g0 a g) (y : Look (ownOf l tab l.length) tab ks a0 g0 b h) : a = b ∧ g = h := by
  obtain ⟨c, h1, h2, h3⟩ := x
  obtain ⟨d, k1, k2, k3⟩ := y
  obtain rfl := h1.unique (best_own k1)
  have hd : d < 0 ∨ (0 ≤ d ∧ d.toNat < (sel l tab l.length).length) := by
    rcases k1 with ⟨e, -⟩ | ⟨q1, q2, -⟩
    · left; omega
    · right; rw [ownOf_len] at q2; omega
  unfold sig at h2 h3
  rcases hd with hd | ⟨hd, hd2⟩
  · rw [if_pos hd] at k2 k3
    rw [if_pos hd, if_pos (by omega)] at h2 h3
    exact ⟨h2.trans k2.symm, h3.trans k3.symm⟩
  · have hr := sel_lt l tab hd2
    rw [if_neg (by omega)] at k2 k3
    have h5 : ¬ d < 0 := by omega
    have h6 : ¬ fnOf (sel l tab l.length) d.toNat < 0 := by unfold fnOf; omega
    rw [if_neg h5, if_neg h6] at h2 h3
    have e := ownOf_at (l := l) (tab := tab) hd2
    rw [Int.toNat_of_nonneg hd] at e
    rw [e] at k2 k3
    exact ⟨h2.trans k2.symm, h3.trans k3.symm⟩

/-- The first one up to a place that matches. -/
def FirstAt (l : List Ent) (tab : Int) (ks : List Nat) (xs : List Int) (k : Nat) (f : Int) : Prop :=
  (f = -1 ∧ ∀ j, j < k → matB (eAt l (fnOf xs j)) tab ks = false) ∨ (∃ j, j < k ∧ f = fnOf xs j ∧ 0 ≤ f ∧ matB (eAt l f) tab ks = true ∧ ∀ i, i < j → matB (eAt l (fnOf xs i)) tab ks = false)
theorem FirstAt.best {l : List Ent} {tab : Int} {ks : List Nat} {xs : List Int} {f : Int} (h : IsOrd l tab xs) (hf : FirstAt l tab ks xs xs.length f) : Best l tab ks l.length f := by
  rcases hf with ⟨rfl, h2⟩ | ⟨j, hj, rfl, -, h3, h4⟩
  · exact h.none h2
  · exact h.best hj h4 h3
theorem FirstAt.no {l : List Ent} {tab : Int} {ks : List Nat} {xs : List Int} {k : Nat} (h : FirstAt l tab ks xs k (-1)) (hm : matB (eAt l (fnOf xs k)) tab ks = false) : FirstAt l tab ks xs (k + 1) (-1) := by
  rcases h with ⟨-, h⟩ | ⟨j, -, -, h, -⟩
  · refine .inl ⟨rfl, fun j hj => ?_⟩
    by_cases e : j = k
    · subst e; exact hm
    · exact h j (by omega)
  · omega
theorem FirstAt.yes {l : List Ent} {tab : Int} {ks : List Nat} {xs : List Int} {k : Nat} (h : FirstAt l tab ks xs k (-1)) (h0 : 0 ≤ fnOf xs k) (hm : matB (eAt l (fnOf xs k)) tab ks = true) : FirstAt l tab ks xs (k + 1) (fnOf xs k) := by
  rcases h with ⟨-, h⟩ | ⟨j, -, -, h, -⟩
  · exact .inr ⟨k, by omega, rfl, h0, hm, h⟩
  · omega
theorem FirstAt.had {l : List Ent} {tab : Int} {ks : List Nat} {xs : List Int} {k : Nat} {f : Int} (h : FirstAt l tab ks xs k f) (hf : 0 ≤ f) : FirstAt l tab ks xs (k + 1) f := by
  rcases h with ⟨h, -⟩ | ⟨j, h1, h2⟩
  · omega
  · exact .inr ⟨j, by omega, h2⟩

/-- An entry's cells. -/
def EntC (w0 : World) (c : List Value) (x : Ent) : Prop := ∃ p n cp r m d, c = [.int .i64 x.tab, .slice p n cp, .int .i64 x.len, .int .i64 x.prio, .int .i64 x.act, .slice r m d] ∧ PRow w0 (.slice p n cp) x.pats ∧ NRow w0 (.slice r m d) x.args
/-- Entries in memory of a call's own; what their slices are lies in older memory. -/
def OwnE (w0 W : World) (base : Nat) (v : Value) (es : List Ent) : Prop := ∃ ls : List (List Value), ls.length = es.length ∧ (∀ (j : Nat) (x : Ent) (c : List Value), es[j]? = some x → ls[j]? = some c → EntC w0 c x) ∧ W.ownsRow base 60 6 v es.length ls.flatten
theorem EntC.len {w0 : World} {c : List Value} {x : Ent} (h : EntC w0 c x) : c.length = 6 := by obtain ⟨p, n, cp, r, m, d, rfl, -⟩ := h; rfl
theorem OwnE.lens {w0 W : World} {base : Nat} {v : Value} {es : List Ent} {ls : List (List Value)} (h1 : ls.length = es.length) (h2 : ∀ (j : Nat) (x : Ent) (c : List Value), es[j]? = some x → ls[j]? = some c → EntC w0 c x) : ∀ c ∈ ls, c.length = 6 := fun c hc => by
  obtain ⟨j, hj, rfl⟩ := List.mem_iff_getElem.1 hc
  exact (h2 j _ _ (List.getElem?_eq_getElem (by omega)) (List.getElem?_eq_getElem hj)).len
theorem OwnE.row {w0 W : World} {base : Nat} {v : Value} {es : List Ent} (h : OwnE w0 W base v es) (hb : Below w0.heap.size w0 W) : ERow W v es := by
  obtain ⟨ls, h1, h2, h3⟩ := h
  refine rowAt_of_owns rfl h1 h3 (OwnE.lens (W := W) (base := base) (v := v) h1 h2) fun j x c hx hc b o _ hcl => ?_
  obtain ⟨p, n, cp, r, m, d, rfl, hp, hr⟩ := h2 j x c hx hc
  exact ⟨hcl 0 _ rfl, ⟨_, hcl 1 _ rfl, hp.below keepP hb⟩, hcl 2 _ rfl, hcl 3 _ rfl, hcl 4 _ rfl, ⟨_, hcl 5 _ rfl, hr.below keepN hb⟩⟩
theorem OwnE.snoc {w0 W : World} {base : Nat} {v : Value} {es : List Ent} {ls : List (List Value)} {x : Ent} {c : List Value} (h1 : ls.length = es.length) (h2 : ∀ (j : Nat) (x : Ent) (c : List Value), es[j]? = some x → ls[j]? = some c → EntC w0 c x) (hc : EntC w0 c x) (h3 : W.ownsRow base 60 6 v (es.length + 1) (ls.flatten ++ c)) : OwnE w0 W base v (es ++ [x]) := by
  refine ⟨ls ++ [c], by simp [h1], fun j y d hy hd => ?_, by simpa using h3⟩
  by_cases hj : j < es.length
  · rw [List.getElem?_append_left hj] at hy
    rw [List.getElem?_append_left (by omega)] at hd
    exact h2 j y d hy hd
  · rw [List.getElem?_append_right (by omega)] at hy
    rw [List.getElem?_append_right (by omega)] at hd
    obtain rfl : j = es.length := by
      have := (List.getElem?_eq_some_iff.1 hy).1
      simp at this
      omega
    simp at hy
    simp [h1] at hd
    subst hy hd
    exact hc
theorem elemEnt : ElemOk 54 60 (.agg #[.int .i64 0, .slice none 0 0, .int .i64 0, .int .i64 0, .int .i64 0, .slice none 0 0]) 6 80 := ⟨Try.underlying54, infoEnt, rfl, by decide⟩

/-- What has been seen. -/
def seenD (xs : List Int) : Nat → DataW Unit
  | 0 => .map []
  | k + 1 => (seenD xs k).put (.int .i64 (fnOf xs k)) (.lit (.int .i64 1))
theorem seen_not {xs : List Int} {x : Int} {z : DataW Unit} : ∀ {k : Nat}, (∀ j, j < k → fnOf xs j ≠ x) → (seenD xs k).atKey (.int .i64 x) z = z
  | 0, _ => rfl
  | k + 1, h => by
    unfold seenD
    rw [atKey_put_other (by intro e; simp only [Lit.int.injEq, true_and] at e; exact h k (by omega) e.symm)]
    exact seen_not fun j hj => h j (by omega)

end Go.Proofs.Ytnknpgfconfgjaa
