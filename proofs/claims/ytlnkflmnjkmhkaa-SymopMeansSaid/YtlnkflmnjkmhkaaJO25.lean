/-
  Lemmas, joined: SopP3, RefAnd.
-/
import Derived.Test.YtlnkflmnjkmhkaaJO24
import Derived.Test.YtlnkflmnjkmhkaaJO16
import Derived.Test.YtlnkflmnjkmhkaaJO02
import Derived.BigQuiet
import Derived.Deep.QuietTactic
import Derived.Outline
/-
  The plain law of SymopMeans: all eight.
-/
namespace Go.Proofs.Ytlnkflmnjkmhkaa
open Go.RowKit Go.Maps

section
variable {W X : Nat} {s0 : BS} {xs ys : List Int}

/-- The stores behind the eight calls, and what they tell. -/
def so1 (xs ys : List Int) (s0 : BS) : BS × List Int := ((sumA xs ys 0 s0 (max xs.length ys.length)).1, (sumA xs ys 0 s0 (max xs.length ys.length)).2.2)
def so2 (xs ys : List Int) (s0 : BS) : BS × List Int := subS xs ys (so1 xs ys s0).1
def so3 (xs ys : List Int) (s0 : BS) : BS × List Int := subS [] xs (so2 xs ys s0).1
def so4 (xs ys : List Int) (s0 : BS) : BS × Int := eqS xs ys (so3 xs ys s0).1
def so5 (xs ys : List Int) (s0 : BS) : BS × Int := lessS xs ys (so4 xs ys s0).1
def so6 (xs ys : List Int) (s0 : BS) : BS × Int := atMostS xs ys (so5 xs ys s0).1
def so7 (xs ys : List Int) (s0 : BS) : BS × Int := anyS xs (so6 xs ys s0).1
def so8 (pv pm : Nat) (xs ys : List Int) (s0 : BS) : BS × Int := agreesS (bitB pm) (bitB pv) xs (so7 xs ys s0).1

/-- What each of the eight means. -/
def o1 (W X m : Nat) (q : Int → Bool) : Nat := (pN W q + kN W X q) % 2 ^ 128 % 2 ^ sh (m : Int)
def o2 (W X m : Nat) (q : Int → Bool) : Nat := subN (pN W q) (kN W X q) (m : Int)
def o3 (W : Nat) (q : Int → Bool) : Nat := subN 0 (pN W q) (W : Int)
def o4 (W X : Nat) (q : Int → Bool) : Nat := if decide (pN W q = kN W X q) then 1 else 0
def o5 (W X : Nat) (q : Int → Bool) : Nat := if decide (pN W q < kN W X q) then 1 else 0
def o6 (W X : Nat) (q : Int → Bool) : Nat := if decide (pN W q ≤ kN W X q) then 1 else 0
def o7 (W : Nat) (q : Int → Bool) : Nat := if decide (pN W q ≠ 0) then 1 else 0
def o8 (W pv pm : Nat) (q : Int → Bool) : Nat := if decide (pN W q &&& pm % 2 ^ sh (W : Int) = pv &&& pm % 2 ^ sh (W : Int)) then 1 else 0

theorem MO.bx (h : MO W X s0 xs ys) (q : Int → Bool) : (fun i => valP s0.nodes q (xs.getD i 0)) = (pN W q).testBit := by
  funext i
  unfold pN
  rw [ofBits_testBit]
  by_cases hi : i < W
  · rw [h.vx q i hi]; simp [hi]
  · rw [getD_over _ _ (by rw [h.lx]; omega), val_zero]; simp [hi]
theorem MO.by' (h : MO W X s0 xs ys) (q : Int → Bool) : (fun i => valP s0.nodes q (ys.getD i 0)) = (kN W X q).testBit := by
  funext i
  unfold kN
  rw [ofBits_testBit]
  by_cases hi : i < X
  · rw [h.vy q i hi]; simp [hi]
  · rw [getD_over _ _ (by rw [h.ly]; omega), val_zero]; simp [hi]

theorem wide_getD (xs ys : List Int) (i : Nat) : (wideL xs ys).getD i 0 = ys.getD i 0 := by
  unfold wideL
  by_cases h : i < ys.length
  · rw [getD_append_l _ _ _ h]
  · rw [getD_append_r _ _ _ (by omega), getD_repl, getD_over _ _ (by omega)]

theorem sum_means {V N : Nat} {s : BS} {c0 : Int} {cb : Bool} {p k m : Nat → Nat} (hV : V ≤ 64) (hW : W ≤ 64) (h : GoodV V 20000 N s) (hx : Lev W s.nodes xs) (hy : Lev W s.nodes ys) (hc : At s.nodes W c0) (M : Nat) (hM : M ≤ 128) (hN : N + 7 * Sc W V M < 20000)
    {r : (Int → Bool) → Nat} (hr : ∀ q, ofBits (sumC (valP s.nodes q c0) (fun i => valP s.nodes q (xs.getD i 0)) fun i => valP s.nodes q (ys.getD i 0)) M = r q) :
    GoodV V 20000 (N + 7 * Sc W V M) (sumA xs ys c0 s M).1 ∧ Grew s (sumA xs ys c0 s M).1 ∧ Means (sumA xs ys c0 s M).1 (sumA xs ys c0 s M).2.2 r := by
  obtain ⟨h1, h2, -, h3, -, h5⟩ := sumA_good hV hW h hx hy hc M hN
  have hl := sumA_len xs ys c0 s M
  refine ⟨h1, h2, Means.mk' (by rw [hl]; exact hM) h3 fun q i => ?_⟩
  rw [← hr q, ofBits_testBit, hl]
  by_cases hi : i < M
  · rw [h5 q i hi]
  · simp [hi]

theorem sub_means {V N : Nat} {s : BS} (hV : V ≤ 64) (hW : W ≤ 64) (h : GoodV V 20000 N s) (hx : Lev W s.nodes xs) (hy : Lev W s.nodes ys) (hM : max xs.length ys.length ≤ 128) (hN : N + 8 * Sc W V (max xs.length ys.length) < 20000)
    {p k : (Int → Bool) → Nat} (hp : ∀ q, p q < 2 ^ max xs.length ys.length) (hk : ∀ q, k q < 2 ^ max xs.length ys.length) (ep : ∀ q, (fun i => valP s.nodes q (xs.getD i 0)) = (p q).testBit) (ek : ∀ q, (fun i => valP s.nodes q (ys.getD i 0)) = (k q).testBit) :
    GoodV V 20000 (N + 8 * Sc W V (max xs.length ys.length)) (subS xs ys s).1 ∧ Grew s (subS xs ys s).1 ∧ Means (subS xs ys s).1 (subS xs ys s).2 (fun q => subN (p q) (k q) ((max xs.length ys.length : Nat) : Int)) := by
  have hw : Lev W s.nodes (wideL xs ys) := fun i => by rw [wide_getD]; exact hy i
  obtain ⟨a1, a2, a3, a4⟩ := mapNotV hV hW h hw (max xs.length ys.length) (by omega)
  have hl := mapS_len notF (wideL xs ys) (max xs.length ys.length) s
  obtain ⟨b1, b2, b3⟩ := sum_means (xs := xs) (p := fun x => x) (k := fun x => x) (m := fun x => x) (cb := true) (r := fun q => subN (p q) (k q) ((max xs.length ys.length : Nat) : Int)) hV hW a1 (a2.lev hx) a3 (at_one _ hW) (max xs.length ys.length) hM (by omega) (fun q => by
    rw [val_one]
    have e1 : (fun i => valP (mapS notF (wideL xs ys) (max xs.length ys.length) s).1.nodes q (xs.getD i 0)) = (p q).testBit := by
      rw [← ep q]; funext i; exact a2.val h.ord q (hx i).1
    have e2 : ∀ i, i < max xs.length ys.length → valP (mapS notF (wideL xs ys) (max xs.length ys.length) s).1.nodes q ((mapS notF (wideL xs ys) (max xs.length ys.length) s).2.getD i 0) = !(k q).testBit i := fun i hi => by
      rw [a4 q i hi, wide_getD]; exact congrArg _ (congrFun (ek q) i)
    rw [e1]
    have e3 : ofBits (sumC true (p q).testBit fun i => valP (mapS notF (wideL xs ys) (max xs.length ys.length) s).1.nodes q ((mapS notF (wideL xs ys) (max xs.length ys.length) s).2.getD i 0)) (max xs.length ys.length) = ofBits (sumC true (p q).testBit fun i => !(k q).testBit i) (max xs.length ys.length) := by
      rw [sumC_mod, sumC_mod]
      congr 3
      apply Nat.eq_of_testBit_eq
      intro i
      rw [ofBits_testBit, ofBits_testBit]
      by_cases hi : i < max xs.length ys.length
      · rw [e2 i hi]
      · simp only [hi, decide_false, Bool.false_and]
    rw [e3, sub_mod hM (hp q) (hk q)]
    unfold subN sh
    congr 2
    omega)
  exact ⟨b1.mono (by omega), a2.trans b2, b3⟩

theorem truthS_good {V C N : Nat} {s : BS} (h : GoodV V C N s) (a : Int) : truthS s a = a := by unfold truthS; rw [h.full]; rfl

theorem eight (h : MO W X s0 xs ys) (hW1 : 1 ≤ W) (hW : W ≤ 4) (hX1 : 1 ≤ X) (hX : X ≤ 4) (pv pm : Nat) :
    Ord (so8 pv pm xs ys s0).1.nodes ∧ Means (so8 pv pm xs ys s0).1 (so1 xs ys s0).2 (o1 W X (max W X)) ∧ Means (so8 pv pm xs ys s0).1 (so2 xs ys s0).2 (o2 W X (max W X)) ∧ Means (so8 pv pm xs ys s0).1 (so3 xs ys s0).2 (o3 W) ∧
      Means (so8 pv pm xs ys s0).1 [(so4 xs ys s0).2] (o4 W X) ∧ Means (so8 pv pm xs ys s0).1 [(so5 xs ys s0).2] (o5 W X) ∧ Means (so8 pv pm xs ys s0).1 [(so6 xs ys s0).2] (o6 W X) ∧ Means (so8 pv pm xs ys s0).1 [(so7 xs ys s0).2] (o7 W) ∧
      Means (so8 pv pm xs ys s0).1 [(so8 pv pm xs ys s0).2] (o8 W pv pm) := by
  have lx := h.lx
  have ly := h.ly
  have hM : max xs.length ys.length = max W X := by rw [lx, ly]
  obtain ⟨S1, S2⟩ := Sc_le W X hW1 hW hX1 hX
  have hV : W + X ≤ 64 := by omega
  have hW64 : W ≤ 64 := by omega
  have pl : ∀ q, pN W q < 2 ^ max W X := fun q => Nat.lt_of_lt_of_le (ofBits_lt _ _) (Nat.pow_le_pow_right (by omega) (Nat.le_max_left _ _))
  have kl : ∀ q, kN W X q < 2 ^ max W X := fun q => Nat.lt_of_lt_of_le (ofBits_lt _ _) (Nat.pow_le_pow_right (by omega) (Nat.le_max_right _ _))
  have pW : ∀ q, pN W q < 2 ^ W := fun q => ofBits_lt _ _
  obtain ⟨a1, a2, a3⟩ : GoodV (W + X) 20000 (8 + 7 * Sc W (W + X) (max W X)) (so1 xs ys s0).1 ∧ Grew s0 (so1 xs ys s0).1 ∧ Means (so1 xs ys s0).1 (so1 xs ys s0).2 (o1 W X (max W X)) := by
    unfold so1
    rw [hM]
    exact sum_means (p := fun x => x) (k := fun x => x) (m := fun x => x) (cb := true) hV hW64 h.good h.ax h.ay (at_zero _ hW64) (max W X) (by omega) (by omega) (fun q => by
      rw [val_zero, h.bx q, h.by' q, add_mod (by omega) (pl q) (kl q)]
      unfold o1 sh
      congr 2
      omega)
  have x1 := a2.lev h.ax
  have y1 := a2.lev h.ay
  have e1 : ∀ q, (fun i => valP (so1 xs ys s0).1.nodes q (xs.getD i 0)) = (pN W q).testBit := fun q => by rw [← h.bx q]; funext i; exact a2.val h.good.ord q (h.ax i).1
  have f1 : ∀ q, (fun i => valP (so1 xs ys s0).1.nodes q (ys.getD i 0)) = (kN W X q).testBit := fun q => by rw [← h.by' q]; funext i; exact a2.val h.good.ord q (h.ay i).1
  obtain ⟨b1, b2, b3⟩ : GoodV (W + X) 20000 (8 + 15 * Sc W (W + X) (max W X)) (so2 xs ys s0).1 ∧ Grew (so1 xs ys s0).1 (so2 xs ys s0).1 ∧ Means (so2 xs ys s0).1 (so2 xs ys s0).2 (o2 W X (max W X)) := by
    have := sub_means (xs := xs) (ys := ys) (p := pN W) (k := kN W X) hV hW64 a1 x1 y1 (by omega) (by rw [hM]; omega) (fun q => by rw [hM]; exact pl q) (fun q => by rw [hM]; exact kl q) e1 f1
    rw [hM] at this
    exact ⟨this.1.mono (by omega), this.2⟩
  have x2 := b2.lev x1
  have y2 := b2.lev y1
  have e2 : ∀ q, (fun i => valP (so2 xs ys s0).1.nodes q (xs.getD i 0)) = (pN W q).testBit := fun q => by rw [← e1 q]; funext i; exact b2.val a1.ord q (x1 i).1
  have f2 : ∀ q, (fun i => valP (so2 xs ys s0).1.nodes q (ys.getD i 0)) = (kN W X q).testBit := fun q => by rw [← f1 q]; funext i; exact b2.val a1.ord q (y1 i).1
  obtain ⟨c1, c2, c3⟩ : GoodV (W + X) 20000 (8 + 15 * Sc W (W + X) (max W X) + 8 * Sc W (W + X) W) (so3 xs ys s0).1 ∧ Grew (so2 xs ys s0).1 (so3 xs ys s0).1 ∧ Means (so3 xs ys s0).1 (so3 xs ys s0).2 (o3 W) := by
    have hm0 : max ([] : List Int).length xs.length = W := by simp; omega
    have := sub_means (xs := []) (ys := xs) (p := fun _ => 0) (k := pN W) hV hW64 b1 (fun i => by simp; exact at_zero _ (by omega)) x2 (by omega) (by rw [hm0]; omega) (fun q => Nat.two_pow_pos _) (fun q => by rw [hm0]; exact pW q) (fun q => by funext i; simp [val_zero]) e2
    rw [hm0] at this
    exact this
  have x3 := c2.lev x2
  have y3 := c2.lev y2
  have e3 : ∀ q, (fun i => valP (so3 xs ys s0).1.nodes q (xs.getD i 0)) = (pN W q).testBit := fun q => by rw [← e2 q]; funext i; exact c2.val b1.ord q (x2 i).1
  have f3 : ∀ q, (fun i => valP (so3 xs ys s0).1.nodes q (ys.getD i 0)) = (kN W X q).testBit := fun q => by rw [← f2 q]; funext i; exact c2.val b1.ord q (y2 i).1
  obtain ⟨d1, d2, d3⟩ : GoodV (W + X) 20000 (8 + 19 * Sc W (W + X) (max W X) + 8 * Sc W (W + X) W) (so4 xs ys s0).1 ∧ Grew (so3 xs ys s0).1 (so4 xs ys s0).1 ∧ Means (so4 xs ys s0).1 [(so4 xs ys s0).2] (o4 W X) := by
    obtain ⟨k1, k2, k3, k4⟩ := foldP_good (A := 4) (op := fun t x y => t && (x == y)) (g := eqStep) (fun N s v t x y hv hg hN ht hx hy => eqV hg hV hN hv ht hx hy) hW64 c1 x3 y3 (at_one _ hW64) (max W X) (by omega)
    unfold so4 eqS
    rw [hM, truthS_good k1]
    refine ⟨k1.mono (by omega), k2, means_one k3.1 fun q => ?_⟩
    rw [k4 q, val_one, e3 q, f3 q, eq_bits, ofBits_self (pl q), ofBits_self (kl q)]
  have x4 := d2.lev x3
  have y4 := d2.lev y3
  have e4 : ∀ q, (fun i => valP (so4 xs ys s0).1.nodes q (xs.getD i 0)) = (pN W q).testBit := fun q => by rw [← e3 q]; funext i; exact d2.val c1.ord q (x3 i).1
  have f4 : ∀ q, (fun i => valP (so4 xs ys s0).1.nodes q (ys.getD i 0)) = (kN W X q).testBit := fun q => by rw [← f3 q]; funext i; exact d2.val c1.ord q (y3 i).1
  obtain ⟨g1, g2, g3⟩ : GoodV (W + X) 20000 (8 + 22 * Sc W (W + X) (max W X) + 8 * Sc W (W + X) W) (so5 xs ys s0).1 ∧ Grew (so4 xs ys s0).1 (so5 xs ys s0).1 ∧ Means (so5 xs ys s0).1 [(so5 xs ys s0).2] (o5 W X) := by
    obtain ⟨k1, k2, k3, k4⟩ := foldP_good (A := 3) (op := fun t x y => if x != y then y else t) (g := lessStep) (fun N s v t x y hv hg hN ht hx hy => lessV hg hV hN hv ht hx hy) hW64 d1 x4 y4 (at_zero _ hW64) (max W X) (by omega)
    unfold so5 lessS
    rw [hM, truthS_good k1]
    refine ⟨k1.mono (by omega), k2, means_one k3.1 fun q => ?_⟩
    rw [k4 q, val_zero, e4 q, f4 q, less_bits, ofBits_self (pl q), ofBits_self (kl q)]
  have x5 := g2.lev x4
  have y5 := g2.lev y4
  have e5 : ∀ q, (fun i => valP (so5 xs ys s0).1.nodes q (xs.getD i 0)) = (pN W q).testBit := fun q => by rw [← e4 q]; funext i; exact g2.val d1.ord q (x4 i).1
  have f5 : ∀ q, (fun i => valP (so5 xs ys s0).1.nodes q (ys.getD i 0)) = (kN W X q).testBit := fun q => by rw [← f4 q]; funext i; exact g2.val d1.ord q (y4 i).1
  obtain ⟨i1, i2, i3⟩ : GoodV (W + X) 20000 (8 + 25 * Sc W (W + X) (max W X) + 8 * Sc W (W + X) W + 256) (so6 xs ys s0).1 ∧ Grew (so5 xs ys s0).1 (so6 xs ys s0).1 ∧ Means (so6 xs ys s0).1 [(so6 xs ys s0).2] (o6 W X) := by
    obtain ⟨k1, k2, k3, k4⟩ := foldP_good (A := 3) (op := fun t x y => if x != y then y else t) (g := lessStep) (fun N s v t x y hv hg hN ht hx hy => lessV hg hV hN hv ht hx hy) hW64 g1 y5 x5 (at_zero _ hW64) (max W X) (by omega)
    have h256 : 2 ^ (W + X - 0) ≤ 256 := Nat.le_trans (Nat.pow_le_pow_right (by omega) (show W + X - 0 ≤ 8 by omega)) (by decide)
    obtain ⟨n1, n2, n3, n4⟩ := notV k1 hV (v := 0) (by omega) (by omega) (k3.mono (Nat.zero_le _))
    unfold so6 atMostS lessS
    rw [Nat.max_comm ys.length, hM, truthS_good k1]
    refine ⟨n1.mono (by omega), k2.trans n2, means_one n3.1 fun q => ?_⟩
    rw [n4 q, k4 q, val_zero, e5 q, f5 q, less_bits, ofBits_self (pl q), ofBits_self (kl q)]
    rw [Bool.eq_iff_iff]
    simp
  have x6 := i2.lev x5
  have e6 : ∀ q, (fun i => valP (so6 xs ys s0).1.nodes q (xs.getD i 0)) = (pN W q).testBit := fun q => by rw [← e5 q]; funext i; exact i2.val g1.ord q (x5 i).1
  obtain ⟨j1, j2, j3⟩ : GoodV (W + X) 20000 (8 + 25 * Sc W (W + X) (max W X) + 9 * Sc W (W + X) W + 256) (so7 xs ys s0).1 ∧ Grew (so6 xs ys s0).1 (so7 xs ys s0).1 ∧ Means (so7 xs ys s0).1 [(so7 xs ys s0).2] (o7 W) := by
    obtain ⟨k1, k2, k3, k4⟩ := foldI_good (A := 1) (op := fun _ t x => t || x) (g := fun _ => orF) (fun k N s v t x hv hg hN ht hx => by
      rw [Nat.one_mul] at hN ⊢
      exact orV hg hV hN hv ht hx) hW64 i1 x6 (at_zero _ hW64) W (by omega)
    unfold so7 anyS
    rw [lx, truthS_good k1]
    refine ⟨k1.mono (by omega), k2, means_one k3.1 fun q => ?_⟩
    rw [k4 q, val_zero, e6 q, any_bits, ofBits_self (pW q), Bool.false_or]
  have x7 := j2.lev x6
  have e7 : ∀ q, (fun i => valP (so7 xs ys s0).1.nodes q (xs.getD i 0)) = (pN W q).testBit := fun q => by rw [← e6 q]; funext i; exact j2.val i1.ord q (x6 i).1
  obtain ⟨l1, l2, l3⟩ : GoodV (W + X) 20000 (8 + 25 * Sc W (W + X) (max W X) + 11 * Sc W (W + X) W + 256) (so8 pv pm xs ys s0).1 ∧ Grew (so7 xs ys s0).1 (so8 pv pm xs ys s0).1 ∧ Means (so8 pv pm xs ys s0).1 [(so8 pv pm xs ys s0).2] (o8 W pv pm) := by
    obtain ⟨k1, k2, k3, k4⟩ := foldI_good (A := 2) (op := fun k t x => t && (!bitB pm k || (x == bitB pv k))) (g := agStep (bitB pm) (bitB pv)) (fun k N s v t x hv hg hN ht hx => agV _ _ k hg hV hN hv ht hx) hW64 j1 x7 (at_one _ hW64) W (by omega)
    unfold so8 agreesS
    rw [lx, truthS_good k1]
    refine ⟨k1.mono (by omega), k2, means_one k3.1 fun q => ?_⟩
    rw [k4 q, val_one, e7 q, agrees_bits (pN W q).testBit (fun k => bitB pm k) (fun k => bitB pv k), show sh (W : Int) = W by unfold sh; omega, ← agrees_num (pW q)]
    rw [Bool.eq_iff_iff]
    simp only [decide_eq_true_eq]
    have eb : ∀ (n i : Nat), i < W → bitB n (i : Nat) = n.testBit i := fun n i hi => by unfold bitB; simp; omega
    constructor
    · intro hh i hi hm; rw [hh i hi (by rw [eb pm i hi]; exact hm), eb pv i hi]
    · intro hh i hi hm; rw [eb pv i hi]; exact hh i hi (by rw [← eb pm i hi]; exact hm)
  refine ⟨l1.ord, a3.grew (b2.trans (c2.trans (d2.trans (g2.trans (i2.trans (j2.trans l2)))))) a1.ord, b3.grew (c2.trans (d2.trans (g2.trans (i2.trans (j2.trans l2))))) b1.ord, c3.grew (d2.trans (g2.trans (i2.trans (j2.trans l2)))) c1.ord, d3.grew (g2.trans (i2.trans (j2.trans l2))) d1.ord,
    g3.grew (i2.trans (j2.trans l2)) g1.ord, i3.grew (j2.trans l2) i1.ord, j3.grew l2 j1.ord, l3⟩

end
end Go.Proofs.Ytlnkflmnjkmhkaa

/-
  Contract of quillonref01.And: bit by bit.
-/
namespace Go.Proofs.Ytlnkflmnjkmhkaa
open Go.RowKit

set_option maxRecDepth 100000 in
set_option maxHeartbeats 4000000 in
theorem refAnd_any (a b : Nat) (ha : a < B * B) (hb : b < B * B) (w : World) :
    Calls Try.prog 32 #[numV a, numV b] w (RetNum w (a &&& b)) := by
  obtain ⟨fa, hfa⟩ : ∃ fa, fa = a.testBit := ⟨_, rfl⟩
  obtain ⟨fb, hfb⟩ : ∃ fb, fb = b.testBit := ⟨_, rfl⟩
  have HA : Hid (∀ W, Calls Try.prog 88 #[numV a] W fun e w' => e = .returned (.agg (rowA fa)) ∧ Below W.heap.size W w') := fun W => by rw [hfa]; exact refBits_any a ha W
  have HB : Hid (∀ W, Calls Try.prog 88 #[numV b] W fun e w' => e = .returned (.agg (rowA fb)) ∧ Below W.heap.size W w') := fun W => by rw [hfb]; exact refBits_any b hb W
  have HFA := Lib.hid hfa
  have HFB := Lib.hid hfb
  obtain ⟨h1, l1, e1, -, -⟩ := numV_parts a
  obtain ⟨h2, l2, e2, -, -⟩ := numV_parts b
  rw [e1] at HA ⊢
  rw [e2] at HB ⊢
  clear e1 e2 hfa hfb
  go_enter Try.func32, Try.ntmps32
  go_wp2_with fail
  obtain ⟨W0, hW0⟩ : ∃ W0, W0 = ((w.alloc (.cells #[.int .u64 (h1 : Int), .int .u64 (l1 : Int)] 41)).alloc (.cells #[.int .u64 (h2 : Int), .int .u64 (l2 : Int)] 41)).alloc (.cells #[.int .u64 0, .int .u64 0] 41) := ⟨_, rfl⟩
  have hbW : Below w.heap.size w W0 := by rw [hW0]; exact (by repeat (first | exact Below.refl _ _ | assumption | refine Below.drew ?_ | refine Below.alloc ?_ (by first | omega | (simp <;> omega)) _ | refine Below.setCell ?_ (by first | omega | (simp <;> omega)) _ | refine Below.trans ?_ (Below.mono (by assumption) (by first | omega | (simp <;> omega)))))
  have z0 : w.heap.size < W0.heap.size := by rw [hW0]; simp <;> omega
  have z1 : w.heap.size + 1 < W0.heap.size := by rw [hW0]; simp
  have c0 : W0.cell? ⟨w.heap.size, 0, none⟩ = some (.int .u64 (h1 : Int)) := by rw [hW0]; simp [go_sem]
  have c1 : W0.cell? ⟨w.heap.size, 1, none⟩ = some (.int .u64 (l1 : Int)) := by rw [hW0]; simp [go_sem]
  have c2 : W0.cell? ⟨w.heap.size + 1, 0, none⟩ = some (.int .u64 (h2 : Int)) := by rw [hW0]; simp [go_sem]
  have c3 : W0.cell? ⟨w.heap.size + 1, 1, none⟩ = some (.int .u64 (l2 : Int)) := by rw [hW0]; simp [go_sem]
  have z2 : w.heap.size + 1 + 1 < W0.heap.size := by rw [hW0]; simp
  have cr : W0.heap[w.heap.size + 1 + 1]? = some (.cells #[.int .u64 0, .int .u64 0] 41 (0, 0)) := by
    rw [hW0]
    have := heap_new ((w.alloc (.cells #[.int .u64 (h1 : Int), .int .u64 (l1 : Int)] 41)).alloc (.cells #[.int .u64 (h2 : Int), .int .u64 (l2 : Int)] 41)) (.cells #[.int .u64 0, .int .u64 0] 41)
    simp only [World.size_alloc] at this
    exact this
  rw [← hW0]
  have HBW0 := Lib.hid hbW
  clear hW0 hbW
  refine wp_region_inv (by kernel_rfl) (fun L a' w' => ∃ v5 v6 v8 v9 v10 v11 : Value, a' = ⟨#[.agg #[.int .u64 (h1 : Int), .int .u64 (l1 : Int)], .agg #[.int .u64 (h2 : Int), .int .u64 (l2 : Int)], .pointer (some ⟨w.heap.size, 0, none⟩), .pointer (some ⟨w.heap.size + 1, 0, none⟩), .pointer (some ⟨w.heap.size + 1 + 1, 0, none⟩), v5, v6, undef, v8, v9, v10, v11, undef, undef, undef, undef, undef, undef, undef, undef, undef, undef, undef, undef, undef, undef, undef, undef], []⟩ ∧ TwoI (.agg #[.int .u64 (h1 : Int), .int .u64 (l1 : Int)]) (.agg #[.int .u64 (h2 : Int), .int .u64 (l2 : Int)]) fa fb W0 L v5 v6 v8 v9 v10 v11 w') ?_ ?_ ?_ ?_
  · exact ⟨_, _, _, _, _, _, rfl, TwoI.init (by funext i; unfold did; match i with | 0 => rfl | 1 => rfl | 2 => rfl | 3 => rfl | 4 => rfl | 5 => rfl | 6 => rfl | 7 => rfl | i + 8 => rfl) (below_drewN (Below.refl _ _) 1)⟩
  · rintro L a' w' i hL hi hnd hdep ⟨v5, v6, v8, v9, v10, v11, rfl, hI⟩
    have hL8 : L.size = 8 := hL
    have HI := Lib.hid hI
    have d0 : w'.cell? ⟨w.heap.size, 0, none⟩ = some (.int .u64 (h1 : Int)) := (hI.below.cell (p := ⟨w.heap.size, 0, none⟩) z0).trans c0
    have d1 : w'.cell? ⟨w.heap.size, 1, none⟩ = some (.int .u64 (l1 : Int)) := (hI.below.cell (p := ⟨w.heap.size, 1, none⟩) z0).trans c1
    have d2 : w'.cell? ⟨w.heap.size + 1, 0, none⟩ = some (.int .u64 (h2 : Int)) := (hI.below.cell (p := ⟨w.heap.size + 1, 0, none⟩) z1).trans c2
    have d3 : w'.cell? ⟨w.heap.size + 1, 1, none⟩ = some (.int .u64 (l2 : Int)) := (hI.below.cell (p := ⟨w.heap.size + 1, 1, none⟩) z1).trans c3
    have hZ : Try.zeroCells120 = rowA fun _ => false := by kernel_rfl
    have HZ := Lib.hid hZ
    clear hZ hI
    match i, hi with
    | 0, _ =>
      clear hdep hnd
      refine wpOp_step rfl (fun K' hK => ?_)
      go_simp
      exact hK _ _ ⟨_, _, _, _, _, _, rfl, HI.out.s0 hL8⟩
    | 1, _ =>
      have q := HI.out.h0 (hdep _ rfl ⟨0, .data⟩ (by simp) (by kernel_rfl))
      subst q
      clear hdep hnd
      refine wpOp_step rfl (fun K' hK => ?_)
      go_simp
      refine (HA.out _).mono ?_
      rintro e w1 ⟨rfl, hb1⟩
      exact hK _ _ ⟨_, _, _, _, _, _, rfl, (HI.out.below' hb1).s1 hL8⟩
    | 2, _ =>
      clear hdep hnd
      refine wpOp_step rfl (fun K' hK => ?_)
      go_simp
      exact hK _ _ ⟨_, _, _, _, _, _, rfl, HI.out.s2 hL8⟩
    | 3, _ =>
      have q := HI.out.h2 (hdep _ rfl ⟨2, .data⟩ (by simp) (by kernel_rfl))
      subst q
      clear hdep hnd
      refine wpOp_step rfl (fun K' hK => ?_)
      go_simp
      refine (HB.out _).mono ?_
      rintro e w1 ⟨rfl, hb1⟩
      exact hK _ _ ⟨_, _, _, _, _, _, rfl, (HI.out.below' hb1).s3 hL8⟩
    | 4, _ =>
      have hnd' := Lib.hid hnd
      clear hdep hnd
      refine wpOp_step rfl (fun K' hK => ?_)
      go_simp
      rw [HZ.out]
      exact hK _ _ ⟨_, _, _, _, _, _, rfl, HI.out.s4 hL8 hnd'.out⟩
    | 5, _ =>
      have hnd' := Lib.hid hnd
      clear hdep hnd
      refine wpOp_step rfl (fun K' hK => ?_)
      go_simp
      rw [HZ.out]
      exact hK _ _ ⟨_, _, _, _, _, _, rfl, HI.out.s5 hL8 hnd'.out⟩
    | 6, _ =>
      have q4 := hdep _ rfl ⟨4, .data⟩ (by simp) (by kernel_rfl)
      have q := HI.out.h1 (hdep _ rfl ⟨1, .data⟩ (by simp) (by kernel_rfl))
      subst q
      obtain ⟨g, e1, -, e3⟩ := HI.out.h4 q4
      subst e1
      clear hdep hnd
      refine wpOp_step rfl (fun K' hK => ?_)
      refine store_wanted rfl ?_
      exact wp_store_row 120 (.tmp 5) (.tmp 9) rfl g (rowA fa) rfl rfl 120 _ e3 (by rw [rowA_size]; exact infoRow) (by rw [rowA_size, rowA_size]) (rowA_one _) (hK _ _ ⟨_, _, _, _, _, _, rfl, HI.out.s6 hL8 q4 rfl⟩)
    | 7, _ =>
      have q5 := hdep _ rfl ⟨5, .data⟩ (by simp) (by kernel_rfl)
      have q := HI.out.h3 (hdep _ rfl ⟨3, .data⟩ (by simp) (by kernel_rfl))
      subst q
      obtain ⟨g, e1, -, e3⟩ := HI.out.h5 q5
      subst e1
      clear hdep hnd
      refine wpOp_step rfl (fun K' hK => ?_)
      refine store_wanted rfl ?_
      exact wp_store_row 120 (.tmp 6) (.tmp 11) rfl g (rowA fb) rfl rfl 120 _ e3 (by rw [rowA_size]; exact infoRow) (by rw [rowA_size, rowA_size]) (rowA_one _) (hK _ _ ⟨_, _, _, _, _, _, rfl, HI.out.s7 hL8 q5 rfl⟩)
  · intro i o ho e he
    match i, ho with
    | 0, ho => cases ho; simp at he
    | 1, ho => cases ho; simp at he; subst he; show (0 : Nat) < 1; omega
    | 2, ho => cases ho; simp at he
    | 3, ho => cases ho; simp at he; rcases he with rfl | rfl <;> (simp <;> omega)
    | 4, ho => cases ho; simp at he
    | 5, ho => cases ho; simp at he
    | 6, ho => cases ho; simp at he; rcases he with rfl | rfl | rfl | rfl | rfl | rfl | rfl | rfl | rfl <;> (simp <;> omega)
    | 7, ho => cases ho; simp at he; rcases he with rfl | rfl | rfl | rfl | rfl | rfl | rfl | rfl | rfl | rfl <;> (simp <;> omega)
  rintro L a' w' hall ⟨v5, v6, v8, v9, v10, v11, rfl, hI⟩
  obtain ⟨rfl, rfl, rfl, rfl, gx, gy, hgn, rfl, rfl, hgx, hgy, hrx, hry, hbw⟩ := hI.all hall
  have HRX := Lib.hid hrx
  have HRY := Lib.hid hry
  have HBW := Lib.hid hbw
  have HGN := Lib.hid hgn
  clear hI hall hrx hry hbw hgn HA HB c0 c1 c2 c3
  have crx := (HBW.out.block (w.heap.size + 1 + 1) z2).trans cr
  have hgx0 : w.heap.size + 1 + 1 < gx := by omega
  have hgy0 : w.heap.size + 1 + 1 < gy := by omega
  have H0 : Hid (OpAt and fa fb w gx gy 0 w') := ⟨by rw [HRX.out]; congr 2, HRY.out, ⟨_, _, crx⟩, HBW0.out.trans (HBW.out.mono HBW0.out.size)⟩
  clear crx cr HBW HBW0 z0 z1 z2 HRX HRY
  go_wp2_with fail
  go_loopw [7] (fun i wr => ∃ k : Nat, k ≤ 128 ∧ i = .int .i64 k ∧ Hid (OpAt and fa fb w gx gy k wr)) (fun i _ => 128 - (intOf i).toNat)
  case atStart => exact ⟨0, Nat.zero_le _, rfl, H0⟩
  case round =>
    obtain ⟨k, hk, rfl, HK⟩ := hrel
    by_cases hlt : k < 128
    · obtain ⟨r1, r2, r3⟩ := HK.out.cells hlt
      cases hf1 : fa k <;> cases hf2 : fb k
      all_goals
        rw [hf1] at r1
        rw [hf2] at r2
        have HF1 := Lib.hid hf1
        have HF2 := Lib.hid hf2
        clear hf1 hf2
        go_wp2_with fail
        go_roundw
        case rel => exact ⟨k + 1, by omega, by go_num, HK.out.step hlt HGN.out (by omega) (by rw [HF1.out, HF2.out]; rfl)⟩
        case measure => simp [intOf]; omega
    · obtain rfl : k = 128 := by omega
      obtain ⟨r1, r2, ⟨x0, x1, r3⟩, r4⟩ := HK.out
      have e : (rowA fun i => if i < 128 then and (fa i) (fb i) else fa i) = rowA fun i => and (fa i) (fb i) := rowA_congr fun i hi => by rw [if_pos hi]
      rw [e] at r1
      have HE : Hid (ofBits (fun i => and (fa i) (fb i)) 128 = a &&& b) := by
        show _ = _
        rw [HFA.out, HFB.out]
        refine ofBits_eq (by rw [← BB_pow2]; exact Nat.lt_of_le_of_lt Nat.and_le_left ha) fun i _ => ?_
        simp [Nat.testBit_and]
      have HNUM : Hid (∀ W, Calls Try.prog 89 #[.agg (rowA fun i => and (fa i) (fb i))] W (RetNum W (a &&& b))) := fun W => by rw [← HE.out]; exact refNum_any _ W
      have HB4 := Lib.hid r4
      have H3 := Lib.hid r3
      clear e r2 r3 r4 HE HK H0 HGN
      have hRR : (rowA fun i => and (fa i) (fb i)).size = 128 := rowA_size _
      generalize (rowA fun i => and (fa i) (fb i)) = RR at r1 HNUM hRR
      go_wp2_with (first
        | (refine wpList_load_row rfl 120 (.tmp 5) rfl gx rfl 120 RR (0, 0) _ r1 Try.underlying120 rfl (by rw [hRR]; exact infoRow) ?_))
      clear r1
      obtain ⟨h3, l3, e3, -, -⟩ := numV_parts (a &&& b)
      have HE3 := Lib.hid e3
      have HNUM2 : Hid (∀ W, Calls Try.prog 89 #[.agg RR] W fun e w' => e = .returned (.agg #[.int .u64 (h3 : Int), .int .u64 (l3 : Int)]) ∧ Below W.heap.size W w') := fun W => by rw [← HE3.out]; exact HNUM.out W
      clear HNUM e3
      refine (HNUM2.out _).mono ?_
      rintro e w1 ⟨rfl, hb1⟩
      have hr := (hb1.block (w.heap.size + 1 + 1) (lt_of_block H3.out)).trans H3.out
      have q0 : w1.cell? ⟨w.heap.size + 1 + 1, 0, none⟩ = some x0 := by simp [World.cell?, hr]
      have q1 : w1.cell? ⟨w.heap.size + 1 + 1, 1, none⟩ = some x1 := by simp [World.cell?, hr]
      have qz : ∀ j, w1.frozen? ⟨w.heap.size + 1 + 1, j, none⟩ = false := fun j => by simp [World.frozen?, hr]
      have HR := Lib.hid hr
      have HB1 : Hid (Below w.heap.size w w1) := HB4.out.trans (hb1.mono HB4.out.size)
      clear hr hb1
      go_wp2_with fail
      have hg := set_lo (.int .u64 (l3 : Int)) (set_hi (.int .u64 (h3 : Int)) HR.out)
      exact bodyPost_ret (v := .agg #[.int .u64 (h3 : Int), .int .u64 (l3 : Int)]) (results_cell_row Try.results32 _ _ (w.heap.size + 1 + 1) _ _ _ _ (by simp [go_sem]) hg Try.underlying41 rfl (by kernel_rfl)) rfl ⟨by rw [HE3.out], (HB1.out.setCell (by show w.heap.size ≤ w.heap.size + 1 + 1; omega) _).setCell (by show w.heap.size ≤ w.heap.size + 1 + 1; omega) _⟩

end Go.Proofs.Ytlnkflmnjkmhkaa
