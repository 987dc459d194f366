/-
  Lemmas, joined: SopP, SopP2.
-/
import Derived.Test.YtlnkflmnjkmhkaaJO16
import Derived.Test.YtlnkflmnjkmhkaaJO23
/-
  The plain law of symop at a store that is not full: how many nodes each call makes by the variables it meets, and the truth of what is told.
-/
namespace Go.Proofs.Ytlnkflmnjkmhkaa
open Go.RowKit Go.Maps

/-- A store that is not full, of at most N nodes, of variables below V. -/
structure GoodV (V C N : Nat) (s : BS) : Prop where
  full : s.full = false
  ord : Ord s.nodes
  vars : Vars s.nodes V
  cap : s.cap = C
  len : s.nodes.length ≤ N
theorem GoodV.mono {V C N M : Nat} {s : BS} (h : GoodV V C N s) (hM : N ≤ M) : GoodV V C M s := ⟨h.full, h.ord, h.vars, h.cap, Nat.le_trans h.len hM⟩

/-- A diagram whose variables are none below v. -/
def At (l : List T3) (v : Nat) (a : Int) : Prop := Is l a ∧ (v : Int) ≤ topP l a
theorem At.mono {l : List T3} {v u : Nat} {a : Int} (h : At l v a) (hu : u ≤ v) : At l u a := ⟨h.1, by have := h.2; omega⟩
theorem Grew.at {s s' : BS} (g : Grew s s') {v : Nat} {a : Int} (h : At s.nodes v a) : At s'.nodes v a := ⟨(g.is h.1).1, by rw [(g.is h.1).2]; exact h.2⟩
theorem at_zero (l : List T3) {v : Nat} (hv : v ≤ 64) : At l v 0 := ⟨is_zero l, by unfold topP; simp; omega⟩
theorem at_one (l : List T3) {v : Nat} (hv : v ≤ 64) : At l v 1 := ⟨is_one l, by unfold topP; simp; omega⟩

theorem iteV {V C N : Nat} {s : BS} (h : GoodV V C N s) (hV : V ≤ 64) {v : Nat} (hN : N + 2 ^ (V - v) < C) {c a d : Int} (hc : At s.nodes v c) (ha : At s.nodes v a) (hd : At s.nodes v d) :
    GoodV V C (N + 2 ^ (V - v)) (iteF s c a d).1 ∧ Grew s (iteF s c a d).1 ∧ At (iteF s c a d).1.nodes v (iteF s c a d).2 ∧
    ∀ q, valP (iteF s c a d).1.nodes q (iteF s c a d).2 = if valP s.nodes q c then valP s.nodes q a else valP s.nodes q d := by
  have hm : (v : Int) ≤ min3 s.nodes c a d := by
    have := hc.2; have := ha.2; have := hd.2
    simp only [min3]; omega
  obtain ⟨X, hX⟩ := iteP_some 65 s c a d h.ord hc.1 ha.1 hd.1 (by
    simp only [min3] at hm ⊢
    omega)
  have e : iteF s c a d = (X.1, X.2.getD 0) := by unfold iteF; rw [if_neg (by rw [h.full]; simp), rightP_of_is hc.1, rightP_of_is ha.1, rightP_of_is hd.1, hX]
  obtain ⟨g, k⟩ := iteP_ok _ _ _ _ _ _ h.ord hc.1 ha.1 hd.1 hX
  obtain ⟨l1, l2, l3⟩ := iteP_len V hV 65 s c a d X v h.ord h.vars hc.1 ha.1 hd.1 hm hX
  have hl := h.len
  have hcap := h.cap
  obtain ⟨r, hr⟩ : ∃ r, X.2 = some r := by
    cases hx : X.2 with
    | some r => exact ⟨r, rfl⟩
    | none => have := l3 hx; omega
  obtain ⟨k1, k2, k3, k4⟩ := k r hr
  rw [e, hr]
  exact ⟨⟨k1.trans h.full, g.ord, l1, g.cap.trans hcap, by show X.1.nodes.length ≤ _; omega⟩, g, ⟨k2, Int.le_trans hm k3⟩, fun q => iteP_val q 65 s _ _ _ X h.ord hc.1 ha.1 hd.1 hX r hr⟩

variable {V C : Nat}

theorem notV {N : Nat} {s : BS} (h : GoodV V C N s) (hV : V ≤ 64) {v : Nat} (hN : N + 2 ^ (V - v) < C) (hv : v ≤ 64) {x : Int} (hx : At s.nodes v x) :
    GoodV V C (N + 2 ^ (V - v)) (notF s x).1 ∧ Grew s (notF s x).1 ∧ At (notF s x).1.nodes v (notF s x).2 ∧ ∀ q, valP (notF s x).1.nodes q (notF s x).2 = !valP s.nodes q x := by
  obtain ⟨h1, h2, h3, h4⟩ := iteV h hV hN hx (at_zero _ hv) (at_one _ hv)
  refine ⟨h1, h2, h3, fun q => ?_⟩
  unfold notF
  rw [h4 q, val_zero, val_one]
  cases valP s.nodes q x <;> simp
theorem andV {N : Nat} {s : BS} (h : GoodV V C N s) (hV : V ≤ 64) {v : Nat} (hN : N + 2 ^ (V - v) < C) (hv : v ≤ 64) {x y : Int} (hx : At s.nodes v x) (hy : At s.nodes v y) :
    GoodV V C (N + 2 ^ (V - v)) (andF s x y).1 ∧ Grew s (andF s x y).1 ∧ At (andF s x y).1.nodes v (andF s x y).2 ∧ ∀ q, valP (andF s x y).1.nodes q (andF s x y).2 = (valP s.nodes q x && valP s.nodes q y) := by
  obtain ⟨h1, h2, h3, h4⟩ := iteV h hV hN hx hy (at_zero _ hv)
  refine ⟨h1, h2, h3, fun q => ?_⟩
  unfold andF
  rw [h4 q, val_zero]
  cases valP s.nodes q x <;> simp
theorem orV {N : Nat} {s : BS} (h : GoodV V C N s) (hV : V ≤ 64) {v : Nat} (hN : N + 2 ^ (V - v) < C) (hv : v ≤ 64) {x y : Int} (hx : At s.nodes v x) (hy : At s.nodes v y) :
    GoodV V C (N + 2 ^ (V - v)) (orF s x y).1 ∧ Grew s (orF s x y).1 ∧ At (orF s x y).1.nodes v (orF s x y).2 ∧ ∀ q, valP (orF s x y).1.nodes q (orF s x y).2 = (valP s.nodes q x || valP s.nodes q y) := by
  obtain ⟨h1, h2, h3, h4⟩ := iteV h hV hN hx (at_one _ hv) hy
  refine ⟨h1, h2, h3, fun q => ?_⟩
  unfold orF
  rw [h4 q, val_one]
  cases valP s.nodes q x <;> simp
theorem xorV {N : Nat} {s : BS} (h : GoodV V C N s) (hV : V ≤ 64) {v : Nat} (hN : N + 2 * 2 ^ (V - v) < C) (hv : v ≤ 64) {x y : Int} (hx : At s.nodes v x) (hy : At s.nodes v y) :
    GoodV V C (N + 2 * 2 ^ (V - v)) (xorF s x y).1 ∧ Grew s (xorF s x y).1 ∧ At (xorF s x y).1.nodes v (xorF s x y).2 ∧ ∀ q, valP (xorF s x y).1.nodes q (xorF s x y).2 = (valP s.nodes q x != valP s.nodes q y) := by
  obtain ⟨n1, n2, n3, n4⟩ := notV h hV (by omega) hv hy
  obtain ⟨h1, h2, h3, h4⟩ := iteV n1 hV (by omega) (n2.at hx) n3 (n2.at hy)
  refine ⟨h1.mono (by omega), n2.trans h2, h3, fun q => ?_⟩
  unfold xorF
  rw [h4 q, n4 q, n2.val h.ord q hx.1, n2.val h.ord q hy.1]
  cases valP s.nodes q x <;> cases valP s.nodes q y <;> rfl

/-- A bit of a sum. -/
theorem sumV {N : Nat} {s : BS} (h : GoodV V C N s) (hV : V ≤ 64) {v : Nat} (hN : N + 7 * 2 ^ (V - v) < C) (hv : v ≤ 64) {c x y : Int} (hc : At s.nodes v c) (hx : At s.nodes v x) (hy : At s.nodes v y) :
    GoodV V C (N + 7 * 2 ^ (V - v)) (carryS s c x y).1 ∧ Grew s (carryS s c x y).1 ∧ At (carryS s c x y).1.nodes v (carryS s c x y).2 ∧ At (carryS s c x y).1.nodes v (bitS s c x y).2 ∧
    ∀ q, valP (carryS s c x y).1.nodes q (carryS s c x y).2 = (valP s.nodes q x && valP s.nodes q y || valP s.nodes q c && (valP s.nodes q x != valP s.nodes q y)) ∧
      valP (carryS s c x y).1.nodes q (bitS s c x y).2 = ((valP s.nodes q x != valP s.nodes q y) != valP s.nodes q c) := by
  obtain ⟨a1, a2, a3, a4⟩ := xorV h hV (v := v) (by omega) hv hx hy
  obtain ⟨b1, b2, b3, b4⟩ := xorV a1 hV (v := v) (by omega) hv a3 (a2.at hc)
  have g2 : Grew s (bitS s c x y).1 := a2.trans b2
  obtain ⟨c1, c2, c3, c4⟩ := andV (s := (bitS s c x y).1) b1 hV (v := v) (by omega) hv (g2.at hx) (g2.at hy)
  have g3 : Grew s (bothS s c x y).1 := g2.trans c2
  have g3' : Grew (xorF s x y).1 (bothS s c x y).1 := b2.trans c2
  obtain ⟨d1, d2, d3, d4⟩ := andV (s := (bothS s c x y).1) c1 hV (v := v) (by omega) hv (g3.at hc) ((b2.trans c2).at a3)
  have g4 := g3.trans d2
  obtain ⟨e1, e2, e3, e4⟩ := orV (s := (otherS s c x y).1) d1 hV (v := v) (by omega) hv (d2.at c3) d3
  refine ⟨e1.mono (by omega), g4.trans e2, e3, (c2.trans (d2.trans e2)).at b3, fun q => ⟨?_, ?_⟩⟩
  · have q1 : valP (otherS s c x y).1.nodes q (bothS s c x y).2 = (valP s.nodes q x && valP s.nodes q y) := by
      rw [show valP (otherS s c x y).1.nodes q (bothS s c x y).2 = _ from d2.val c1.ord q c3.1]
      refine (c4 q).trans ?_
      rw [g2.val h.ord q hx.1, g2.val h.ord q hy.1]
    have q2 : valP (otherS s c x y).1.nodes q (otherS s c x y).2 = (valP s.nodes q c && (valP s.nodes q x != valP s.nodes q y)) := by
      refine (d4 q).trans ?_
      rw [g3.val h.ord q hc.1, g3'.val a1.ord q a3.1]
      exact congrArg _ (a4 q)
    exact (e4 q).trans (congr (congrArg or q1) q2)
  · rw [show valP (carryS s c x y).1.nodes q (bitS s c x y).2 = _ from (c2.trans (d2.trans e2)).val b1.ord q b3.1]
    refine (b4 q).trans ?_
    rw [a2.val h.ord q hc.1]
    exact congrArg (· != _) (a4 q)

theorem eqV {N : Nat} {s : BS} (h : GoodV V C N s) (hV : V ≤ 64) {v : Nat} (hN : N + 4 * 2 ^ (V - v) < C) (hv : v ≤ 64) {t x y : Int} (ht : At s.nodes v t) (hx : At s.nodes v x) (hy : At s.nodes v y) :
    GoodV V C (N + 4 * 2 ^ (V - v)) (eqStep s t x y).1 ∧ Grew s (eqStep s t x y).1 ∧ At (eqStep s t x y).1.nodes v (eqStep s t x y).2 ∧ ∀ q, valP (eqStep s t x y).1.nodes q (eqStep s t x y).2 = (valP s.nodes q t && (valP s.nodes q x == valP s.nodes q y)) := by
  obtain ⟨a1, a2, a3, a4⟩ := xorV h hV (v := v) (by omega) hv hx hy
  obtain ⟨b1, b2, b3, b4⟩ := notV a1 hV (v := v) (by omega) hv a3
  obtain ⟨c1, c2, c3, c4⟩ := andV b1 hV (v := v) (by omega) hv ((a2.trans b2).at ht) b3
  refine ⟨c1.mono (by omega), (a2.trans b2).trans c2, c3, fun q => (c4 q).trans ?_⟩
  rw [(a2.trans b2).val h.ord q ht.1, b4 q, a4 q]
  cases valP s.nodes q x <;> cases valP s.nodes q y <;> rfl
theorem lessV {N : Nat} {s : BS} (h : GoodV V C N s) (hV : V ≤ 64) {v : Nat} (hN : N + 3 * 2 ^ (V - v) < C) (hv : v ≤ 64) {t x y : Int} (ht : At s.nodes v t) (hx : At s.nodes v x) (hy : At s.nodes v y) :
    GoodV V C (N + 3 * 2 ^ (V - v)) (lessStep s t x y).1 ∧ Grew s (lessStep s t x y).1 ∧ At (lessStep s t x y).1.nodes v (lessStep s t x y).2 ∧ ∀ q, valP (lessStep s t x y).1.nodes q (lessStep s t x y).2 = (if valP s.nodes q x != valP s.nodes q y then valP s.nodes q y else valP s.nodes q t) := by
  obtain ⟨a1, a2, a3, a4⟩ := xorV h hV (v := v) (by omega) hv hx hy
  obtain ⟨c1, c2, c3, c4⟩ := iteV a1 hV (v := v) (by omega) a3 (a2.at hy) (a2.at ht)
  refine ⟨c1.mono (by omega), a2.trans c2, c3, fun q => (c4 q).trans ?_⟩
  rw [a4 q, a2.val h.ord q ht.1, a2.val h.ord q hy.1]
theorem agV {N : Nat} {s : BS} (fm fv : Int → Bool) (k : Nat) (h : GoodV V C N s) (hV : V ≤ 64) {v : Nat} (hN : N + 2 * 2 ^ (V - v) < C) (hv : v ≤ 64) {t x : Int} (ht : At s.nodes v t) (hx : At s.nodes v x) :
    GoodV V C (N + 2 * 2 ^ (V - v)) (agStep fm fv k s t x).1 ∧ Grew s (agStep fm fv k s t x).1 ∧ At (agStep fm fv k s t x).1.nodes v (agStep fm fv k s t x).2 ∧ ∀ q, valP (agStep fm fv k s t x).1.nodes q (agStep fm fv k s t x).2 = (valP s.nodes q t && (!fm k || (valP s.nodes q x == fv k))) := by
  unfold agStep
  cases fm k
  · refine ⟨h.mono (by omega), Grew.refl h.ord, ht, fun q => by simp⟩
  · cases fv k
    · obtain ⟨b1, b2, b3, b4⟩ := notV h hV (v := v) (by omega) hv hx
      obtain ⟨c1, c2, c3, c4⟩ := andV b1 hV (v := v) (by omega) hv (b2.at ht) b3
      refine ⟨c1.mono (by omega), b2.trans c2, c3, fun q => (c4 q).trans ?_⟩
      rw [b2.val h.ord q ht.1, b4 q]
      cases valP s.nodes q x <;> simp
    · obtain ⟨c1, c2, c3, c4⟩ := andV h hV (v := v) (by omega) hv ht hx
      refine ⟨c1.mono (by omega), c2, c3, fun q => (c4 q).trans ?_⟩
      cases valP s.nodes q x <;> simp

/-- The cost of n bits, the lowest first, of two numbers whose first has W of V variables. -/
def Sc (W V : Nat) : Nat → Nat
  | 0 => 0
  | n + 1 => Sc W V n + 2 ^ (V - (W - 1 - n))

/-- A truth told bit by bit. -/
def foldB (op : Nat → Bool → Bool → Bool → Bool) (fx fy : Nat → Bool) (b0 : Bool) : Nat → Bool
  | 0 => b0
  | n + 1 => op n (foldB op fx fy b0 n) (fx n) (fy n)

/-- Both lists' diagrams, by their places. -/
def Lev (W : Nat) (l : List T3) (xs : List Int) : Prop := ∀ i, At l (W - 1 - i) (xs.getD i 0)
theorem Grew.lev {s s' : BS} (g : Grew s s') {W : Nat} {xs : List Int} (h : Lev W s.nodes xs) : Lev W s'.nodes xs := fun i => g.at (h i)
theorem Lev.all {W : Nat} {l : List T3} {xs : List Int} (h : Lev W l xs) : AllIs l xs := fun i => (h i).1

/-- What a step of a fold may be. -/
def StepV (V C A : Nat) (op : Bool → Bool → Bool → Bool) (g : BS → Int → Int → Int → BS × Int) : Prop := ∀ (N : Nat) (s : BS) (v : Nat) (t x y : Int), v ≤ 64 → GoodV V C N s → N + A * 2 ^ (V - v) < C → At s.nodes v t → At s.nodes v x → At s.nodes v y →
  GoodV V C (N + A * 2 ^ (V - v)) (g s t x y).1 ∧ Grew s (g s t x y).1 ∧ At (g s t x y).1.nodes v (g s t x y).2 ∧ ∀ q, valP (g s t x y).1.nodes q (g s t x y).2 = op (valP s.nodes q t) (valP s.nodes q x) (valP s.nodes q y)

theorem foldP_good {A W : Nat} {op : Bool → Bool → Bool → Bool} {g : BS → Int → Int → Int → BS × Int} {N : Nat} {s : BS} (hg : StepV V C A op g) (hW : W ≤ 64) (h : GoodV V C N s) {xs ys : List Int} {t0 : Int} (hx : Lev W s.nodes xs) (hy : Lev W s.nodes ys) (ht : At s.nodes W t0) :
    ∀ n, N + A * Sc W V n < C → GoodV V C (N + A * Sc W V n) (foldP g xs ys t0 s n).1 ∧ Grew s (foldP g xs ys t0 s n).1 ∧ At (foldP g xs ys t0 s n).1.nodes (W - n) (foldP g xs ys t0 s n).2 ∧
      ∀ q, valP (foldP g xs ys t0 s n).1.nodes q (foldP g xs ys t0 s n).2 = foldB (fun _ => op) (fun i => valP s.nodes q (xs.getD i 0)) (fun i => valP s.nodes q (ys.getD i 0)) (valP s.nodes q t0) n
  | 0, _ => ⟨h.mono (by simp [foldP]), Grew.refl h.ord, ht, fun q => rfl⟩
  | n + 1, hN => by
    rw [Sc, Nat.mul_add] at hN ⊢
    obtain ⟨h1, h2, h3, h4⟩ := foldP_good hg hW h hx hy ht n (by omega)
    obtain ⟨k1, k2, k3, k4⟩ := hg _ _ (W - 1 - n) (foldP g xs ys t0 s n).2 (xs.getD n 0) (ys.getD n 0) (by omega) h1 (by omega) (h3.mono (by omega)) (h2.at (hx n)) (h2.at (hy n))
    refine ⟨k1.mono (by omega), h2.trans k2, k3.mono (by omega), fun q => (k4 q).trans ?_⟩
    rw [h4 q, h2.val h.ord q (hx n).1, h2.val h.ord q (hy n).1]
    rfl

theorem foldI_good {A W : Nat} {op : Nat → Bool → Bool → Bool} {g : Nat → BS → Int → Int → BS × Int} {N : Nat} {s : BS}
    (hg : ∀ (k N : Nat) (s : BS) (v : Nat) (t x : Int), v ≤ 64 → GoodV V C N s → N + A * 2 ^ (V - v) < C → At s.nodes v t → At s.nodes v x →
      GoodV V C (N + A * 2 ^ (V - v)) (g k s t x).1 ∧ Grew s (g k s t x).1 ∧ At (g k s t x).1.nodes v (g k s t x).2 ∧ ∀ q, valP (g k s t x).1.nodes q (g k s t x).2 = op k (valP s.nodes q t) (valP s.nodes q x))
    (hW : W ≤ 64) (h : GoodV V C N s) {xs : List Int} {t0 : Int} (hx : Lev W s.nodes xs) (ht : At s.nodes W t0) :
    ∀ n, N + A * Sc W V n < C → GoodV V C (N + A * Sc W V n) (foldI g xs t0 s n).1 ∧ Grew s (foldI g xs t0 s n).1 ∧ At (foldI g xs t0 s n).1.nodes (W - n) (foldI g xs t0 s n).2 ∧
      ∀ q, valP (foldI g xs t0 s n).1.nodes q (foldI g xs t0 s n).2 = foldB (fun k t x _ => op k t x) (fun i => valP s.nodes q (xs.getD i 0)) (fun _ => false) (valP s.nodes q t0) n
  | 0, _ => ⟨h.mono (by simp [foldI]), Grew.refl h.ord, ht, fun q => rfl⟩
  | n + 1, hN => by
    rw [Sc, Nat.mul_add] at hN ⊢
    obtain ⟨h1, h2, h3, h4⟩ := foldI_good hg hW h hx ht n (by omega)
    obtain ⟨k1, k2, k3, k4⟩ := hg n _ _ (W - 1 - n) (foldI g xs t0 s n).2 (xs.getD n 0) (by omega) h1 (by omega) (h3.mono (by omega)) (h2.at (hx n))
    refine ⟨k1.mono (by omega), h2.trans k2, k3.mono (by omega), fun q => (k4 q).trans ?_⟩
    rw [h4 q, h2.val h.ord q (hx n).1]
    rfl

/-- What is carried, from c0 on; the bits of a sum. -/
def carC (c0 : Bool) (fx fy : Nat → Bool) : Nat → Bool
  | 0 => c0
  | n + 1 => fx n && fy n || carC c0 fx fy n && (fx n != fy n)
def sumC (c0 : Bool) (fx fy : Nat → Bool) (n : Nat) : Bool := (fx n != fy n) != carC c0 fx fy n

theorem sumA_good {W : Nat} {N : Nat} {s : BS} (hV : V ≤ 64) (hW : W ≤ 64) (h : GoodV V C N s) {xs ys : List Int} {c0 : Int} (hx : Lev W s.nodes xs) (hy : Lev W s.nodes ys) (ht : At s.nodes W c0) :
    ∀ n, N + 7 * Sc W V n < C → GoodV V C (N + 7 * Sc W V n) (sumA xs ys c0 s n).1 ∧ Grew s (sumA xs ys c0 s n).1 ∧ At (sumA xs ys c0 s n).1.nodes (W - n) (sumA xs ys c0 s n).2.1 ∧ AllIs (sumA xs ys c0 s n).1.nodes (sumA xs ys c0 s n).2.2 ∧
      (∀ q, valP (sumA xs ys c0 s n).1.nodes q (sumA xs ys c0 s n).2.1 = carC (valP s.nodes q c0) (fun i => valP s.nodes q (xs.getD i 0)) (fun i => valP s.nodes q (ys.getD i 0)) n) ∧
      ∀ q i, i < n → valP (sumA xs ys c0 s n).1.nodes q ((sumA xs ys c0 s n).2.2.getD i 0) = sumC (valP s.nodes q c0) (fun i => valP s.nodes q (xs.getD i 0)) (fun i => valP s.nodes q (ys.getD i 0)) i
  | 0, _ => ⟨h.mono (by simp [sumA]), Grew.refl h.ord, ht, fun i => by simp [sumA]; exact is_zero _, fun q => rfl, fun q i hi => by omega⟩
  | n + 1, hN => by
    rw [Sc, Nat.mul_add] at hN ⊢
    obtain ⟨h1, h2, h3, h3', h4, h5⟩ := sumA_good hV hW h hx hy ht n (by omega)
    obtain ⟨k1, k2, k3, k3', k4⟩ := sumV h1 hV (v := W - 1 - n) (by omega) (by omega) (h3.mono (by omega)) (h2.at (hx n)) (h2.at (hy n))
    have hl := sumA_len xs ys c0 s n
    rw [sumA]
    refine ⟨k1.mono (by omega), h2.trans k2, k3.mono (by omega), fun i => ?_, fun q => ?_, fun q i hi => ?_⟩
    · simp only
      rw [getD_snoc]
      split
      · exact (k2.is (h3' i)).1
      · split
        · exact k3'.1
        · exact is_zero _
    · simp only
      rw [(k4 q).1, h4 q, h2.val h.ord q (hx n).1, h2.val h.ord q (hy n).1]
      rfl
    · simp only
      rw [getD_snoc, hl]
      by_cases e : i < n
      · rw [if_pos e, k2.val h1.ord q (h3' i), h5 q i e]
      · obtain rfl : i = n := by omega
        rw [if_neg e, if_pos rfl, (k4 q).2, h4 q, h2.val h.ord q (hx i).1, h2.val h.ord q (hy i).1]
        rfl

theorem mapNotV {W : Nat} {N : Nat} {s : BS} (hV : V ≤ 64) (hW : W ≤ 64) (h : GoodV V C N s) {xs : List Int} (hx : Lev W s.nodes xs) :
    ∀ n, N + Sc W V n < C → GoodV V C (N + Sc W V n) (mapS notF xs n s).1 ∧ Grew s (mapS notF xs n s).1 ∧ Lev W (mapS notF xs n s).1.nodes (mapS notF xs n s).2 ∧
      ∀ q i, i < n → valP (mapS notF xs n s).1.nodes q ((mapS notF xs n s).2.getD i 0) = !valP s.nodes q (xs.getD i 0)
  | 0, _ => ⟨h.mono (by simp [mapS]), Grew.refl h.ord, fun i => by simp [mapS]; exact at_zero _ (by omega), fun q i hi => by omega⟩
  | n + 1, hN => by
    rw [Sc] at hN ⊢
    have hp := Nat.two_pow_pos (V - (W - 1 - n))
    obtain ⟨h1, h2, h3, h4⟩ := mapNotV hV hW h hx n (by omega)
    obtain ⟨k1, k2, k3, k4⟩ := notV h1 hV (v := W - 1 - n) (by omega) (by omega) (h2.at (hx n))
    have hl := mapS_len notF xs n s
    rw [mapS]
    refine ⟨k1.mono (by omega), h2.trans k2, fun i => ?_, fun q i hi => ?_⟩
    · simp only
      rw [getD_snoc]
      split
      · exact k2.at (h3 i)
      · split
        · rename_i e; rw [e, hl]; exact k3
        · exact at_zero _ (by omega)
    · simp only
      rw [getD_snoc, hl]
      by_cases e : i < n
      · rw [if_pos e, k2.val h1.ord q (h3 i).1, h4 q i e]
      · obtain rfl : i = n := by omega
        rw [if_neg e, if_pos rfl, k4 q, h2.val h.ord q (hx i).1]

end Go.Proofs.Ytlnkflmnjkmhkaa

/-
  The plain law of SymopMeans: the numbers of the eight vectors that are made.
-/
namespace Go.Proofs.Ytlnkflmnjkmhkaa
open Go.RowKit Go.Maps

theorem sumC_bits (c0 : Bool) (fx fy : Nat → Bool) : ∀ n, ofBits fx n + ofBits fy n + (if c0 then 1 else 0) = ofBits (sumC c0 fx fy) n + (if carC c0 fx fy n then 2 ^ n else 0)
  | 0 => by cases c0 <;> simp [ofBits, carC]
  | k + 1 => by
    have ih := sumC_bits c0 fx fy k
    rw [ofBits, ofBits, ofBits, Nat.pow_succ]
    have e : sumC c0 fx fy k = ((fx k != fy k) != carC c0 fx fy k) := rfl
    have e2 : carC c0 fx fy (k + 1) = (fx k && fy k || carC c0 fx fy k && (fx k != fy k)) := rfl
    rw [e, e2]
    cases h0 : c0 <;> cases h1 : fx k <;> cases h2 : fy k <;> cases h3 : carC c0 fx fy k <;> subst h0 <;> simp [h3] at ih ⊢ <;> omega
theorem sumC_mod (c0 : Bool) (fx fy : Nat → Bool) (n : Nat) : ofBits (sumC c0 fx fy) n = (ofBits fx n + ofBits fy n + (if c0 then 1 else 0)) % 2 ^ n := by
  have h := sumC_bits c0 fx fy n
  have l := ofBits_lt (sumC c0 fx fy) n
  rw [h]
  split
  · rw [Nat.add_mod_right, Nat.mod_eq_of_lt l]
  · rw [Nat.add_zero, Nat.mod_eq_of_lt l]
theorem ofBits_not (f : Nat → Bool) : ∀ n, ofBits f n + ofBits (fun i => !f i) n + 1 = 2 ^ n
  | 0 => by simp [ofBits]
  | n + 1 => by
    have ih := ofBits_not f n
    rw [ofBits, ofBits, Nat.pow_succ]
    cases f n <;> simp <;> omega
theorem ofBits_self {p n : Nat} (h : p < 2 ^ n) : ofBits p.testBit n = p := ofBits_eq h fun _ _ => rfl

theorem add_mod {p k m : Nat} (hm : m ≤ 128) (hp : p < 2 ^ m) (hk : k < 2 ^ m) : ofBits (sumC false p.testBit k.testBit) m = (p + k) % 2 ^ 128 % 2 ^ m := by
  rw [sumC_mod, ofBits_self hp, ofBits_self hk, Nat.mod_mod_of_dvd _ (Nat.pow_dvd_pow 2 hm)]
  rfl
theorem sub_mod {p k m : Nat} (hm : m ≤ 128) (hp : p < 2 ^ m) (hk : k < 2 ^ m) : ofBits (sumC true p.testBit fun i => !k.testBit i) m = (p + (2 ^ 128 - k)) % 2 ^ 128 % 2 ^ m := by
  have h := ofBits_not k.testBit m
  rw [ofBits_self hk] at h
  rw [sumC_mod, ofBits_self hp, Nat.mod_mod_of_dvd _ (Nat.pow_dvd_pow 2 hm)]
  obtain ⟨d, hd⟩ : ∃ d, 2 ^ 128 = 2 ^ m * d + 2 ^ m := by
    refine ⟨2 ^ (128 - m) - 1, ?_⟩
    have e : 2 ^ 128 = 2 ^ m * 2 ^ (128 - m) := by rw [← Nat.pow_add]; congr 1; omega
    have hp := Nat.two_pow_pos (128 - m)
    rw [e, ← Nat.mul_succ]
    congr 1
    omega
  rw [hd]
  have e : p + (2 ^ m * d + 2 ^ m - k) = p + ofBits (fun i => !k.testBit i) m + 1 + 2 ^ m * d := by omega
  rw [e, Nat.add_mul_mod_self_left]
  rfl

theorem less_bits (fx fy : Nat → Bool) : ∀ n, foldB (fun _ t x y => if x != y then y else t) fx fy false n = decide (ofBits fx n < ofBits fy n)
  | 0 => by simp [foldB, ofBits]
  | n + 1 => by
    have ih := less_bits fx fy n
    have l1 := ofBits_lt fx n
    have l2 := ofBits_lt fy n
    rw [foldB, ofBits, ofBits, ih]
    cases fx n <;> cases fy n <;> simp <;> omega
theorem eq_bits (fx fy : Nat → Bool) : ∀ n, foldB (fun _ t x y => t && (x == y)) fx fy true n = decide (ofBits fx n = ofBits fy n)
  | 0 => by simp [foldB, ofBits]
  | n + 1 => by
    have ih := eq_bits fx fy n
    have l1 := ofBits_lt fx n
    have l2 := ofBits_lt fy n
    rw [foldB, ofBits, ofBits, ih]
    cases fx n <;> cases fy n <;> simp <;> omega
theorem any_bits (fx : Nat → Bool) (b0 : Bool) : ∀ n, foldB (fun _ t x _ => t || x) fx (fun _ => false) b0 n = (b0 || decide (ofBits fx n ≠ 0))
  | 0 => by simp [foldB, ofBits]
  | n + 1 => by
    have ih := any_bits fx b0 n
    have hp := Nat.two_pow_pos n
    rw [foldB, ofBits, ih]
    cases fx n
    · simp
    · simp
theorem agrees_bits (fx fm fv : Nat → Bool) : ∀ n, foldB (fun k t x _ => t && (!fm k || (x == fv k))) fx (fun _ => false) true n = decide (∀ i, i < n → fm i = true → fx i = fv i)
  | 0 => by simp [foldB]
  | n + 1 => by
    have ih := agrees_bits fx fm fv n
    rw [foldB, ih, Bool.eq_iff_iff]
    simp only [Bool.and_eq_true, decide_eq_true_eq, Bool.or_eq_true, Bool.not_eq_true', beq_iff_eq]
    constructor
    · rintro ⟨h1, h2⟩ i hi hm
      by_cases e : i = n
      · subst e
        rcases h2 with h2 | h2
        · rw [h2] at hm; cases hm
        · exact h2
      · exact h1 i (by omega) hm
    · intro h
      refine ⟨fun i hi => h i (by omega), ?_⟩
      cases hm : fm n
      · exact .inl rfl
      · exact .inr (h n (by omega) hm)
theorem agrees_num {p pm pv W : Nat} (hp : p < 2 ^ W) : (decide (∀ i, i < W → pm.testBit i = true → p.testBit i = pv.testBit i)) = decide (p &&& pm % 2 ^ W = pv &&& pm % 2 ^ W) := by
  rw [Bool.eq_iff_iff]
  simp only [decide_eq_true_eq]
  constructor
  · intro h
    apply Nat.eq_of_testBit_eq
    intro i
    rw [Nat.testBit_and, Nat.testBit_and, Nat.testBit_mod_two_pow]
    by_cases hi : i < W
    · cases hm : pm.testBit i
      · simp
      · rw [h i hi hm]
    · simp [hi]
  · intro h i hi hm
    have := congrArg (fun z => z.testBit i) h
    simp only [Nat.testBit_and, Nat.testBit_mod_two_pow, hm, hi, decide_true, Bool.and_true] at this
    exact this

/-- The store and the vectors at the start. -/
structure MO (W X : Nat) (s : BS) (xs ys : List Int) : Prop where
  good : GoodV (W + X) 20000 8 s
  lx : xs.length = W
  ly : ys.length = X
  ax : Lev W s.nodes xs
  ay : Lev W s.nodes ys
  vx : ∀ q i, i < W → valP s.nodes q (xs.getD i 0) = q ((W - 1 - i : Nat) : Int)
  vy : ∀ q i, i < X → valP s.nodes q (ys.getD i 0) = q ((W + (X - 1 - i) : Nat) : Int)

theorem varF_goodV {V C N : Nat} {s : BS} (h : GoodV V C N s) (hV : V ≤ 64) (hN : N + 1 < C) (v : Nat) (hv : v < V) : GoodV V C (N + 1) (varF s v).1 ∧ Grew s (varF s v).1 ∧ At (varF s v).1.nodes v (varF s v).2 ∧ ∀ q, valP (varF s v).1.nodes q (varF s v).2 = q v := by
  have e : varF s v = ((node1 s ⟨v, 0, 1⟩).1, (node1 s ⟨v, 0, 1⟩).2.getD 0) := by
    unfold varF
    rw [if_neg (by rw [h.full]; simp; omega)]
  have t0 : topP s.nodes 0 = 64 := by unfold topP; simp
  have t1 : topP s.nodes 1 = 64 := by unfold topP; simp
  have hv0 : (0 : Int) ≤ v := by omega
  have hv64 : (v : Int) < 64 := by omega
  obtain ⟨g1, g2, g3, g4⟩ := node1_ok (t := ⟨v, 0, 1⟩) h.ord ⟨hv0, hv64⟩ (is_zero _) (is_one _) (by show (v : Int) < topP s.nodes 0; omega) (by show (v : Int) < topP s.nodes 1; omega)
  obtain ⟨l1, l2⟩ := node1_len s ⟨v, 0, 1⟩
  have hl := h.len
  have hcap := h.cap
  obtain ⟨r, hr⟩ : ∃ r, (node1 s ⟨v, 0, 1⟩).2 = some r := by
    cases hx : (node1 s ⟨v, 0, 1⟩).2 with
    | some r => exact ⟨r, rfl⟩
    | none => have := (l2 hx).1; omega
  obtain ⟨k1, k2, k3, k4⟩ := g4 r hr
  have nv := fun q => node1_val (s := s) (t := ⟨v, 0, 1⟩) h.ord ⟨hv0, hv64⟩ (is_zero _) (is_one _) (by show (v : Int) < topP s.nodes 0; omega) (by show (v : Int) < topP s.nodes 1; omega) q hr
  rw [e, hr]
  refine ⟨⟨k3.trans h.full, g2, node1_vars h.vars (by show (v : Int) < V; omega), g3.trans hcap, by show (node1 s ⟨v, 0, 1⟩).1.nodes.length ≤ _; omega⟩, ⟨g1, g2, g3⟩, ⟨k1, k2⟩, fun q => ?_⟩
  show valP (node1 s ⟨v, 0, 1⟩).1.nodes q r = q v
  rw [nv q, val_zero, val_one]
  cases q v <;> rfl

theorem vars_goodV {V C N : Nat} {s : BS} (h : GoodV V C N s) (hV : V ≤ 64) (first : Nat) : ∀ n, first + n ≤ V → N + n < C → GoodV V C (N + n) (varsS first n s).1 ∧ Grew s (varsS first n s).1 ∧ (∀ i, At (varsS first n s).1.nodes (first + i) ((varsS first n s).2.getD i 0) ∨ n ≤ i) ∧
    ∀ q i, i < n → valP (varsS first n s).1.nodes q ((varsS first n s).2.getD i 0) = q ((first + i : Nat) : Int)
  | 0, _, _ => ⟨h, Grew.refl h.ord, fun i => .inr (Nat.zero_le _), fun q i hi => by omega⟩
  | n + 1, h8, hN => by
    obtain ⟨h1, h2, h3, h4⟩ := vars_goodV h hV first n (by omega) (by omega)
    have ew : wrap64 ((first : Int) + (n : Int)) = ((first + n : Nat) : Int) := by unfold wrap64; omega
    obtain ⟨k1, k2, k3, k4⟩ := varF_goodV h1 hV (by omega) (first + n) (by omega)
    have hl := varsS_len (first : Int) n s
    rw [varsS, ew]
    refine ⟨k1, h2.trans k2, fun i => ?_, fun q i hi => ?_⟩
    · simp only
      rw [getD_snoc, hl]
      split
      · rename_i hi
        rcases h3 i with h3 | h3
        · exact .inl (k2.at h3)
        · omega
      · split
        · rename_i e; rw [e]; exact .inl k3
        · exact .inr (by omega)
    · simp only
      rw [getD_snoc, hl]
      by_cases e : i < n
      · rcases h3 i with h3 | h3
        · rw [if_pos e, k2.val h1.ord q h3.1, h4 q i e]
        · omega
      · obtain rfl : i = n := by omega
        rw [if_neg e, if_pos rfl, k4 q]

theorem sop_start (W X : Nat) (hW : W ≤ 4) (hX : X ≤ 4) : MO W X (varsS (W : Int) X (varsS 0 W ⟨20000, [], false⟩).1).1 (varsS 0 W ⟨20000, [], false⟩).2.reverse (varsS (W : Int) X (varsS 0 W ⟨20000, [], false⟩).1).2.reverse := by
  have g0 : GoodV (W + X) 20000 0 ⟨20000, [], false⟩ := ⟨rfl, ⟨by simp, by simp, by simp, by simp, by simp⟩, fun t ht => by simp at ht, rfl, Nat.le_refl _⟩
  obtain ⟨a1, a2, a3, a4⟩ := vars_goodV g0 (by omega) 0 W (by omega) (by omega)
  have e0 : ((0 : Nat) : Int) = 0 := rfl
  rw [e0] at a1 a2 a3 a4
  obtain ⟨b1, b2, b3, b4⟩ := vars_goodV a1 (by omega) W X (by omega) (by omega)
  have la := varsS_len 0 W ⟨20000, [], false⟩
  have lb := varsS_len (W : Int) X (varsS 0 W ⟨20000, [], false⟩).1
  have xa : ∀ i, i < W → At (varsS 0 W ⟨20000, [], false⟩).1.nodes (W - 1 - i) ((varsS 0 W ⟨20000, [], false⟩).2.reverse.getD i 0) := fun i hi => by
    rw [getD_reverse _ i (by rw [la]; exact hi), la]
    rcases a3 (W - 1 - i) with h | h
    · rw [Nat.zero_add] at h; exact h
    · omega
  refine ⟨b1.mono (by omega), by rw [List.length_reverse, la], by rw [List.length_reverse, lb], fun i => ?_, fun i => ?_, fun q i hi => ?_, fun q i hi => ?_⟩
  · by_cases hi : i < W
    · exact b2.at (xa i hi)
    · rw [getD_over _ _ (by rw [List.length_reverse, la]; omega)]; exact at_zero _ (by omega)
  · by_cases hi : i < X
    · rw [getD_reverse _ i (by rw [lb]; exact hi), lb]
      rcases b3 (X - 1 - i) with h | h
      · exact h.mono (by omega)
      · omega
    · rw [getD_over _ _ (by rw [List.length_reverse, lb]; omega)]; exact at_zero _ (by omega)
  · rw [b2.val a1.ord q (xa i hi).1, getD_reverse _ i (by rw [la]; exact hi), la, a4 q _ (by omega), Nat.zero_add]
  · rw [getD_reverse _ i (by rw [lb]; exact hi), lb, b4 q _ (by omega)]

theorem Sc_le (W X : Nat) (h1 : 1 ≤ W) (h2 : W ≤ 4) (h3 : 1 ≤ X) (h4 : X ≤ 4) : Sc W (W + X) (max W X) ≤ 480 ∧ Sc W (W + X) W ≤ 480 := by
  have : W = 1 ∨ W = 2 ∨ W = 3 ∨ W = 4 := by omega
  have : X = 1 ∨ X = 2 ∨ X = 3 ∨ X = 4 := by omega
  rcases ‹W = 1 ∨ W = 2 ∨ W = 3 ∨ W = 4› with rfl | rfl | rfl | rfl <;> rcases ‹X = 1 ∨ X = 2 ∨ X = 3 ∨ X = 4› with rfl | rfl | rfl | rfl <;> decide

/-- A truth as a vector of one bit. -/
theorem means_one {s : BS} {t : Int} {b : (Int → Bool) → Bool} (ht : Is s.nodes t) (h : ∀ q, valP s.nodes q t = b q) : Means s [t] (fun q => if b q then 1 else 0) :=
  Means.mk' (by simp) (fun i => by
    cases i with
    | zero => exact ht
    | succ i => exact is_zero _) fun q i => by
    cases i with
    | zero => show (true && valP s.nodes q t) = _; rw [h q]; cases b q <;> simp
    | succ i =>
      show (decide (i + 1 < 1) && _) = _
      rw [show decide (i + 1 < 1) = false by simp, Bool.false_and]
      symm
      cases b q
      · exact Nat.zero_testBit _
      · show Nat.testBit 1 (i + 1) = false
        rw [Nat.testBit_succ]
        exact Nat.zero_testBit _

end Go.Proofs.Ytlnkflmnjkmhkaa
