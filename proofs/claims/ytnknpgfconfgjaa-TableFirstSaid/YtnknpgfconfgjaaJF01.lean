/-
  Lemmas, joined: StabP, Lib, RowG, NumP, TabM.
-/
import Derived.Lib.Hide
import Derived.Test.YtnknpgfconfgjaaRows
import Derived.WalkKit
import Derived.Deep.LoopGhost
import Derived.Deep.RegionWith
import Derived.WalkSpells
import Derived.WalkLawsBesides
import Derived.Deep.AppendLies
import Derived.Laws.BitsAllLaws
import Derived.Laws.Bits64
import Derived.KernelRfl
/-
  The plain law of a stable sort: insertion, rotation, merging in place, over functions of places.
-/
namespace Go.Proofs.Ytnknpgfconfgjaa.Stab

/-- A strict total order. -/
structure Ord (L : Int → Int → Bool) : Prop where
  irr : ∀ x, L x x = false
  tr : ∀ x y z, L x y = true → L y z = true → L x z = true
  tot : ∀ x y, x ≠ y → L x y = false → L y x = true

theorem Ord.asym {L : Int → Int → Bool} (h : Ord L) {x y : Int} (hxy : L x y = true) : L y x = false := by
  cases hc : L y x
  · rfl
  · have := h.tr _ _ _ hxy hc; rw [h.irr] at this; cases this

abbrev Fn := Nat → Int
def Srt (L : Int → Int → Bool) (f : Fn) (a b : Nat) : Prop := ∀ i j, a ≤ i → i < j → j < b → L (f i) (f j) = true
def Same (f f' : Fn) (a b : Nat) : Prop := ∀ x, (∃ i, a ≤ i ∧ i < b ∧ f i = x) ↔ (∃ i, a ≤ i ∧ i < b ∧ f' i = x)
def Out (f f' : Fn) (a b : Nat) : Prop := ∀ i, (i < a ∨ b ≤ i) → f' i = f i
/-- What lies in [a, m) is less, as a number, than what lies in [m, b). -/
def Apart (f : Fn) (a m b : Nat) : Prop := ∀ i j, a ≤ i → i < m → m ≤ j → j < b → f i < f j
def swp (f : Fn) (i j : Nat) : Fn := fun k => if k = i then f j else if k = j then f i else f k

theorem Same.refl (f : Fn) (a b : Nat) : Same f f a b := fun _ => Iff.rfl
theorem Same.trans {f g h : Fn} {a b : Nat} (p : Same f g a b) (q : Same g h a b) : Same f h a b := fun x => (p x).trans (q x)
theorem Same.symm {f g : Fn} {a b : Nat} (p : Same f g a b) : Same g f a b := fun x => (p x).symm
theorem Out.refl (f : Fn) (a b : Nat) : Out f f a b := fun _ _ => rfl
theorem Out.trans {f g h : Fn} {a b : Nat} (p : Out f g a b) (q : Out g h a b) : Out f h a b := fun i hi => (q i hi).trans (p i hi)
theorem Out.more {f g : Fn} {a b a' b' : Nat} (p : Out f g a b) (ha : a' ≤ a) (hb : b ≤ b') : Out f g a' b' := fun i hi => p i (by omega)
/-- A set that is kept within a part, and nothing else turned, is kept in the whole. -/
theorem Same.more {f g : Fn} {a b a' b' : Nat} (p : Same f g a b) (o : Out f g a b) (ha : a' ≤ a) (hb : b ≤ b') : Same f g a' b' := by
  intro x
  constructor
  · rintro ⟨i, h1, h2, h3⟩
    by_cases hi : a ≤ i ∧ i < b
    · obtain ⟨k, k1, k2, k3⟩ := (p x).1 ⟨i, hi.1, hi.2, h3⟩
      exact ⟨k, by omega, by omega, k3⟩
    · exact ⟨i, h1, h2, (o i (by omega)).trans h3⟩
  · rintro ⟨i, h1, h2, h3⟩
    by_cases hi : a ≤ i ∧ i < b
    · obtain ⟨k, k1, k2, k3⟩ := (p x).2 ⟨i, hi.1, hi.2, h3⟩
      exact ⟨k, by omega, by omega, k3⟩
    · exact ⟨i, h1, h2, (o i (by omega)).symm.trans h3⟩

theorem same_swp (f : Fn) {a b i j : Nat} (hi : a ≤ i) (hi' : i < b) (hj : a ≤ j) (hj' : j < b) : Same f (swp f i j) a b := by
  intro x
  constructor
  · rintro ⟨k, h1, h2, h3⟩
    by_cases e1 : k = i
    · subst e1
      by_cases e2 : k = j
      · subst e2; exact ⟨k, h1, h2, by simp [swp, h3]⟩
      · exact ⟨j, hj, hj', by unfold swp; rw [if_neg (by omega), if_pos rfl]; exact h3⟩
    · by_cases e2 : k = j
      · subst e2; exact ⟨i, hi, hi', by unfold swp; rw [if_pos rfl]; exact h3⟩
      · exact ⟨k, h1, h2, by unfold swp; rw [if_neg e1, if_neg e2]; exact h3⟩
  · rintro ⟨k, h1, h2, h3⟩
    unfold swp at h3
    by_cases e1 : k = i
    · rw [if_pos e1] at h3; exact ⟨j, hj, hj', h3⟩
    · by_cases e2 : k = j
      · rw [if_neg e1, if_pos e2] at h3; exact ⟨i, hi, hi', h3⟩
      · rw [if_neg e1, if_neg e2] at h3; exact ⟨k, h1, h2, h3⟩
theorem out_swp (f : Fn) {a b i j : Nat} (hi : a ≤ i) (hi' : i < b) (hj : a ≤ j) (hj' : j < b) : Out f (swp f i j) a b := fun k hk => by
  unfold swp; rw [if_neg (by omega), if_neg (by omega)]

theorem Apart.of_same {f f' : Fn} {a m b : Nat} (h : Apart f a m b) (p : Same f f' a m) (q : Same f f' m b) : Apart f' a m b := by
  intro i j h1 h2 h3 h4
  obtain ⟨i', p1, p2, p3⟩ := (p _).2 ⟨i, h1, h2, rfl⟩
  obtain ⟨j', q1, q2, q3⟩ := (q _).2 ⟨j, h3, h4, rfl⟩
  rw [← p3, ← q3]; exact h i' j' p1 p2 q1 q2

/-! ### insertion -/

/-- The outer round: the places below i are sorted; what is behind is as it was. -/
structure Ins (L : Int → Int → Bool) (f0 f : Fn) (a i : Nat) : Prop where
  srt : Srt L f a i
  same : Same f0 f a i
  out : Out f0 f a i

/-- The inner round: what is laid in stands at place j. -/
structure InsI (L : Int → Int → Bool) (f0 f : Fn) (a i j : Nat) : Prop where
  haj : a ≤ j
  hji : j ≤ i
  lo : ∀ p q, a ≤ p → p < q → q ≤ i → p ≠ j → q ≠ j → L (f p) (f q) = true
  hi : ∀ q, j < q → q ≤ i → L (f j) (f q) = true
  less : ∀ p, a ≤ p → p ≤ i → p ≠ j → f p < f j
  same : Same f0 f a (i + 1)
  out : Out f0 f a (i + 1)

theorem Ins.start (L : Int → Int → Bool) (f : Fn) (a : Nat) : Ins L f f a (a + 1) := ⟨fun i j h1 h2 h3 => by omega, Same.refl _ _ _, Out.refl _ _ _⟩
theorem Ins.inner {L : Int → Int → Bool} {f0 f : Fn} {a i b : Nat} (h : Ins L f0 f a i) (ha : a ≤ i) (hi : i < b) (hasc : ∀ p q, a ≤ p → p < q → q < b → f0 p < f0 q) : InsI L f0 f a i i where
  haj := ha
  hji := Nat.le_refl _
  lo := fun p q h1 h2 h3 h4 h5 => h.srt p q h1 h2 (by omega)
  hi := fun q h1 h2 => by omega
  less := fun p h1 h2 h3 => by
    obtain ⟨k, k1, k2, k3⟩ := (h.same _).2 ⟨p, h1, by omega, rfl⟩
    rw [← k3, h.out i (by omega)]
    exact hasc k i k1 k2 hi
  same := h.same.more h.out (Nat.le_refl _) (by omega)
  out := h.out.more (Nat.le_refl _) (by omega)

theorem InsI.step {L : Int → Int → Bool} {f0 f : Fn} {a i j : Nat} (h : InsI L f0 f a i j) (hj : a < j) (hL : L (f j) (f (j - 1)) = true) (hO : Ord L) : InsI L f0 (swp f j (j - 1)) a i (j - 1) where
  haj := by omega
  hji := by have := h.hji; omega
  lo := fun p q h1 h2 h3 h4 h5 => by
    have hji := h.hji
    unfold swp
    by_cases e1 : p = j
    · rw [if_pos e1, if_neg (by omega), if_neg h5]
      exact h.lo (j - 1) q (by omega) (by omega) h3 (by omega) (by omega)
    · rw [if_neg e1, if_neg h4]
      by_cases e2 : q = j
      · rw [if_pos e2]
        exact h.lo p (j - 1) h1 (by omega) (by omega) e1 (by omega)
      · rw [if_neg e2, if_neg h5]
        exact h.lo p q h1 h2 h3 e1 e2
  hi := fun q h1 h2 => by
    have hji := h.hji
    unfold swp
    rw [if_neg (by omega), if_pos rfl]
    by_cases e2 : q = j
    · rw [if_pos e2]; exact hL
    · rw [if_neg e2, if_neg (by omega)]
      exact h.hi q (by omega) h2
  less := fun p h1 h2 h3 => by
    have hji := h.hji
    have e : swp f j (j - 1) (j - 1) = f j := by unfold swp; rw [if_neg (by omega), if_pos rfl]
    rw [e]
    unfold swp
    by_cases e1 : p = j
    · rw [if_pos e1]; exact h.less (j - 1) (by omega) (by omega) (by omega)
    · rw [if_neg e1, if_neg h3]; exact h.less p h1 h2 e1
  same := by have hji := h.hji; exact h.same.trans (same_swp f (by omega) (by omega) (by omega) (by omega))
  out := by have hji := h.hji; exact h.out.trans (out_swp f (by omega) (by omega) (by omega) (by omega))

theorem InsI.done {L : Int → Int → Bool} {f0 f : Fn} {a i j : Nat} (h : InsI L f0 f a i j) (hO : Ord L) (hs : j ≤ a ∨ L (f j) (f (j - 1)) = false) : Ins L f0 f a (i + 1) where
  srt := fun p q h1 h2 h3 => by
    by_cases e1 : p = j
    · subst e1; exact h.hi q h2 (by omega)
    · by_cases e2 : q = j
      · subst e2
        rcases hs with hs | hs
        · omega
        · have hl := h.less (q - 1) (by omega) (by omega) (by omega)
          have h4 : L (f (q - 1)) (f q) = true := hO.tot _ _ (by omega) hs
          by_cases e3 : p = q - 1
          · rw [e3]; exact h4
          · exact hO.tr _ _ _ (h.lo p (q - 1) h1 (by omega) (by omega) (by omega) (by omega)) h4
      · exact h.lo p q h1 h2 (by omega) e1 e2
  same := h.same
  out := h.out

/-! ### rotation -/

def swr (f : Fn) (a b n : Nat) : Fn := fun k => if a ≤ k ∧ k < a + n then f (k - a + b) else if b ≤ k ∧ k < b + n then f (k - b + a) else f k
def rot (f : Fn) (a m b : Nat) : Fn := fun k => if a ≤ k ∧ k < a + (b - m) then f (k - a + m) else if a + (b - m) ≤ k ∧ k < b then f (k - (a + (b - m)) + a) else f k

theorem swr_zero (f : Fn) (a b : Nat) : swr f a b 0 = f := by
  funext k; unfold swr; rw [if_neg (by omega), if_neg (by omega)]
theorem swr_succ (f : Fn) (a b n : Nat) (h : a + n < b) : swp (swr f a b n) (a + n) (b + n) = swr f a b (n + 1) := by
  funext k
  unfold swp swr
  by_cases h1 : k = a + n
  · subst h1
    rw [if_pos rfl, if_neg (by omega), if_neg (by omega), if_pos (by omega)]
    congr 1; omega
  · by_cases h2 : k = b + n
    · subst h2
      rw [if_neg h1, if_pos rfl, if_neg (by omega), if_neg (by omega), if_neg (by omega), if_pos (by omega)]
      congr 1; omega
    · rw [if_neg h1, if_neg h2]
      by_cases h3 : a ≤ k ∧ k < a + n
      · rw [if_pos h3, if_pos (by omega)]
      · rw [if_neg h3]
        by_cases h4 : b ≤ k ∧ k < b + n
        · rw [if_pos h4, if_neg (by omega), if_pos (by omega)]
        · rw [if_neg h4, if_neg (by omega), if_neg (by omega)]

/-- i places ahead of m, j from m on: i greater. -/
theorem rot_gt (f : Fn) (m i j : Nat) (him : i ≤ m) (h : j < i) : rot (swr f (m - i) m j) (m - (i - j)) m (m + j) = rot f (m - i) m (m + j) := by
  funext k
  unfold rot
  by_cases h1 : m - i ≤ k ∧ k < m - i + j
  · have e : (if m - i ≤ k ∧ k < m - i + (m + j - m) then f (k - (m - i) + m) else if m - i + (m + j - m) ≤ k ∧ k < m + j then f (k - (m - i + (m + j - m)) + (m - i)) else f k) = f (k - (m - i) + m) := by rw [if_pos (by omega)]
    rw [e, if_neg (by omega), if_neg (by omega)]
    unfold swr
    rw [if_pos (by omega)]
  · by_cases h2 : m - i + j ≤ k ∧ k < m + j
    · have e : (if m - i ≤ k ∧ k < m - i + (m + j - m) then f (k - (m - i) + m) else if m - i + (m + j - m) ≤ k ∧ k < m + j then f (k - (m - i + (m + j - m)) + (m - i)) else f k) = f (k - (m - i + (m + j - m)) + (m - i)) := by rw [if_neg (by omega), if_pos (by omega)]
      rw [e]
      by_cases h3 : k < m - (i - j) + j
      · rw [if_pos (by omega)]
        unfold swr
        rw [if_neg (by omega), if_pos (by omega)]
        congr 1; omega
      · rw [if_neg (by omega), if_pos (by omega)]
        unfold swr
        rw [if_neg (by omega), if_neg (by omega)]
        congr 1; omega
    · have e : (if m - i ≤ k ∧ k < m - i + (m + j - m) then f (k - (m - i) + m) else if m - i + (m + j - m) ≤ k ∧ k < m + j then f (k - (m - i + (m + j - m)) + (m - i)) else f k) = f k := by rw [if_neg (by omega), if_neg (by omega)]
      rw [e, if_neg (by omega), if_neg (by omega)]
      unfold swr
      rw [if_neg (by omega), if_neg (by omega)]

theorem rot_lt (f : Fn) (m i j : Nat) (him : i ≤ m) (h : i < j) : rot (swr f (m - i) (m + j - i) i) (m - i) m (m + (j - i)) = rot f (m - i) m (m + j) := by
  funext k
  unfold rot
  by_cases h1 : m - i ≤ k ∧ k < m - i + j
  · have e : (if m - i ≤ k ∧ k < m - i + (m + j - m) then f (k - (m - i) + m) else if m - i + (m + j - m) ≤ k ∧ k < m + j then f (k - (m - i + (m + j - m)) + (m - i)) else f k) = f (k - (m - i) + m) := by rw [if_pos (by omega)]
    rw [e]
    by_cases h3 : k < m - i + (j - i)
    · rw [if_pos (by omega)]
      unfold swr
      rw [if_neg (by omega), if_neg (by omega)]
    · rw [if_neg (by omega)]
      by_cases h4 : k < m + (j - i)
      · rw [if_pos (by omega)]
        unfold swr
        rw [if_pos (by omega)]
        congr 1; omega
      · omega
  · by_cases h2 : m - i + j ≤ k ∧ k < m + j
    · have e : (if m - i ≤ k ∧ k < m - i + (m + j - m) then f (k - (m - i) + m) else if m - i + (m + j - m) ≤ k ∧ k < m + j then f (k - (m - i + (m + j - m)) + (m - i)) else f k) = f (k - (m - i + (m + j - m)) + (m - i)) := by rw [if_neg (by omega), if_pos (by omega)]
      rw [e, if_neg (by omega), if_neg (by omega)]
      unfold swr
      rw [if_neg (by omega), if_pos (by omega)]
      congr 1; omega
    · have e : (if m - i ≤ k ∧ k < m - i + (m + j - m) then f (k - (m - i) + m) else if m - i + (m + j - m) ≤ k ∧ k < m + j then f (k - (m - i + (m + j - m)) + (m - i)) else f k) = f k := by rw [if_neg (by omega), if_neg (by omega)]
      rw [e, if_neg (by omega), if_neg (by omega)]
      unfold swr
      rw [if_neg (by omega), if_neg (by omega)]

theorem rot_eq (f : Fn) (m i : Nat) (him : i ≤ m) : swr f (m - i) m i = rot f (m - i) m (m + i) := by
  funext k
  unfold rot swr
  by_cases h1 : m - i ≤ k ∧ k < m - i + i
  · rw [if_pos h1, if_pos (by omega)]
  · rw [if_neg h1]
    by_cases h2 : m ≤ k ∧ k < m + i
    · rw [if_pos h2, if_neg (by omega), if_pos (by omega)]; congr 1; omega
    · rw [if_neg h2, if_neg (by omega), if_neg (by omega)]

theorem same_rot (f : Fn) {a m b : Nat} (h1 : a ≤ m) (h2 : m ≤ b) : Same f (rot f a m b) a b := by
  intro x
  constructor
  · rintro ⟨k, k1, k2, k3⟩
    by_cases hk : k < m
    · refine ⟨k - a + (a + (b - m)), by omega, by omega, ?_⟩
      unfold rot
      rw [if_neg (by omega), if_pos (by omega), ← k3]; congr 1; omega
    · refine ⟨k - m + a, by omega, by omega, ?_⟩
      unfold rot
      rw [if_pos (by omega), ← k3]; congr 1; omega
  · rintro ⟨k, k1, k2, k3⟩
    unfold rot at k3
    by_cases hk : k < a + (b - m)
    · rw [if_pos (by omega)] at k3; exact ⟨_, by omega, by omega, k3⟩
    · rw [if_neg (by omega), if_pos (by omega)] at k3; exact ⟨_, by omega, by omega, k3⟩
theorem out_rot (f : Fn) {a m b : Nat} (h1 : a ≤ m) (h2 : m ≤ b) : Out f (rot f a m b) a b := fun k hk => by
  unfold rot; rw [if_neg (by omega), if_neg (by omega)]

/-! ### merging -/

structure Mrg (L : Int → Int → Bool) (f : Fn) (a m b : Nat) : Prop where
  am : a < m
  mb : m < b
  s1 : Srt L f a m
  s2 : Srt L f m b
  ap : Apart f a m b

structure MrgOk (L : Int → Int → Bool) (f f' : Fn) (a b : Nat) : Prop where
  srt : Srt L f' a b
  same : Same f f' a b
  out : Out f f' a b

theorem Ins.last {L : Int → Int → Bool} {f g : Fn} {a b i : Nat} (h : Ins L f g a i) (hi : i = b ∨ (i = a + 1 ∧ b ≤ i)) (hab : a ≤ b) : MrgOk L f g a b := by
  by_cases e : i = b
  · subst e; exact ⟨h.srt, h.same, h.out⟩
  · obtain rfl : b = a := by omega
    obtain rfl : i = b + 1 := by omega
    refine ⟨fun p q h1 h2 h3 => by omega, fun x => ⟨fun ⟨k, h1, h2, _⟩ => by omega, fun ⟨k, h1, h2, _⟩ => by omega⟩, fun k hk => ?_⟩
    by_cases e2 : k = b
    · subst e2
      obtain ⟨q, q1, q2, q3⟩ := (h.same (f k)).1 ⟨k, Nat.le_refl _, by omega, rfl⟩
      obtain rfl : q = k := by omega
      exact q3
    · exact h.out k (by omega)

/-- What is laid from place a to the place ahead of i. -/
def mvR (f : Fn) (a k : Nat) : Fn := fun p => if a ≤ p ∧ p < k then f (p + 1) else if p = k then f a else f p
theorem mvR_zero (f : Fn) (a : Nat) : mvR f a a = f := by
  funext p; unfold mvR; rw [if_neg (by omega)]; by_cases h : p = a
  · rw [if_pos h, h]
  · rw [if_neg h]
theorem mvR_succ (f : Fn) (a k : Nat) (h : a ≤ k) : swp (mvR f a k) k (k + 1) = mvR f a (k + 1) := by
  funext p
  unfold swp mvR
  by_cases h1 : p = k
  · rw [if_pos h1, if_neg (by omega), if_neg (by omega), if_pos (by omega), h1]
  · rw [if_neg h1]
    by_cases h2 : p = k + 1
    · rw [if_pos h2, if_neg (by omega), if_pos rfl, if_neg (by omega), if_pos h2]
    · rw [if_neg h2]
      by_cases h3 : a ≤ p ∧ p < k
      · rw [if_pos h3, if_pos (by omega)]
      · rw [if_neg h3, if_neg (by omega), if_neg (by omega), if_neg h2]
def mvL (f : Fn) (m k : Nat) : Fn := fun p => if k < p ∧ p ≤ m then f (p - 1) else if p = k then f m else f p
theorem mvL_zero (f : Fn) (m : Nat) : mvL f m m = f := by
  funext p; unfold mvL; rw [if_neg (by omega)]; by_cases h : p = m
  · rw [if_pos h, h]
  · rw [if_neg h]
theorem mvL_succ (f : Fn) (m k : Nat) (h : k ≤ m) (h0 : 0 < k) : swp (mvL f m k) k (k - 1) = mvL f m (k - 1) := by
  funext p
  unfold swp mvL
  by_cases h1 : p = k
  · rw [if_pos h1, if_neg (by omega), if_neg (by omega), if_pos (by omega), h1]
  · rw [if_neg h1]
    by_cases h2 : p = k - 1
    · rw [if_pos h2, if_neg (by omega), if_pos rfl, if_neg (by omega), if_pos h2]
    · rw [if_neg h2]
      by_cases h3 : k < p ∧ p ≤ m
      · rw [if_pos h3, if_pos (by omega)]
      · rw [if_neg h3, if_neg (by omega), if_neg (by omega), if_neg h2]

/-- One element ahead: it is laid in behind all that are less. -/
theorem Mrg.one {L : Int → Int → Bool} {f : Fn} {a b i : Nat} (h : Mrg L f a (a + 1) b) (hO : Ord L) (hi : a + 1 ≤ i) (hib : i ≤ b)
    (h1 : ∀ k, a + 1 ≤ k → k < i → L (f k) (f a) = true) (h2 : ∀ k, i ≤ k → k < b → L (f k) (f a) = false) : MrgOk L f (mvR f a (i - 1)) a b where
  srt := fun p q p1 p2 p3 => by
    have hgt : ∀ k, i ≤ k → k < b → L (f a) (f k) = true := fun k k1 k2 => hO.tot _ _ (by have := h.ap a k (Nat.le_refl _) (by omega) (by omega) k2; omega) (h2 k k1 k2)
    unfold mvR
    by_cases e1 : p < i - 1
    · rw [if_pos ⟨p1, e1⟩]
      by_cases e2 : q < i - 1
      · rw [if_pos (by omega)]; exact h.s2 _ _ (by omega) (by omega) (by omega)
      · rw [if_neg (by omega)]
        by_cases e3 : q = i - 1
        · rw [if_pos e3]; exact h1 _ (by omega) (by omega)
        · rw [if_neg e3]; exact h.s2 _ _ (by omega) (by omega) (by omega)
    · rw [if_neg (show ¬ (a ≤ p ∧ p < i - 1) by omega), if_neg (show ¬ (a ≤ q ∧ q < i - 1) by omega), if_neg (show ¬ q = i - 1 by omega)]
      by_cases e3 : p = i - 1
      · rw [if_pos e3]; exact hgt q (by omega) (by omega)
      · rw [if_neg e3]; exact h.s2 _ _ (by omega) p2 (by omega)
  same := fun x => by
    constructor
    · rintro ⟨k, k1, k2, k3⟩
      by_cases e : k = a
      · exact ⟨i - 1, by omega, by omega, by unfold mvR; rw [if_neg (by omega), if_pos rfl, ← e]; exact k3⟩
      · by_cases e2 : k < i
        · exact ⟨k - 1, by omega, by omega, by unfold mvR; rw [if_pos (by omega), ← k3]; congr 1; omega⟩
        · exact ⟨k, by omega, by omega, by unfold mvR; rw [if_neg (by omega), if_neg (by omega)]; exact k3⟩
    · rintro ⟨k, k1, k2, k3⟩
      unfold mvR at k3
      by_cases e1 : k < i - 1
      · rw [if_pos (by omega)] at k3; exact ⟨_, by omega, by omega, k3⟩
      · rw [if_neg (by omega)] at k3
        by_cases e2 : k = i - 1
        · rw [if_pos e2] at k3; exact ⟨a, by omega, by have := h.mb; omega, k3⟩
        · rw [if_neg e2] at k3; exact ⟨k, k1, k2, k3⟩
  out := fun k hk => by unfold mvR; rw [if_neg (by omega), if_neg (by omega)]

/-- One element behind: it is laid in ahead of all that it is less than. -/
theorem Mrg.oneR {L : Int → Int → Bool} {f : Fn} {a m i : Nat} (h : Mrg L f a m (m + 1)) (hO : Ord L) (hi : a ≤ i) (him : i ≤ m)
    (h1 : ∀ k, a ≤ k → k < i → L (f m) (f k) = false) (h2 : ∀ k, i ≤ k → k < m → L (f m) (f k) = true) : MrgOk L f (mvL f m i) a (m + 1) where
  srt := fun p q p1 p2 p3 => by
    have hgt : ∀ k, a ≤ k → k < i → L (f k) (f m) = true := fun k k1 k2 => hO.tot _ _ (by have := h.ap k m k1 (by omega) (Nat.le_refl _) (by omega); omega) (h1 k k1 k2)
    unfold mvL
    by_cases e1 : i < q
    · rw [if_pos (show i < q ∧ q ≤ m by omega)]
      by_cases e2 : i < p
      · rw [if_pos (by omega)]; exact h.s1 _ _ (by omega) (by omega) (by omega)
      · rw [if_neg (by omega)]
        by_cases e3 : p = i
        · rw [if_pos e3]; exact h2 _ (by omega) (by omega)
        · rw [if_neg e3]; exact h.s1 _ _ (by omega) (by omega) (by omega)
    · rw [if_neg (show ¬ (i < p ∧ p ≤ m) by omega), if_neg (show ¬ (i < q ∧ q ≤ m) by omega), if_neg (show ¬ p = i by omega)]
      by_cases e3 : q = i
      · rw [if_pos e3]; exact hgt p (by omega) (by omega)
      · rw [if_neg e3]; exact h.s1 _ _ (by omega) p2 (by omega)
  same := fun x => by
    have ham := h.am
    constructor
    · rintro ⟨k, k1, k2, k3⟩
      by_cases e : k = m
      · exact ⟨i, by omega, by omega, by unfold mvL; rw [if_neg (by omega), if_pos rfl, ← e]; exact k3⟩
      · by_cases e2 : i ≤ k
        · exact ⟨k + 1, by omega, by omega, by unfold mvL; rw [if_pos (by omega), ← k3]; congr 1⟩
        · exact ⟨k, by omega, by omega, by unfold mvL; rw [if_neg (by omega), if_neg (by omega)]; exact k3⟩
    · rintro ⟨k, k1, k2, k3⟩
      unfold mvL at k3
      by_cases e1 : i < k
      · rw [if_pos (by omega)] at k3; exact ⟨_, by omega, by omega, k3⟩
      · rw [if_neg (by omega)] at k3
        by_cases e2 : k = i
        · rw [if_pos e2] at k3; exact ⟨m, by omega, by omega, k3⟩
        · rw [if_neg e2] at k3; exact ⟨k, k1, k2, k3⟩
  out := fun k hk => by unfold mvL; rw [if_neg (by omega), if_neg (by omega)]

/-- Where the two parts are cut: c from s0 on; e = n - c. -/
structure Cut (L : Int → Int → Bool) (f : Fn) (a m b s e : Nat) : Prop where
  las : a ≤ s
  sm : s ≤ m
  me : m ≤ e
  eb : e ≤ b
  up : s < m → m < e → L (f (e - 1)) (f s) = true
  dn : a < s → e < b → L (f e) (f (s - 1)) = false

/-- The two halves behind the rotation. -/
theorem Cut.halves {L : Int → Int → Bool} {f : Fn} {a m b s e : Nat} (c : Cut L f a m b s e) (h : Mrg L f a m b) (hO : Ord L) :
    (a < s → s < s + (e - m) → Mrg L (rot f s m e) a s (s + (e - m))) ∧ (s + (e - m) < e → e < b → Mrg L (rot f s m e) (s + (e - m)) e b) ∧
    (s = a → Srt L (rot f s m e) a (s + (e - m))) ∧ (e = m → Srt L (rot f s m e) a (s + (e - m))) ∧
    (e = b → Srt L (rot f s m e) (s + (e - m)) b) ∧ (s = m → Srt L (rot f s m e) (s + (e - m)) b) ∧
    (∀ i j, a ≤ i → i < s + (e - m) → s + (e - m) ≤ j → j < b → L (rot f s m e i) (rot f s m e j) = true) := by
  have ham := h.am
  have hmb := h.mb
  have has := c.las
  have hsm := c.sm
  have hme := c.me
  have heb := c.eb
  have r1 : ∀ k, k < s → rot f s m e k = f k := fun k hk => by unfold rot; rw [if_neg (by omega), if_neg (by omega)]
  have r2 : ∀ k, s ≤ k → k < s + (e - m) → rot f s m e k = f (k - s + m) := fun k h1 h2 => by unfold rot; rw [if_pos (by omega)]
  have r3 : ∀ k, s + (e - m) ≤ k → k < e → rot f s m e k = f (k - (s + (e - m)) + s) := fun k h1 h2 => by unfold rot; rw [if_neg (by omega), if_pos (by omega)]
  have r4 : ∀ k, e ≤ k → rot f s m e k = f k := fun k hk => by unfold rot; rw [if_neg (by omega), if_neg (by omega)]
  have S1 : Srt L (rot f s m e) a s := fun p q p1 p2 p3 => by rw [r1 p (by omega), r1 q p3]; exact h.s1 p q p1 p2 (by omega)
  have S2 : Srt L (rot f s m e) s (s + (e - m)) := fun p q p1 p2 p3 => by rw [r2 p p1 (by omega), r2 q (by omega) p3]; exact h.s2 _ _ (by omega) (by omega) (by omega)
  have S3 : Srt L (rot f s m e) (s + (e - m)) e := fun p q p1 p2 p3 => by rw [r3 p p1 (by omega), r3 q (by omega) p3]; exact h.s1 _ _ (by omega) (by omega) (by omega)
  have S4 : Srt L (rot f s m e) e b := fun p q p1 p2 p3 => by rw [r4 p p1, r4 q (by omega)]; exact h.s2 _ _ (by omega) (by omega) (by omega)
  have B13 : ∀ i j, a ≤ i → i < s → s ≤ j → j < m → L (f i) (f j) = true := fun i j h1 h2 h3 h4 => h.s1 i j h1 (by omega) h4
  have B24 : ∀ i j, m ≤ i → i < e → e ≤ j → j < b → L (f i) (f j) = true := fun i j h1 h2 h3 h4 => h.s2 i j h1 (by omega) h4
  have B23 : ∀ i j, m ≤ i → i < e → s ≤ j → j < m → L (f i) (f j) = true := fun i j h1 h2 h3 h4 => by
    have u := c.up (by omega) (by omega)
    have x1 : i = e - 1 ∨ L (f i) (f (e - 1)) = true := by
      by_cases e1 : i = e - 1
      · exact .inl e1
      · exact .inr (h.s2 i (e - 1) h1 (by omega) (by omega))
    have x2 : j = s ∨ L (f s) (f j) = true := by
      by_cases e1 : j = s
      · exact .inl e1
      · exact .inr (h.s1 s j (by omega) (by omega) h4)
    have y1 : L (f i) (f s) = true := by
      rcases x1 with rfl | x1
      · exact u
      · exact hO.tr _ _ _ x1 u
    rcases x2 with rfl | x2
    · exact y1
    · exact hO.tr _ _ _ y1 x2
  have B14 : ∀ i j, a ≤ i → i < s → e ≤ j → j < b → L (f i) (f j) = true := fun i j h1 h2 h3 h4 => by
    have d := c.dn (by omega) (by omega)
    have u : L (f (s - 1)) (f e) = true := hO.tot _ _ (by have := h.ap (s - 1) e (by omega) (by omega) (by omega) (by omega); omega) d
    have x1 : i = s - 1 ∨ L (f i) (f (s - 1)) = true := by
      by_cases e1 : i = s - 1
      · exact .inl e1
      · exact .inr (h.s1 i (s - 1) h1 (by omega) (by omega))
    have x2 : j = e ∨ L (f e) (f j) = true := by
      by_cases e1 : j = e
      · exact .inl e1
      · exact .inr (h.s2 e j (by omega) (by omega) h4)
    have y1 : L (f i) (f e) = true := by
      rcases x1 with rfl | x1
      · exact u
      · exact hO.tr _ _ _ x1 u
    rcases x2 with rfl | x2
    · exact y1
    · exact hO.tr _ _ _ y1 x2
  refine ⟨fun h1 h2 => ⟨h1, h2, S1, S2, fun i j i1 i2 j1 j2 => ?_⟩, fun h1 h2 => ⟨h1, h2, S3, S4, fun i j i1 i2 j1 j2 => ?_⟩, fun e1 => ?_, fun e1 => ?_, fun e1 => ?_, fun e1 => ?_, fun i j i1 i2 j1 j2 => ?_⟩
  · rw [r1 i (by omega), r2 j j1 j2]; exact h.ap _ _ i1 (by omega) (by omega) (by omega)
  · rw [r3 i i1 i2, r4 j j1]; exact h.ap _ _ (by omega) (by omega) (by omega) (by omega)
  · subst e1; exact S2
  · have : s + (e - m) = s := by omega
    rw [this]; exact S1
  · rw [← e1]; exact S3
  · have : s + (e - m) = e := by omega
    rw [this]; exact S4
  · by_cases k1 : i < s
    · rw [r1 i k1]
      by_cases k2 : j < e
      · rw [r3 j j1 k2]; exact B13 _ _ i1 k1 (by omega) (by omega)
      · rw [r4 j (by omega)]; exact B14 _ _ i1 k1 (by omega) j2
    · rw [r2 i (by omega) i2]
      by_cases k2 : j < e
      · rw [r3 j j1 k2]; exact B23 _ _ (by omega) (by omega) (by omega) (by omega)
      · rw [r4 j (by omega)]; exact B24 _ _ (by omega) (by omega) (by omega) j2

/-- The halves sorted each, all is. -/
theorem MrgOk.join {L : Int → Int → Bool} {f g g1 g2 : Fn} {a c b : Nat} (hac : a ≤ c) (hcb : c ≤ b) (hsame : Same f g a b) (hout : Out f g a b)
    (hx : ∀ i j, a ≤ i → i < c → c ≤ j → j < b → L (g i) (g j) = true) (h1 : MrgOk L g g1 a c) (h2 : MrgOk L g1 g2 c b) : MrgOk L f g2 a b where
  srt := fun i j i1 i2 i3 => by
    by_cases k1 : j < c
    · rw [h2.out i (by omega), h2.out j (by omega)]; exact h1.srt i j i1 i2 k1
    · by_cases k2 : c ≤ i
      · exact h2.srt i j k2 i2 i3
      · obtain ⟨p, p1, p2, p3⟩ := (h1.same _).2 ⟨i, i1, by omega, rfl⟩
        obtain ⟨q, q1, q2, q3⟩ := (h2.same _).2 ⟨j, by omega, i3, rfl⟩
        rw [h2.out i (by omega), ← p3, ← q3, h1.out q (by omega)]
        exact hx p q p1 p2 q1 q2
  same := hsame.trans ((h1.same.more h1.out (Nat.le_refl _) hcb).trans (h2.same.more h2.out hac (Nat.le_refl _)))
  out := hout.trans ((h1.out.more (Nat.le_refl _) hcb).trans (h2.out.more hac (Nat.le_refl _)))

theorem MrgOk.none {L : Int → Int → Bool} {g : Fn} {a c : Nat} (h : Srt L g a c) : MrgOk L g g a c := ⟨h, Same.refl _ _ _, Out.refl _ _ _⟩

/-- The search for the cut: c in [s, r); low: all below s answer no; all from r on answer yes. -/
structure Srch (L : Int → Int → Bool) (f : Fn) (p s0 r0 s r : Nat) : Prop where
  h1 : s0 ≤ s
  h2 : s ≤ r
  h3 : r ≤ r0
  lo : s0 < s → L (f (p - (s - 1))) (f (s - 1)) = false
  hi : r < r0 → L (f (p - r)) (f r) = true

theorem Srch.start (L : Int → Int → Bool) (f : Fn) (p s0 r0 : Nat) (h : s0 ≤ r0) : Srch L f p s0 r0 s0 r0 := ⟨Nat.le_refl _, h, Nat.le_refl _, fun h => absurd h (Nat.lt_irrefl _), fun h => absurd h (Nat.lt_irrefl _)⟩
theorem Srch.right {L : Int → Int → Bool} {f : Fn} {p s0 r0 s r c : Nat} (h : Srch L f p s0 r0 s r) (h1 : s ≤ c) (h2 : c < r) (hc : L (f (p - c)) (f c) = false) : Srch L f p s0 r0 (c + 1) r :=
  ⟨by have := h.h1; omega, by omega, h.h3, fun _ => hc, h.hi⟩
theorem Srch.left {L : Int → Int → Bool} {f : Fn} {p s0 r0 s r c : Nat} (h : Srch L f p s0 r0 s r) (h1 : s ≤ c) (h2 : c < r) (hc : L (f (p - c)) (f c) = true) : Srch L f p s0 r0 s c :=
  ⟨h.h1, h1, by have := h.h3; omega, h.lo, fun _ => hc⟩

/-- The cut that the search has found. -/
theorem Srch.cut {L : Int → Int → Bool} {f : Fn} {a m b mid s0 r0 s : Nat} (ham : a < m) (hmb : m < b) (hmid : mid = (a + b) / 2) (h0 : (mid < m ∧ s0 = mid + m - b ∧ r0 = mid) ∨ (m ≤ mid ∧ s0 = a ∧ r0 = m)) (h : Srch L f (mid + m - 1) s0 r0 s s) :
    Cut L f a m b s (mid + m - s) ∧ s + (mid + m - s - m) = mid ∧ s ≤ mid := by
  obtain ⟨h1, -, h3, lo, hi⟩ := h
  refine ⟨⟨by omega, by omega, by omega, by omega, fun k1 k2 => ?_, fun k1 k2 => ?_⟩, by omega, by omega⟩
  · have := hi (by omega)
    rw [show mid + m - s - 1 = mid + m - 1 - s by omega]; exact this
  · have := lo (by omega)
    rw [show mid + m - s = mid + m - 1 - (s - 1) by omega]; exact this

end Go.Proofs.Ytnknpgfconfgjaa.Stab

/-
  Small facts on worlds, and what it is for a value to read as a list of integers.
-/
namespace Go.Proofs.Ytnknpgfconfgjaa
open Go.RowKit

theorem bcell {W w1 : World} (hb : Below W.heap.size W w1) : (∀ b o, b < W.heap.size → w1.cell? ⟨b, o, none⟩ = W.cell? ⟨b, o, none⟩) ∧ (∀ b o, b < W.heap.size → w1.frozen? ⟨b, o, none⟩ = W.frozen? ⟨b, o, none⟩) :=
  ⟨fun b o h => hb.cell (p := ⟨b, o, none⟩) h, fun b o h => hb.frozen (p := ⟨b, o, none⟩) h⟩

/-- The value reads as the list of integers xs in the world w: nil or not; where its cells lie, if it has any. -/
def IVec (w : World) (v : Value) (xs : List Int) : Prop :=
  ∃ pa cap, v = .slice pa xs.length cap ∧ xs.length ≤ cap ∧ cap ≤ maxLen ∧
    (0 < xs.length → ∃ b off, pa = some ⟨b, off, none⟩ ∧ b < w.heap.size ∧ ∀ i, i < xs.length → w.cell? ⟨b, off + i, none⟩ = some (.int .i64 (xs.getD i 0)))

theorem IVec.nil (w : World) : IVec w (.slice none 0 0) [] := ⟨none, 0, rfl, Nat.le_refl _, Nat.zero_le _, fun h => absurd h (Nat.lt_irrefl 0)⟩

theorem IVec.shape {w : World} {v : Value} {xs : List Int} (h : IVec w v xs) : ∃ pa cap, v = .slice pa xs.length cap ∧ xs.length ≤ cap ∧ cap ≤ maxLen ∧
    (0 < xs.length → ∃ b off, pa = some ⟨b, off, none⟩ ∧ b < w.heap.size ∧ ∀ i, i < xs.length → w.cell? ⟨b, off + i, none⟩ = some (.int .i64 (xs.getD i 0))) := h

/-- A cell that is there lies in a block that is there, and has no spot. -/
theorem cell_there {w : World} {a : Addr} {v : Value} (h : w.cell? a = some v) : a.block < w.heap.size ∧ a.spot = none := by
  unfold World.cell? at h
  split at h
  · rename_i c t f hb
    refine ⟨(Array.getElem?_eq_some_iff.1 hb).1, ?_⟩
    split at h
    · cases h
    · rename_i hs; simpa using hs
  · cases h

end Go.Proofs.Ytnknpgfconfgjaa

/-
  Slices in memory, in general: what it is for a value to read as a list of things, each of so many cells; structs of several cells; opening an argument.
-/
namespace Go.Proofs.Ytnknpgfconfgjaa
open Go.RowKit

/-- The value reads as the list l of things of sz cells each. -/
def RowAt {α : Type} (sz : Nat) (At : World → Nat → Nat → α → Prop) (w : World) (v : Value) (l : List α) : Prop :=
  ∃ pa cap, v = .slice pa l.length cap ∧ l.length ≤ cap ∧ cap ≤ maxLen ∧ (pa = none → cap = 0) ∧
    (0 < l.length → ∃ b o, pa = some ⟨b, o, none⟩ ∧ b < w.heap.size ∧ ∀ j x, l[j]? = some x → At w b (o + j * sz) x)

/-- What lies in old memory is kept by a call that writes new memory alone. -/
def KeepAt {α : Type} (At : World → Nat → Nat → α → Prop) : Prop := ∀ (w w' : World) (b o : Nat) (x : α), Below w.heap.size w w' → b < w.heap.size → At w b o x → At w' b o x

section
variable {α : Type} {sz : Nat} {At : World → Nat → Nat → α → Prop} {w w' : World} {v : Value} {l : List α}
theorem RowAt.nil : RowAt sz At w (.slice none 0 0) ([] : List α) := ⟨none, 0, rfl, Nat.le_refl _, Nat.zero_le _, fun _ => rfl, fun h => absurd h (Nat.lt_irrefl 0)⟩
theorem RowAt.below (h : RowAt sz At w v l) (hk : KeepAt At) (hb : Below w.heap.size w w') : RowAt sz At w' v l := by
  obtain ⟨pa, cap, h1, h2, h3, h4, h5⟩ := h
  refine ⟨pa, cap, h1, h2, h3, h4, fun h0 => ?_⟩
  obtain ⟨b, o, e1, e2, e4⟩ := h5 h0
  exact ⟨b, o, e1, Nat.lt_of_lt_of_le e2 hb.size, fun j x hj => hk w w' b _ x hb e2 (e4 j x hj)⟩
theorem RowAt.shape (h : RowAt sz At w v l) : ∃ pa cap, v = .slice pa l.length cap ∧ l.length ≤ cap ∧ cap ≤ maxLen := by
  obtain ⟨pa, cap, h1, h2, h3, -⟩ := h; exact ⟨pa, cap, h1, h2, h3⟩
theorem RowAt.at (h : RowAt sz At w v l) {j : Nat} {x : α} (hj : l[j]? = some x) : ∃ b o cap, v = .slice (some ⟨b, o, none⟩) l.length cap ∧ b < w.heap.size ∧ At w b (o + j * sz) x := by
  obtain ⟨pa, cap, h1, h2, h3, h4, h5⟩ := h
  have hlt : j < l.length := (List.getElem?_eq_some_iff.1 hj).1
  obtain ⟨b, o, rfl, e2, e4⟩ := h5 (by omega)
  exact ⟨b, o, cap, h1, e2, e4 j x hj⟩
/-- The slice's address, and all its things. -/
theorem RowAt.all (h : RowAt sz At w v l) : ∃ pa cap, v = .slice pa l.length cap ∧ l.length ≤ cap ∧ cap ≤ maxLen ∧ (pa = none → cap = 0) ∧
    (0 < l.length → ∃ b o, pa = some ⟨b, o, none⟩ ∧ b < w.heap.size ∧ ∀ j x, l[j]? = some x → At w b (o + j * sz) x) := h
end

/-- Cells that lie one after the other. -/
def CellsAt (w : World) (b o : Nat) (cs : List Value) : Prop := ∀ i v, cs[i]? = some v → w.cell? ⟨b, o + i, none⟩ = some v
end Go.Proofs.Ytnknpgfconfgjaa

/-
  Plain arithmetic: a number of 128 bits as two halves of 64; shifts, masks, bits. No program in sight.
-/
namespace Go.Proofs.Ytnknpgfconfgjaa
open Go

/-- 2 to the 64. -/
def B : Nat := 18446744073709551616
theorem B_pow : B = 2 ^ 64 := rfl
theorem B_pos : 0 < B := by unfold B; omega

/-- A number of 128 bits as the program holds it: its high half, its low half. -/
def numV (n : Nat) : Value := .agg #[.int .u64 ((n / B : Nat) : Int), .int .u64 ((n % B : Nat) : Int)]
theorem half_lt {n : Nat} (h : n < B * B) : n / B < B := Nat.div_lt_of_lt_mul h
theorem low_lt (n : Nat) : n % B < B := Nat.mod_lt _ B_pos
theorem and_cast (a b : Nat) (ha : a < B) (hb : b < B) : bits .and .u64 (a : Int) (b : Int) = ((a &&& b : Nat) : Int) := u64_and_nat a b ha hb
theorem and_num (a b : Nat) (ha : a < B * B) (hb : b < B * B) :
    Value.agg #[.int .u64 (bits .and .u64 ((a / B : Nat) : Int) ((b / B : Nat) : Int)), .int .u64 (bits .and .u64 ((a % B : Nat) : Int) ((b % B : Nat) : Int))] = numV (a &&& b) := by
  rw [and_cast _ _ (half_lt ha) (half_lt hb), and_cast _ _ (low_lt _) (low_lt _)]
  unfold numV
  rw [B_pow, Nat.and_div_two_pow, Nat.and_mod_two_pow]
end Go.Proofs.Ytnknpgfconfgjaa

/-
  Entries of tables in memory.
-/
namespace Go.Proofs.Ytnknpgfconfgjaa
open Go.RowKit

/-- A number's two cells. -/
def NAt (w : World) (b o : Nat) (n : Nat) : Prop := n < B * B ∧ w.cell? ⟨b, o, none⟩ = some (.int .u64 ((n / B : Nat) : Int)) ∧ w.cell? ⟨b, o + 1, none⟩ = some (.int .u64 ((n % B : Nat) : Int))
theorem keepN : KeepAt NAt := fun w w' b o n hb hlt ⟨h0, h1, h2⟩ => ⟨h0, (hb.cell (p := ⟨b, o, none⟩) hlt).trans h1, (hb.cell (p := ⟨b, o + 1, none⟩) hlt).trans h2⟩
/-- A pattern: the number it asks for, its mask. -/
structure Pt where
  v : Nat
  m : Nat
def PAt (w : World) (b o : Nat) (p : Pt) : Prop := NAt w b o p.v ∧ NAt w b (o + 2) p.m
theorem keepP : KeepAt PAt := fun w w' b o p hb hlt ⟨h1, h2⟩ => ⟨keepN w w' b o p.v hb hlt h1, keepN w w' b (o + 2) p.m hb hlt h2⟩
abbrev NRow := RowAt 2 NAt
abbrev PRow := RowAt 4 PAt

structure Ent where
  tab : Int
  pats : List Pt
  len : Int
  prio : Int
  act : Int
  args : List Nat
def EAt (w : World) (b o : Nat) (e : Ent) : Prop :=
  w.cell? ⟨b, o, none⟩ = some (.int .i64 e.tab) ∧ (∃ v, w.cell? ⟨b, o + 1, none⟩ = some v ∧ PRow w v e.pats) ∧ w.cell? ⟨b, o + 2, none⟩ = some (.int .i64 e.len) ∧ w.cell? ⟨b, o + 3, none⟩ = some (.int .i64 e.prio) ∧
  w.cell? ⟨b, o + 4, none⟩ = some (.int .i64 e.act) ∧ (∃ v, w.cell? ⟨b, o + 5, none⟩ = some v ∧ NRow w v e.args)
theorem keepE : KeepAt EAt := fun w w' b o e hb hlt ⟨h1, ⟨v2, h2, k2⟩, h3, h4, h5, ⟨v6, h6, k6⟩⟩ =>
  ⟨(hb.cell (p := ⟨b, o, none⟩) hlt).trans h1, ⟨v2, (hb.cell (p := ⟨b, o + 1, none⟩) hlt).trans h2, k2.below keepP hb⟩, (hb.cell (p := ⟨b, o + 2, none⟩) hlt).trans h3, (hb.cell (p := ⟨b, o + 3, none⟩) hlt).trans h4, (hb.cell (p := ⟨b, o + 4, none⟩) hlt).trans h5, ⟨v6, (hb.cell (p := ⟨b, o + 5, none⟩) hlt).trans h6, k6.below keepN hb⟩⟩
abbrev ERow := RowAt 6 EAt

def patV (p : Pt) : Value := .agg #[.int .u64 ((p.v / B : Nat) : Int), .int .u64 ((p.v % B : Nat) : Int), .int .u64 ((p.m / B : Nat) : Int), .int .u64 ((p.m % B : Nat) : Int)]
/-- An entry's value. -/
def EntV (w : World) (v : Value) (e : Ent) : Prop := ∃ pv av, v = .agg #[.int .i64 e.tab, pv, .int .i64 e.len, .int .i64 e.prio, .int .i64 e.act, av] ∧ PRow w pv e.pats ∧ NRow w av e.args
theorem infoEnt : (Try.prog.info? 60).map (fun i => (i.zero, i.size, i.bytes)) = some (some (.agg #[.int .i64 0, .slice none 0 0, .int .i64 0, .int .i64 0, .int .i64 0, .slice none 0 0]), 6, 80) := by kernel_rfl
theorem infoNum : (Try.prog.info? 24).map (fun i => (i.zero, i.size, i.bytes)) = some (some (.agg #[.int .u64 0, .int .u64 0]), 2, 16) := by kernel_rfl
theorem infoInt : (Try.prog.info? 3).map (fun i => (i.zero, i.size, i.bytes)) = some (some (.int .i64 0), 1, 8) := by kernel_rfl

end Go.Proofs.Ytnknpgfconfgjaa
