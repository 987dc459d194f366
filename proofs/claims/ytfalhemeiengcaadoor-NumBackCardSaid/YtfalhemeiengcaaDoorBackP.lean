/-
  Digits and the number that they tell: plain law.
-/
import Derived.Test.YtfalhemeiengcaaDoorTextAny
namespace Go.Proofs.YtfalhemeiengcaaDoor
open Go.RowKit Go.Maps Go.Lib

theorem snoc_ind {α : Type} {P : List α → Prop} (nil : P []) (snoc : ∀ l c, P l → P (l ++ [c])) (l : List α) : P l := by
  have h : ∀ r : List α, P r.reverse := by
    intro r
    induction r with
    | nil => exact nil
    | cons a r ih => rw [List.reverse_cons]; exact snoc _ _ ih
  have := h l.reverse
  rwa [List.reverse_reverse] at this

/-- The number that some digits tell. -/
def vl (l : List UInt8) : Nat := l.foldl (fun p c => p * 10 + digV D10 c) 0
theorem vl_snoc (l : List UInt8) (c : UInt8) : vl (l ++ [c]) = vl l * 10 + digV D10 c := by unfold vl; rw [List.foldl_append]; rfl

theorem fold_of_vl {l : List UInt8} : vl l < B * B → foldN 10 D10 l = (vl l, true) := by
  induction l using snoc_ind with
  | nil => intro _; rfl
  | snoc l c ih =>
    intro h
    rw [vl_snoc] at h
    have h1 := ih (by omega)
    rw [foldN_snoc, h1, vl_snoc]
    show ((vl l * 10 + digV D10 c) % (B * B), true && decide (vl l * 10 + digV D10 c < B * B)) = _
    rw [Nat.mod_eq_of_lt h, decide_eq_true h]
    rfl
theorem vl_of_fold {l : List UInt8} : (foldN 10 D10 l).2 = true → (foldN 10 D10 l).1 = vl l ∧ vl l < B * B := by
  induction l using snoc_ind with
  | nil => intro _; exact ⟨rfl, Nat.mul_pos B_pos B_pos⟩
  | snoc l c ih =>
    intro h
    rw [foldN_snoc] at h ⊢
    simp only [Bool.and_eq_true, decide_eq_true_eq] at h
    obtain ⟨h1, h2⟩ := h
    obtain ⟨e1, e2⟩ := ih h1
    rw [e1] at h2 ⊢
    rw [vl_snoc]
    exact ⟨Nat.mod_eq_of_lt h2, h2⟩

/-- A digit. -/
def IsD (c : UInt8) : Prop := 48 ≤ c.toNat ∧ c.toNat ≤ 57
theorem digV_of {c : UInt8} (h : IsD c) : digV D10 c = c.toNat - 48 := by
  obtain ⟨h1, h2⟩ := h
  have key : ∀ k : Fin 10, digV D10 (UInt8.ofNat (48 + k.val)) = k.val := by decide
  have e : c = UInt8.ofNat (48 + (c.toNat - 48)) := by
    rw [show 48 + (c.toNat - 48) = c.toNat by omega]; simp
  have := key ⟨c.toNat - 48, by omega⟩
  rw [← e] at this
  exact this
theorem isD_of_mem {c : UInt8} (h : D10.data.toList.contains c = true) : IsD c := by
  have hm : c ∈ [48, 49, 50, 51, 52, 53, 54, 55, 56, 57] := by
    have : D10.data.toList = [48, 49, 50, 51, 52, 53, 54, 55, 56, 57] := rfl
    rw [this] at h
    exact List.contains_iff_mem.1 h
  simp only [List.mem_cons, List.not_mem_nil, or_false] at hm
  rcases hm with rfl | rfl | rfl | rfl | rfl | rfl | rfl | rfl | rfl | rfl <;> exact ⟨by decide, by decide⟩
theorem mem_of_isD {c : UInt8} (h : IsD c) : D10.data.toList.contains c = true := by
  obtain ⟨h1, h2⟩ := h
  have key : ∀ k : Fin 10, D10.data.toList.contains (UInt8.ofNat (48 + k.val)) = true := by decide
  have e : c = UInt8.ofNat (48 + (c.toNat - 48)) := by
    rw [show 48 + (c.toNat - 48) = c.toNat by omega]; simp
  have := key ⟨c.toNat - 48, by omega⟩
  rw [← e] at this
  exact this

theorem nN_snoc (m d k : Nat) (hd : d < 10) : nN (m * 10 + d) (k + 1) = nN m k := by
  unfold nN
  rw [Nat.pow_succ, Nat.mul_comm (10 ^ k) 10, ← Nat.div_div_eq_div_mul, show (m * 10 + d) / 10 = m by omega]
theorem dN_snoc (m d : Nat) (hd : d < 10) : ∀ k, dN (m * 10 + d) (k + 1) = dN m k ++ [UInt8.ofNat (48 + d)]
  | 0 => by
    show [UInt8.ofNat (48 + nN (m * 10 + d) 0 % 10)] = [] ++ [UInt8.ofNat (48 + d)]
    rw [nN_zero, show (m * 10 + d) % 10 = d by omega]
    rfl
  | k + 1 => by
    show UInt8.ofNat (48 + nN (m * 10 + d) (k + 1) % 10) :: dN (m * 10 + d) (k + 1) = (UInt8.ofNat (48 + nN m k % 10) :: dN m k) ++ [UInt8.ofNat (48 + d)]
    rw [dN_snoc m d hd k, nN_snoc m d k hd]
    rfl
theorem dN_vl {l : List UInt8} : (∀ c ∈ l, IsD c) → dN (vl l) l.length = l := by
  induction l using snoc_ind with
  | nil => intro _; rfl
  | snoc l c ih =>
    intro h
    have hc := h c (by simp)
    rw [vl_snoc, List.length_append, List.length_singleton, digV_of hc, dN_snoc _ _ (by have := hc.2; omega), ih (fun x hx => h x (by simp [hx]))]
    rw [show 48 + (c.toNat - 48) = c.toNat by have := hc.1; omega]
    simp
theorem dN_isD (n : Nat) : ∀ k, ∀ c ∈ dN n k, IsD c
  | 0, c, h => by cases h
  | k + 1, c, h => by
    rcases List.mem_cons.1 h with rfl | h
    · have : nN n k % 10 < 10 := Nat.mod_lt _ (by decide)
      unfold IsD
      rw [UInt8.toNat_ofNat']
      omega
    · exact dN_isD n k c h
theorem vl_dN : ∀ (k n : Nat), nN n k = 0 → vl (dN n k) = n
  | 0, n, h => by rw [nN_zero] at h; rw [h]; rfl
  | k + 1, n, h => by
    have e : n = (n / 10) * 10 + n % 10 := by omega
    have hd : n % 10 < 10 := Nat.mod_lt _ (by decide)
    have h2 : nN (n / 10) k = 0 := by rw [e, nN_snoc _ _ _ hd] at h; exact h
    have ih := vl_dN k (n / 10) h2
    conv => lhs; rw [e]
    rw [dN_snoc _ _ hd, vl_snoc, ih, digV_of (by unfold IsD; rw [UInt8.toNat_ofNat']; omega), UInt8.toNat_ofNat']
    omega

theorem vl_lt {l : List UInt8} : (∀ c ∈ l, IsD c) → vl l < 10 ^ l.length := by
  induction l using snoc_ind with
  | nil => intro _; decide
  | snoc l c ih =>
    intro h
    have hc := h c (by simp)
    have := ih (fun x hx => h x (by simp [hx]))
    rw [vl_snoc, List.length_append, List.length_singleton, digV_of hc, Nat.pow_succ]
    have := hc.2
    omega
theorem vl_ge {l : List UInt8} : (∀ c ∈ l, IsD c) → l ≠ [] → l.head? ≠ some 48 → 10 ^ (l.length - 1) ≤ vl l := by
  induction l using snoc_ind with
  | nil => intro _ h; exact absurd rfl h
  | snoc l c ih =>
    intro h _ h0
    have hc := h c (by simp)
    rw [vl_snoc, List.length_append, List.length_singleton, digV_of hc]
    by_cases hl : l = []
    · subst hl
      have h1 := hc.1
      have : c ≠ 48 := fun e => h0 (by rw [e]; rfl)
      have h2 : c.toNat ≠ 48 := fun e => this (by rw [show c = UInt8.ofNat c.toNat by simp, e]; rfl)
      show 10 ^ 0 ≤ 0 * 10 + _
      simp
      omega
    · have h1 := ih (fun x hx => h x (by simp [hx])) hl (by
        intro e
        apply h0
        cases l with
        | nil => exact absurd rfl hl
        | cons a l => exact e)
      have hp : 0 < l.length := List.length_pos_iff.2 hl
      rw [show l.length + 1 - 1 = (l.length - 1) + 1 by omega, Nat.pow_succ]
      omega
/-- The number of digits of what some digits tell, no nought ahead. -/
theorem isLen_vl {l : List UInt8} (h : ∀ c ∈ l, IsD c) (hne : l ≠ []) (h0 : l.head? ≠ some 48) (hb : vl l < B * B) : IsLen (vl l) l.length := by
  have hp : 0 < l.length := List.length_pos_iff.2 hne
  have hg := vl_ge h hne h0
  refine ⟨hp, ?_, ?_, ?_⟩
  · rcases Nat.lt_or_ge 39 l.length with q | q
    · have h1 : 10 ^ 39 ≤ 10 ^ (l.length - 1) := Nat.pow_le_pow_right (by decide) (by omega)
      have h2 : B * B ≤ 10 ^ 39 := by rw [BB_pow2]; decide
      omega
    · exact q
  · unfold nN; exact Nat.div_eq_of_lt (vl_lt h)
  · intro k k1 k2
    unfold nN
    refine Nat.div_pos (Nat.le_trans (Nat.pow_le_pow_right (by decide) (by omega)) hg) (Nat.pow_pos (by decide))
theorem isLen_one {n K K' : Nat} (h : IsLen n K) (h' : IsLen n K') : K = K' := by
  obtain ⟨a1, a2, a3, a4⟩ := h
  obtain ⟨b1, b2, b3, b4⟩ := h'
  rcases Nat.lt_trichotomy K K' with q | q | q
  · have := b4 K a1 q; omega
  · exact q
  · have := a4 K' b1 q; omega

theorem dropNil {p : UInt8 → Bool} : ∀ {l : List UInt8}, l.dropWhile p = [] ↔ ∀ c ∈ l, p c = true
  | [] => by simp
  | a :: l => by
    cases h : p a with
    | true => rw [List.dropWhile_cons_of_pos h, dropNil]; simp [h]
    | false => rw [List.dropWhile_cons_of_neg (by simp [h])]; simp [h]

theorem trim_nil {l cs : List UInt8} : trimS l cs = [] ↔ ∀ c ∈ l, cs.contains c = true := by
  constructor
  · intro h
    unfold trimS trimLeftS at h
    have h1 : ∀ c ∈ trimRightS l cs, cs.contains c = true := by
      intro c hc
      exact dropNil.1 h c hc
    have h2 : l.reverse.dropWhile (cs.contains ·) = [] := by
      cases hq : l.reverse.dropWhile (cs.contains ·) with
      | nil => rfl
      | cons a r =>
        have h3 : cs.contains a = false := by
          have := List.head?_dropWhile_not (fun x => cs.contains x) l.reverse
          rw [hq] at this
          simpa using this
        have h4 : a ∈ trimRightS l cs := by unfold trimRightS; rw [hq]; simp
        rw [h1 a h4] at h3; cases h3
    intro c hc
    exact dropNil.1 h2 c (List.mem_reverse.2 hc)
  · intro h
    unfold trimS trimLeftS trimRightS
    have : l.reverse.dropWhile (cs.contains ·) = [] := dropNil.2 fun c hc => h c (List.mem_reverse.1 hc)
    rw [this]
    rfl

end Go.Proofs.YtfalhemeiengcaaDoor
