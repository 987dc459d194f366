/-
  Layer 2, the plain law: places in a text, byte by byte and by the lines' ends.
-/
import Derived.Lib.Bytealg
import Derived.Lib.LastIndexByte
import Derived.Lib.ItoaNum
import Derived.Test.YtnahjgiihddofaaDoorRows
namespace Go.Proofs.YtnahjgiihddofaaDoor
open Go.Lib

def stepP (p : Nat × Nat) (c : UInt8) : Nat × Nat := if c = 10 then (p.1 + 1, 1) else (p.1, p.2 + 1)
/-- The place behind some bytes. -/
def posP (l : List UInt8) : Nat × Nat := l.foldl stepP (1, 1)
theorem posP_snoc (l : List UInt8) (c : UInt8) : posP (l ++ [c]) = stepP (posP l) c := by simp [posP, List.foldl_append]
theorem posP_nil : posP [] = (1, 1) := rfl
theorem snoc_ind {P : List UInt8 → Prop} (h0 : P []) (h1 : ∀ l c, P l → P (l ++ [c])) (l : List UInt8) : P l := by
  have key : ∀ r : List UInt8, P r.reverse := by
    intro r
    induction r with
    | nil => exact h0
    | cons c r ih => rw [List.reverse_cons]; exact h1 _ _ ih
  have := key l.reverse
  rwa [List.reverse_reverse] at this
theorem posP_pos (l : List UInt8) : 1 ≤ (posP l).1 ∧ 1 ≤ (posP l).2 := by
  refine snoc_ind (P := (fun l => 1 ≤ (posP l).1 ∧ 1 ≤ (posP l).2)) ⟨Nat.le_refl _, Nat.le_refl _⟩ (fun l c ih => ?_) l
  · rw [posP_snoc]
    unfold stepP
    split <;> simp only <;> omega
theorem posP_le (l : List UInt8) : (posP l).1 ≤ l.length + 1 ∧ (posP l).2 ≤ l.length + 1 := by
  refine snoc_ind (P := (fun l => (posP l).1 ≤ l.length + 1 ∧ (posP l).2 ≤ l.length + 1)) ⟨Nat.le_refl _, Nat.le_refl _⟩ (fun l c ih => ?_) l
  · rw [posP_snoc, List.length_append, List.length_singleton]
    unfold stepP
    split <;> simp only <;> omega
theorem posP_count (l : List UInt8) : (posP l).1 = l.count 10 + 1 := by
  refine snoc_ind (P := fun l => (posP l).1 = l.count 10 + 1) rfl (fun l c ih => ?_) l
  · rw [posP_snoc, List.count_append]
    unfold stepP
    by_cases h : c = 10
    · rw [if_pos h, h]; simp only [ih]; simp
    · rw [if_neg h]; simp only [ih]
      have : [c].count 10 = 0 := by rw [List.count_eq_zero]; simp; exact fun e => h e.symm
      omega
theorem take_snoc {l : List UInt8} {k : Nat} (h : k < l.length) : l.take (k + 1) = l.take k ++ [l[k]] := by rw [List.take_add_one, List.getElem?_eq_getElem h]; rfl
theorem posP_take {l : List UInt8} {k : Nat} (h : k < l.length) : posP (l.take (k + 1)) = stepP (posP (l.take k)) l[k] := by rw [take_snoc h, posP_snoc]
theorem posP_last (s : ByteArray) : ∀ k, k ≤ s.size → ((posP (s.data.toList.take k)).2 : Int) = k - (lastIdx s 10 k + 1) + 1
  | 0, _ => rfl
  | k + 1, h => by
    have hk : k < s.data.toList.length := by rw [Array.length_toList]; exact h
    have hs : k < s.data.size := h
    have e : s.data[k]! = s.data.toList[k] := (getElem!_pos s.data k hs).trans (by simp)
    rw [posP_take hk]
    unfold lastIdx stepP
    rw [e]
    have ih := posP_last s k (by omega)
    by_cases hc : s.data.toList[k] = 10
    · rw [if_pos hc, hc]
      rw [if_pos (by decide)]
      simp only
      omega
    · rw [if_neg hc, if_neg (fun q => hc (by
        have : (s.data.toList[k]).toNat = 10 := by omega
        exact UInt8.toNat_inj.1 (by rw [this]; rfl)))]
      simp only
      omega

/-- How many bytes lie ahead of a place that is asked for. -/
def cutN (l : List UInt8) (at_ : Int) : Nat := (max 0 (min at_ l.length)).toNat
theorem cutN_le (l : List UInt8) (k : Int) : cutN l k ≤ l.length := by unfold cutN; omega
def whereP (l : List UInt8) (k : Int) : Nat × Nat := posP (l.take (cutN l k))
theorem whereP_at {l : List UInt8} {i : Nat} (h : i ≤ l.length) : whereP l (i : Int) = posP (l.take i) := by
  unfold whereP
  rw [show cutN l (i : Int) = i by unfold cutN; omega]

/-- Places rise. -/
def LexLt (p q : Nat × Nat) : Prop := p.1 < q.1 ∨ p.1 = q.1 ∧ p.2 < q.2
theorem LexLt.trans {p q r : Nat × Nat} (h : LexLt p q) (h2 : LexLt q r) : LexLt p r := by unfold LexLt at *; omega
theorem posP_next {l : List UInt8} {k : Nat} (h : k < l.length) : LexLt (posP (l.take k)) (posP (l.take (k + 1))) := by
  rw [posP_take h]
  unfold stepP LexLt
  split
  · exact .inl (Nat.lt_succ_self _)
  · exact .inr ⟨rfl, Nat.lt_succ_self _⟩
theorem posP_lt {l : List UInt8} {i : Nat} : ∀ {j : Nat}, i < j → j ≤ l.length → LexLt (posP (l.take i)) (posP (l.take j)) := by
  intro j
  induction j with
  | zero => intro h; omega
  | succ j ih =>
    intro h hj
    by_cases e : i = j
    · subst e; exact posP_next hj
    · exact (ih (by omega) (by omega)).trans (posP_next hj)
theorem posP_inj {l : List UInt8} {i j : Nat} (hi : i ≤ l.length) (hj : j ≤ l.length) (h : posP (l.take i) = posP (l.take j)) : i = j := by
  rcases Nat.lt_trichotomy i j with q | q | q
  · have := posP_lt q hj; rw [h] at this; unfold LexLt at this; omega
  · exact q
  · have := posP_lt q hi; rw [h] at this; unfold LexLt at this; omega
theorem posP_mono {l : List UInt8} {i j : Nat} (h : i ≤ j) (hj : j ≤ l.length) : (posP (l.take i)).1 ≤ (posP (l.take j)).1 := by
  by_cases e : i = j
  · rw [e]; exact Nat.le_refl _
  · have := posP_lt (l := l) (i := i) (j := j) (by omega) hj; unfold LexLt at this; omega

/-- The byte of a place, if there is one. -/
def IsAt (l : List UInt8) (i : Nat) (line col : Int) : Prop := ((posP (l.take i)).1 : Int) = line ∧ ((posP (l.take i)).2 : Int) = col
instance (l : List UInt8) (i : Nat) (line col : Int) : Decidable (IsAt l i line col) := by unfold IsAt; infer_instance
def AtR (l : List UInt8) (line col : Int) (x : Int) (ok : Bool) : Prop := (∃ i : Nat, i ≤ l.length ∧ IsAt l i line col ∧ x = i ∧ ok = true) ∨ ((∀ i : Nat, i ≤ l.length → ¬ IsAt l i line col) ∧ x = 0 ∧ ok = false)
theorem AtR.uniq {l : List UInt8} {line col x y : Int} {a b : Bool} (h : AtR l line col x a) (h2 : AtR l line col y b) : x = y ∧ a = b := by
  rcases h with ⟨i, hi, e, rfl, rfl⟩ | ⟨hn, rfl, rfl⟩ <;> rcases h2 with ⟨j, hj, e2, rfl, rfl⟩ | ⟨hn2, rfl, rfl⟩
  · have : i = j := posP_inj hi hj (Prod.ext (by unfold IsAt at *; omega) (by unfold IsAt at *; omega))
    exact ⟨by rw [this], rfl⟩
  · exact absurd e (hn2 i hi)
  · exact absurd e2 (hn j hj)
  · exact ⟨rfl, rfl⟩

/-- What IndexByte tells. -/
theorem indexByte_cases (l : List UInt8) (c : UInt8) : (indexByte l c = -1 ∧ ∀ j (h : j < l.length), l[j] ≠ c) ∨ (∃ i : Nat, ∃ h : i < l.length, indexByte l c = i ∧ l[i] = c ∧ ∀ j (h : j < i), l[j] ≠ c) := by
  induction l with
  | nil => exact .inl ⟨rfl, fun j h => by cases h⟩
  | cons b l ih =>
    unfold indexByte
    by_cases hb : b = c
    · subst hb
      rw [if_pos (by simp)]
      exact .inr ⟨0, by simp, rfl, rfl, fun j h => by omega⟩
    · rw [if_neg (by simpa using hb)]
      rcases ih with ⟨e, hn⟩ | ⟨i, hi, e, hc, hn⟩
      · rw [if_pos (by rw [e]; rfl)]
        refine .inl ⟨rfl, fun j h => ?_⟩
        cases j with
        | zero => exact hb
        | succ j => exact hn j (by simpa using h)
      · rw [if_neg (by rw [e]; simp)]
        refine .inr ⟨i + 1, by simpa using hi, by rw [e]; omega, hc, fun j h => ?_⟩
        cases j with
        | zero => exact hb
        | succ j => exact hn j (by omega)

/-- A line: from its first byte on no end of a line. -/
theorem posP_line {l : List UInt8} {f : Nat} : ∀ m : Nat, f + m ≤ l.length → (∀ j (h : f + j < l.length), j < m → l[f + j] ≠ 10) → posP (l.take (f + m)) = ((posP (l.take f)).1, (posP (l.take f)).2 + m)
  | 0, _, _ => rfl
  | m + 1, h, hn => by
    have ih := posP_line (f := f) m (by omega) (fun j hj hm => hn j hj (by omega))
    rw [show f + (m + 1) = f + m + 1 by omega, posP_take (by omega), ih]
    unfold stepP
    rw [if_neg (hn m (by omega) (by omega))]
    rfl
theorem drop_at {l : List UInt8} {f j : Nat} (h : f + j < l.length) (h2 : j < (l.drop f).length) : (l.drop f)[j] = l[f + j] := by simp

/-- A line more. -/
theorem next_line {l : List UInt8} {f i : Nat} (hf : f ≤ l.length) (h : indexByte (l.drop f) 10 = (i : Int)) : f + i + 1 ≤ l.length ∧ posP (l.take (f + i + 1)) = ((posP (l.take f)).1 + 1, 1) := by
  rcases indexByte_cases (l.drop f) 10 with ⟨e, -⟩ | ⟨k, hk, e, hc, hn⟩
  · rw [e] at h; omega
  · have : k = i := by rw [e] at h; omega
    subst this
    have hl : f + k < l.length := by rw [List.length_drop] at hk; omega
    refine ⟨hl, ?_⟩
    rw [posP_take hl, posP_line k (by omega) (fun j hj hm => by rw [← drop_at hj (by rw [List.length_drop]; omega)]; exact hn j hm)]
    unfold stepP
    rw [if_pos (by rw [← drop_at hl hk]; exact hc)]
/-- No line more. -/
theorem no_line {l : List UInt8} {f : Nat} (hf : f ≤ l.length) (h : indexByte (l.drop f) 10 = -1) {i : Nat} (hi : i ≤ l.length) : (posP (l.take i)).1 ≤ (posP (l.take f)).1 := by
  rcases indexByte_cases (l.drop f) 10 with ⟨-, hn⟩ | ⟨k, hk, e, -, -⟩
  · by_cases q : i ≤ f
    · exact posP_mono q hf
    · have := posP_line (l := l) (f := f) (i - f) (by omega) (fun j hj hm => by rw [← drop_at hj (by rw [List.length_drop]; omega)]; exact hn j _)
      rw [show f + (i - f) = i by omega] at this
      rw [this]; exact Nat.le_refl _
  · rw [e] at h; omega
/-- How long a line is. -/
def lineLen (l : List UInt8) (f : Nat) : Int := if indexByte (l.drop f) 10 < 0 then (l.length : Int) - f else indexByte (l.drop f) 10
theorem in_line {l : List UInt8} {f : Nat} {line col : Int} (hf : f ≤ l.length) (hp : posP (l.take f) = (line.toNat, 1)) (hl : 1 ≤ line) (hc : 1 ≤ col) : 0 ≤ lineLen l f ∧ (f : Int) + lineLen l f ≤ l.length ∧
    (col - 1 ≤ lineLen l f → AtR l line col (f + col - 1) true) ∧ (¬ col - 1 ≤ lineLen l f → AtR l line col 0 false) := by
  obtain ⟨m, hm, hfm, hn, hend⟩ : ∃ m : Nat, lineLen l f = m ∧ f + m ≤ l.length ∧ (∀ j (h : f + j < l.length), j < m → l[f + j] ≠ 10) ∧ (∀ h : f + m < l.length, l[f + m] = 10) := by
    unfold lineLen
    rcases indexByte_cases (l.drop f) 10 with ⟨e, hn⟩ | ⟨k, hk, e, hc, hn⟩
    · rw [if_pos (by rw [e]; decide)]
      exact ⟨l.length - f, by omega, by omega, fun j hj hm => by rw [← drop_at hj (by rw [List.length_drop]; omega)]; exact hn j _, fun h => by omega⟩
    · rw [if_neg (by rw [e]; omega)]
      have hl : f + k < l.length := by rw [List.length_drop] at hk; omega
      exact ⟨k, e, by omega, fun j hj hm => by rw [← drop_at hj (by rw [List.length_drop]; omega)]; exact hn j hm, fun h => by rw [← drop_at hl hk]; exact hc⟩
  have hin : ∀ j, j ≤ m → posP (l.take (f + j)) = (line.toNat, 1 + j) := fun j hj => by
    rw [posP_line j (by omega) (fun t ht hm => hn t ht (by omega)), hp]
  refine ⟨by omega, by omega, fun h => ?_, fun h => .inr ⟨fun i hi ⟨e1, e2⟩ => ?_, rfl, rfl⟩⟩
  · refine .inl ⟨f + (col - 1).toNat, by omega, ?_, by omega, rfl⟩
    have := hin (col - 1).toNat (by omega)
    unfold IsAt
    rw [this]
    simp only
    omega
  · by_cases q : i < f
    · have := posP_lt q hf
      rw [hp] at this
      have h1 := posP_pos (l.take i)
      unfold LexLt at this
      simp only at this
      omega
    · by_cases q2 : i ≤ f + m
      · have := hin (i - f) (by omega)
        rw [show f + (i - f) = i by omega] at this
        rw [this] at e1 e2
        simp only at e1 e2
        omega
      · have h10 := hend (by omega)
        have h1 := posP_take (l := l) (k := f + m) (by omega)
        rw [hin m (Nat.le_refl _), h10] at h1
        have h2 := posP_mono (l := l) (i := f + m + 1) (j := i) (by omega) hi
        rw [h1] at h2
        unfold stepP at h2
        simp only [if_pos] at h2
        omega

theorem dec_digits (n : Nat) : decDigits n = if n < 10 then [UInt8.ofNat (48 + n)] else decDigits (n / 10) ++ decDigits (n % 10) := by
  by_cases h : n < 10
  · rw [if_pos h, decDigits, dif_pos h]
  · rw [if_neg h]
    have h2 : n % 10 < 10 := Nat.mod_lt _ (by omega)
    conv => lhs; rw [decDigits, dif_neg h]
    congr 1
    rw [decDigits, dif_pos h2]

end Go.Proofs.YtnahjgiihddofaaDoor
