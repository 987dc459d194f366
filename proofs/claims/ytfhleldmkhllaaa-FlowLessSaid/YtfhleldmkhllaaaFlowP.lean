/-
  The plain law of FlowLess: instructions laid anew.
-/

namespace Go.Proofs.Ytfhleldmkhllaaa.Flow

structure Nod where
  op : Int
  w : Int
  a : Int
  b : Int
  hi : Int
  lo : Int
deriving DecidableEq
structure Ins where
  k : Int
  a : Int
  b : Int
  e : List Nod
  to : Int
deriving DecidableEq
def dI : Ins := ⟨0, 0, 0, [], 0⟩
def at' (l : List Ins) (i : Nat) : Ins := l.getD i dI
def jmp (x : Ins) : Bool := x.k == 7 || x.k == 8
/-- All jumps go forward. -/
def Fwd (l : List Ins) : Prop := ∀ i, i < l.length → jmp (at' l i) = true → (i : Int) < (at' l i).to ∧ (at' l i).to ≤ (l.length : Int)
/-- What a known choice says. -/
def knw (x : Ins) : Option Bool :=
  if x.k = 7 then
    match x.e with
    | [n] => if n.op = 1 then some (!(n.hi == 0 && n.lo == 0)) else none
    | _ => none
  else none
def rd (e : List Nod) : Bool := e.any fun n => n.op == 2
def tn (l : List Ins) (i : Nat) : Nat := (at' l i).to.toNat

/-- Where a place comes to. -/
def T (l : List Ins) (i : Nat) : Nat :=
  if _h : i < l.length ∧ jmp (at' l i) = true ∧ i < tn l i then
    if knw (at' l i) = some true then T l (i + 1)
    else if knw (at' l i) = some false ∨ (at' l i).k = 8 then T l (tn l i)
    else if rd (at' l i).e = false ∧ T l (i + 1) = T l (tn l i) then T l (i + 1)
    else i
  else i
termination_by l.length - i
decreasing_by all_goals omega

theorem T_of {l : List Ins} {i : Nat} (h : i < l.length ∧ jmp (at' l i) = true ∧ i < tn l i) :
    T l i = if knw (at' l i) = some true then T l (i + 1)
    else if knw (at' l i) = some false ∨ (at' l i).k = 8 then T l (tn l i)
    else if rd (at' l i).e = false ∧ T l (i + 1) = T l (tn l i) then T l (i + 1)
    else i := by rw [T, dif_pos h]
theorem T_not {l : List Ins} {i : Nat} (h : ¬ (i < l.length ∧ jmp (at' l i) = true ∧ i < tn l i)) : T l i = i := by rw [T, dif_neg h]
theorem T_end (l : List Ins) (i : Nat) (h : l.length ≤ i) : T l i = i := T_not (by omega)

theorem down {P : Nat → Prop} (n : Nat) (h : ∀ i, (∀ j, i < j → j ≤ n → P j) → i ≤ n → P i) : ∀ i, i ≤ n → P i := by
  have key : ∀ d i, n - i ≤ d → i ≤ n → P i := by
    intro d
    induction d with
    | zero => intro i hi hn; exact h i (fun j h1 h2 => by omega) hn
    | succ d ih => intro i hi hn; exact h i (fun j h1 h2 => ih j (by omega) h2) hn
  intro i hi
  exact key (n - i) i (Nat.le_refl _) hi

theorem Fwd.tn {l : List Ins} (hf : Fwd l) {i : Nat} (hi : i < l.length) (hj : jmp (at' l i) = true) : i < tn l i ∧ tn l i ≤ l.length := by
  obtain ⟨h1, h2⟩ := hf i hi hj
  unfold Flow.tn
  omega

/-- T goes on, stays within, and is itself where it comes to. -/
theorem T_all {l : List Ins} (hf : Fwd l) : ∀ i, i ≤ l.length → i ≤ T l i ∧ T l i ≤ l.length ∧ T l (T l i) = T l i := by
  refine down l.length ?_
  intro i ih hi
  by_cases h : i < l.length ∧ jmp (at' l i) = true ∧ i < tn l i
  · have ht := hf.tn h.1 h.2.1
    have i1 := ih (i + 1) (by omega) (by omega)
    have i2 := ih (Flow.tn l i) ht.1 ht.2
    have e := T_of h
    split at e
    · rw [e]; exact ⟨by omega, i1.2⟩
    · split at e
      · rw [e]; exact ⟨by omega, i2.2⟩
      · split at e
        · rw [e]; exact ⟨by omega, i1.2⟩
        · rw [e, e]; exact ⟨Nat.le_refl _, hi, rfl⟩
  · have e := T_not h
    rw [e, e]; exact ⟨Nat.le_refl _, hi, rfl⟩
theorem T_ge {l : List Ins} (hf : Fwd l) {i : Nat} (h : i ≤ l.length) : i ≤ T l i := (T_all hf i h).1
theorem T_le {l : List Ins} (hf : Fwd l) {i : Nat} (h : i ≤ l.length) : T l i ≤ l.length := (T_all hf i h).2.1
theorem T_T {l : List Ins} (hf : Fwd l) {i : Nat} (h : i ≤ l.length) : T l (T l i) = T l i := (T_all hf i h).2.2
/-- What stays. -/
theorem stays {l : List Ins} (hf : Fwd l) {i : Nat} (hi : i < l.length) (h : T l i = i) : jmp (at' l i) = true → (at' l i).k = 7 ∧ knw (at' l i) = none ∧ ¬ (rd (at' l i).e = false ∧ T l (i + 1) = T l (tn l i)) := by
  intro hj
  have ht := hf.tn hi hj
  have h1 := T_ge hf (show i + 1 ≤ l.length by omega)
  have h2 := T_ge hf ht.2
  rw [T_of ⟨hi, hj, ht.1⟩] at h
  by_cases c1 : knw (at' l i) = some true
  · rw [if_pos c1] at h; omega
  · rw [if_neg c1] at h
    by_cases c2 : knw (at' l i) = some false ∨ (at' l i).k = 8
    · rw [if_pos c2] at h; omega
    · rw [if_neg c2] at h
      by_cases c3 : rd (at' l i).e = false ∧ T l (i + 1) = T l (tn l i)
      · rw [if_pos c3] at h; omega
      · refine ⟨?_, ?_, c3⟩
        · unfold jmp at hj
          simp only [Bool.or_eq_true, beq_iff_eq] at hj
          rcases hj with q | q
          · exact q
          · exact absurd (Or.inr q) c2
        · cases hk : knw (at' l i) with
          | none => rfl
          | some b => cases b
                      · exact absurd (Or.inl hk) c2
                      · exact absurd hk c1

/-- The loop over the instructions: what is reached, and what stays. -/
def mark (r : Nat → Bool) (j : Nat) : Nat → Bool := fun q => q == j || r q
def st (l : List Ins) : Nat → (Nat → Bool) × List Nat
  | 0 => (fun q => q == T l 0, [])
  | i + 1 => if (st l i).1 i = true then (if (at' l i).k = 7 then mark (mark (st l i).1 (T l (i + 1))) (T l (tn l i)) else mark (st l i).1 (T l (i + 1)), (st l i).2 ++ [i]) else st l i
def R (l : List Ins) (q : Nat) : Bool := (st l l.length).1 q

theorem jmp7 {x : Ins} (h : x.k = 7) : jmp x = true := by unfold jmp; rw [h]; rfl
theorem st_next {l : List Ins} (hf : Fwd l) {k q : Nat} (hk : k < l.length) (hq : q ≤ k) : (st l (k + 1)).1 q = (st l k).1 q := by
  have h1 := T_ge hf (show k + 1 ≤ l.length by omega)
  simp only [st]
  split
  · split
    · rename_i h7
      have ht := hf.tn hk (jmp7 h7)
      have h2 := T_ge hf ht.2
      show ((q == T l (tn l k)) || ((q == T l (k + 1)) || (st l k).1 q)) = _
      rw [beq_eq_false_iff_ne.2 (show q ≠ T l (tn l k) by omega), beq_eq_false_iff_ne.2 (show q ≠ T l (k + 1) by omega)]
      simp
    · show ((q == T l (k + 1)) || (st l k).1 q) = _
      rw [beq_eq_false_iff_ne.2 (show q ≠ T l (k + 1) by omega)]
      simp
  · rfl
theorem st_final {l : List Ins} (hf : Fwd l) {q : Nat} : ∀ d, q + d ≤ l.length → (st l (q + d)).1 q = (st l q).1 q
  | 0, _ => rfl
  | d + 1, h => by
    rw [show q + (d + 1) = (q + d) + 1 from rfl, st_next hf (by omega) (by omega)]
    exact st_final hf d (by omega)
theorem R_at {l : List Ins} (hf : Fwd l) {q k : Nat} (hq : q ≤ k) (hk : k ≤ l.length) : (st l k).1 q = R l q := by
  have h1 := st_final hf (q := q) (k - q) (by omega)
  have h2 := st_final hf (q := q) (l.length - q) (by omega)
  rw [show q + (k - q) = k by omega] at h1
  rw [show q + (l.length - q) = l.length by omega] at h2
  unfold R
  rw [h1, h2]
theorem st_out {l : List Ins} (hf : Fwd l) : ∀ k, k ≤ l.length → (st l k).2 = (List.range k).filter (R l)
  | 0, _ => rfl
  | k + 1, h => by
    have hr := R_at hf (Nat.le_refl k) (show k ≤ l.length by omega)
    have ih := st_out hf k (by omega)
    simp only [st]
    rw [hr, List.range_succ, List.filter_append]
    by_cases c : R l k = true
    · rw [if_pos c, ih]; simp [c]
    · rw [if_neg c, ih]; simp [c]

/-- What is marked: by whom. -/
theorem st_mark {l : List Ins} (_hf : Fwd l) : ∀ k, k ≤ l.length → ∀ q, (st l k).1 q = true ↔ q = T l 0 ∨ ∃ i, i < k ∧ (st l i).1 i = true ∧ (q = T l (i + 1) ∨ ((at' l i).k = 7 ∧ q = T l (tn l i)))
  | 0, _, q => by
    simp only [st, beq_iff_eq]
    constructor
    · exact Or.inl
    · rintro (h | ⟨i, h, _⟩)
      · exact h
      · omega
  | k + 1, h, q => by
    have ih := st_mark _hf k (by omega) q
    constructor
    · intro hq
      simp only [st] at hq
      split at hq
      · rename_i hc
        split at hq
        · rename_i h7
          unfold mark at hq
          simp only [Bool.or_eq_true, beq_iff_eq] at hq
          rcases hq with e | e | e
          · exact Or.inr ⟨k, by omega, hc, Or.inr ⟨h7, e⟩⟩
          · exact Or.inr ⟨k, by omega, hc, Or.inl e⟩
          · rcases ih.1 e with z | ⟨i, z1, z2⟩
            · exact Or.inl z
            · exact Or.inr ⟨i, by omega, z2⟩
        · unfold mark at hq
          simp only [Bool.or_eq_true, beq_iff_eq] at hq
          rcases hq with e | e
          · exact Or.inr ⟨k, by omega, hc, Or.inl e⟩
          · rcases ih.1 e with z | ⟨i, z1, z2⟩
            · exact Or.inl z
            · exact Or.inr ⟨i, by omega, z2⟩
      · rcases ih.1 hq with z | ⟨i, z1, z2⟩
        · exact Or.inl z
        · exact Or.inr ⟨i, by omega, z2⟩
    · intro hq
      have keep : (st l k).1 q = true → (st l (k + 1)).1 q = true := by
        intro e
        simp only [st]
        split
        · split <;> (unfold mark; simp [e])
        · exact e
      rcases hq with e | ⟨i, h1, h2, h3⟩
      · exact keep (ih.2 (Or.inl e))
      · by_cases hik : i < k
        · exact keep (ih.2 (Or.inr ⟨i, hik, h2, h3⟩))
        · obtain rfl : i = k := by omega
          simp only [st]
          rw [if_pos h2]
          rcases h3 with e | ⟨h7, e⟩
          · split <;> (unfold mark; simp [e])
          · rw [if_pos h7]; unfold mark; simp [e]
theorem R_iff {l : List Ins} (hf : Fwd l) (q : Nat) : R l q = true ↔ q = T l 0 ∨ ∃ i, i < l.length ∧ R l i = true ∧ (q = T l (i + 1) ∨ ((at' l i).k = 7 ∧ q = T l (tn l i))) := by
  unfold R
  rw [st_mark hf l.length (Nat.le_refl _) q]
  constructor
  · rintro (h | ⟨i, h1, h2, h3⟩)
    · exact Or.inl h
    · exact Or.inr ⟨i, h1, by rw [← R.eq_1, ← R_at hf (Nat.le_refl i) (by omega)]; exact h2, h3⟩
  · rintro (h | ⟨i, h1, h2, h3⟩)
    · exact Or.inl h
    · exact Or.inr ⟨i, h1, by rw [R_at hf (Nat.le_refl i) (by omega)]; exact h2, h3⟩
theorem R_stays {l : List Ins} (hf : Fwd l) {q : Nat} (h : R l q = true) : T l q = q ∧ q ≤ l.length := by
  rcases (R_iff hf q).1 h with rfl | ⟨i, h1, h2, rfl | ⟨h7, rfl⟩⟩
  · exact ⟨T_T hf (Nat.zero_le _), T_le hf (Nat.zero_le _)⟩
  · exact ⟨T_T hf (by omega), T_le hf (by omega)⟩
  · have ht := hf.tn h1 (jmp7 h7)
    exact ⟨T_T hf ht.2, T_le hf ht.2⟩
theorem R_first {l : List Ins} (hf : Fwd l) : ∀ q, R l q = true → T l 0 ≤ q := by
  intro q
  induction q using Nat.strongRecOn with
  | _ q ih =>
    intro h
    rcases (R_iff hf q).1 h with rfl | ⟨i, h1, h2, h3⟩
    · exact Nat.le_refl _
    · have hlt : i < q := by
        rcases h3 with rfl | ⟨h7, rfl⟩
        · have := T_ge hf (show i + 1 ≤ l.length by omega); omega
        · have ht := hf.tn h1 (jmp7 h7); have := T_ge hf ht.2; omega
      have := ih i hlt h2
      omega

/-- The next place that stays, or the end. -/
def nx (l : List Ins) (i : Nat) : Nat := if h : i < l.length then (if R l i = true then i else nx l (i + 1)) else l.length
termination_by l.length - i
theorem nx_R {l : List Ins} {i : Nat} (h : i < l.length) (hr : R l i = true) : nx l i = i := by rw [nx, dif_pos h, if_pos hr]
theorem nx_not {l : List Ins} {i : Nat} (h : i < l.length) (hr : ¬ R l i = true) : nx l i = nx l (i + 1) := by rw [nx, dif_pos h, if_neg hr]
theorem nx_end {l : List Ins} {i : Nat} (h : l.length ≤ i) : nx l i = l.length := by rw [nx, dif_neg (by omega)]
theorem nx_all (l : List Ins) : ∀ i, i ≤ l.length → i ≤ nx l i ∧ nx l i ≤ l.length ∧ (nx l i < l.length → R l (nx l i) = true) ∧ ∀ j, i ≤ j → j < nx l i → ¬ R l j = true := by
  refine down l.length ?_
  intro i ih hi
  by_cases h : i < l.length
  · by_cases hr : R l i = true
    · rw [nx_R h hr]; exact ⟨Nat.le_refl _, hi, fun _ => hr, fun j h1 h2 => by omega⟩
    · rw [nx_not h hr]
      obtain ⟨a1, a2, a3, a4⟩ := ih (i + 1) (by omega) (by omega)
      refine ⟨by omega, a2, a3, fun j h1 h2 => ?_⟩
      by_cases e : j = i
      · rw [e]; exact hr
      · exact a4 j (by omega) h2
  · have e : i = l.length := by omega
    rw [nx_end (by omega)]
    exact ⟨by omega, Nat.le_refl _, fun h => by omega, fun j h1 h2 => by omega⟩

/-- Whether a jump is laid behind an instruction. -/
def ad (l : List Ins) (i : Nat) : Bool := !(T l (i + 1) == nx l (i + 1))
/-- The number of an instruction's place among those that are laid. -/
def pl (l : List Ins) : Nat → Nat
  | 0 => 0
  | q + 1 => pl l q + (if R l q = true then (if ad l q = true then 2 else 1) else 0)
/-- An instruction as it is laid. -/
def lay (l : List Ins) (i : Nat) : Ins := if (at' l i).k = 7 then { at' l i with to := ((pl l (T l (tn l i)) : Nat) : Int) } else at' l i
def jum (l : List Ins) (i : Nat) : Ins := ⟨8, 0, 0, [], ((pl l (T l (i + 1)) : Nat) : Int)⟩
def blk (l : List Ins) (i : Nat) : List Ins := if R l i = true then (if ad l i = true then [lay l i, jum l i] else [lay l i]) else []
def ou (l : List Ins) : Nat → List Ins
  | 0 => []
  | q + 1 => ou l q ++ blk l q
/-- Instructions laid anew. -/
def bodyF (l : List Ins) : List Ins := ou l l.length

theorem ou_len (l : List Ins) : ∀ q, (ou l q).length = pl l q
  | 0 => rfl
  | q + 1 => by
    rw [ou, List.length_append, ou_len l q, pl]
    unfold blk
    split
    · split <;> rfl
    · rfl
theorem pl_mono {l : List Ins} {a b : Nat} (h : a ≤ b) : pl l a ≤ pl l b := by
  induction b with
  | zero => have : a = 0 := by omega
            rw [this]; exact Nat.le_refl _
  | succ b ih =>
    by_cases e : a = b + 1
    · rw [e]; exact Nat.le_refl _
    · have := ih (by omega)
      rw [pl]; omega
theorem pl_same {l : List Ins} {a b : Nat} (h : a ≤ b) (hn : ∀ j, a ≤ j → j < b → ¬ R l j = true) : pl l b = pl l a ∧ ou l b = ou l a := by
  induction b with
  | zero => have : a = 0 := by omega
            rw [this]; exact ⟨rfl, rfl⟩
  | succ b ih =>
    by_cases e : a = b + 1
    · rw [e]; exact ⟨rfl, rfl⟩
    · have i2 := ih (by omega) (fun j h1 h2 => hn j h1 (by omega))
      have hb := hn b (by omega) (by omega)
      rw [pl, ou, if_neg hb]
      unfold blk
      rw [if_neg hb]
      simpa using i2
/-- The step from one that stays to the next one. -/
theorem pl_next {l : List Ins} {i : Nat} (hi : i < l.length) (hr : R l i = true) : pl l (nx l (i + 1)) = pl l i + (if ad l i = true then 2 else 1) ∧ ou l (nx l (i + 1)) = ou l i ++ blk l i := by
  obtain ⟨a1, a2, a3, a4⟩ := nx_all l (i + 1) (by omega)
  obtain ⟨e1, e2⟩ := pl_same a1 a4
  rw [e1, e2, pl, ou, if_pos hr]
  exact ⟨rfl, rfl⟩
theorem pl_lt {l : List Ins} {i j : Nat} (hr : R l i = true) (h : i < j) : pl l i < pl l j := by
  have h1 := pl_mono (l := l) (show i + 1 ≤ j by omega)
  rw [pl, if_pos hr] at h1
  split at h1 <;> omega


/-! ### what is laid, looked at -/
theorem pl_inj {l : List Ins} {i j : Nat} (hi : i ≤ l.length) (hj : j ≤ l.length) (ri : i = l.length ∨ R l i = true) (rj : j = l.length ∨ R l j = true) (h : pl l i = pl l j) : i = j := by
  rcases Nat.lt_trichotomy i j with q | q | q
  · rcases ri with rfl | ri
    · omega
    · have := pl_lt ri q; omega
  · exact q
  · rcases rj with rfl | rj
    · omega
    · have := pl_lt rj q; omega
theorem getD_app {a b : List Ins} {i : Nat} (h : i < a.length) : (a ++ b).getD i dI = a.getD i dI := by
  simp only [List.getD_eq_getElem?_getD]
  rw [List.getElem?_append_left h]
theorem getD_app2 {a b : List Ins} {i : Nat} (h : a.length ≤ i) : (a ++ b).getD i dI = b.getD (i - a.length) dI := by
  simp only [List.getD_eq_getElem?_getD]
  rw [List.getElem?_append_right h]
theorem ou_at {l : List Ins} {q p : Nat} : ∀ d, p < pl l q → (ou l (q + d)).getD p dI = (ou l q).getD p dI
  | 0, _ => rfl
  | d + 1, h => by
    rw [show q + (d + 1) = (q + d) + 1 from rfl, ou, getD_app]
    · exact ou_at d h
    · rw [ou_len]
      have := pl_mono (l := l) (show q ≤ q + d by omega)
      omega
theorem body_len (l : List Ins) : (bodyF l).length = pl l l.length := ou_len l _
theorem body_lay {l : List Ins} {i : Nat} (hi : i < l.length) (hr : R l i = true) : at' (bodyF l) (pl l i) = lay l i ∧ pl l i < (bodyF l).length := by
  have h1 : pl l i < pl l (i + 1) := pl_lt hr (Nat.lt_succ_self i)
  have h2 := ou_at (l := l) (l.length - (i + 1)) h1
  rw [show i + 1 + (l.length - (i + 1)) = l.length by omega] at h2
  refine ⟨?_, ?_⟩
  · unfold at' bodyF
    rw [h2, ou, getD_app2 (by rw [ou_len]; exact Nat.le_refl _), ou_len, Nat.sub_self]
    unfold blk
    rw [if_pos hr]
    split <;> rfl
  · rw [body_len]
    have := pl_mono (l := l) (show i + 1 ≤ l.length by omega)
    omega
theorem body_jum {l : List Ins} {i : Nat} (hi : i < l.length) (hr : R l i = true) (ha : ad l i = true) : at' (bodyF l) (pl l i + 1) = jum l i ∧ pl l i + 1 < (bodyF l).length := by
  have h1 : pl l i + 1 < pl l (i + 1) := by rw [pl, if_pos hr, if_pos ha]; omega
  have h2 := ou_at (l := l) (l.length - (i + 1)) h1
  rw [show i + 1 + (l.length - (i + 1)) = l.length by omega] at h2
  refine ⟨?_, ?_⟩
  · unfold at' bodyF
    rw [h2, ou, getD_app2 (by rw [ou_len]; omega), ou_len, Nat.add_sub_cancel_left]
    unfold blk
    rw [if_pos hr, if_pos ha]
    rfl
  · rw [body_len]
    have := pl_mono (l := l) (show i + 1 ≤ l.length by omega)
    omega
/-- Each place of what is laid is one of both. -/
theorem body_cases (l : List Ins) : ∀ q p, p < pl l q → q ≤ l.length → ∃ i, i < q ∧ R l i = true ∧ (p = pl l i ∨ (ad l i = true ∧ p = pl l i + 1))
  | 0, p, h, _ => by simp [pl] at h
  | q + 1, p, h, hq => by
    by_cases c : p < pl l q
    · obtain ⟨i, h1, h2⟩ := body_cases l q p c (by omega)
      exact ⟨i, by omega, h2⟩
    · rw [pl] at h
      by_cases hr : R l q = true
      · rw [if_pos hr] at h
        by_cases ha : ad l q = true
        · rw [if_pos ha] at h
          refine ⟨q, Nat.lt_succ_self q, hr, ?_⟩
          by_cases e : p = pl l q
          · exact Or.inl e
          · exact Or.inr ⟨ha, by omega⟩
        · rw [if_neg ha] at h
          exact ⟨q, Nat.lt_succ_self q, hr, Or.inl (by omega)⟩
      · rw [if_neg hr] at h; omega

/-- A place that is come to from one that stays stays, or is the end. -/
theorem R_fall {l : List Ins} (hf : Fwd l) {i : Nat} (hi : i < l.length) (hr : R l i = true) : R l (T l (i + 1)) = true := (R_iff hf _).2 (Or.inr ⟨i, hi, hr, Or.inl rfl⟩)
theorem R_to {l : List Ins} (hf : Fwd l) {i : Nat} (hi : i < l.length) (hr : R l i = true) (h7 : (at' l i).k = 7) : R l (T l (tn l i)) = true := (R_iff hf _).2 (Or.inr ⟨i, hi, hr, Or.inr ⟨h7, rfl⟩⟩)
theorem nx_le {l : List Ins} {i j : Nat} (h : i ≤ j) (hj : j ≤ l.length) (hr : R l j = true) : nx l i ≤ j := by
  obtain ⟨a1, a2, a3, a4⟩ := nx_all l i (by omega)
  apply Classical.byContradiction
  intro hn
  exact a4 j h (by omega) hr
/-- What is laid is never more. -/
theorem pl_le {l : List Ins} (hf : Fwd l) : ∀ q, q ≤ l.length → (q = l.length ∨ R l q = true) → pl l q ≤ q := by
  intro q
  induction q using Nat.strongRecOn with
  | _ q ih =>
    intro hq hr
    -- the last one ahead of q that stays
    by_cases hex : ∃ i, i < q ∧ R l i = true
    · have hmax : ∃ i, i < q ∧ R l i = true ∧ ∀ j, i < j → j < q → ¬ R l j = true := by
        clear ih hr hq
        induction q with
        | zero => obtain ⟨i, h, _⟩ := hex; omega
        | succ q ih2 =>
          by_cases c : R l q = true
          · exact ⟨q, Nat.lt_succ_self q, c, fun j h1 h2 => by omega⟩
          · obtain ⟨i, h1, h2⟩ := hex
            have : i ≠ q := fun e => c (e ▸ h2)
            obtain ⟨m, m1, m2, m3⟩ := ih2 ⟨i, by omega, h2⟩
            refine ⟨m, by omega, m2, fun j h1 h2 => ?_⟩
            by_cases e : j = q
            · rw [e]; exact c
            · exact m3 j h1 (by omega)
      obtain ⟨i, h1, h2, h3⟩ := hmax
      have hpi := ih i h1 (by omega) (Or.inr h2)
      have hnq : nx l (i + 1) = q := by
        obtain ⟨a1, a2, a3, a4⟩ := nx_all l (i + 1) (by omega)
        apply Classical.byContradiction
        intro hne
        by_cases hlt : nx l (i + 1) < q
        · exact h3 _ (by omega) hlt (a3 (by omega))
        · rcases hr with rfl | hr
          · omega
          · exact a4 q (by omega) (by omega) hr
      obtain ⟨e1, -⟩ := pl_next (l := l) (show i < l.length by omega) h2
      rw [hnq] at e1
      rw [e1]
      by_cases ha : ad l i = true
      · rw [if_pos ha]
        -- i + 1 does not stay
        by_cases e : q = i + 1
        · exfalso
          unfold ad at ha
          simp only [Bool.not_eq_true', beq_eq_false_iff_ne] at ha
          rw [hnq, e] at ha
          rcases hr with hr | hr
          · exact ha (T_end l _ (by omega))
          · rw [e] at hr
            exact ha (R_stays hf hr).1
        · omega
      · rw [if_neg ha]; omega
    · have : pl l q = 0 := by
        have := (pl_same (l := l) (Nat.zero_le q) (fun j _ h2 hr => hex ⟨j, h2, hr⟩)).1
        rw [this]; rfl
      omega
theorem body_le {l : List Ins} (hf : Fwd l) : (bodyF l).length ≤ l.length := by
  rw [body_len]; exact pl_le hf _ (Nat.le_refl _) (Or.inl rfl)
/-- The jump that is laid goes beyond the next place. -/
theorem ad_gt {l : List Ins} (hf : Fwd l) {i : Nat} (hi : i < l.length) (hr : R l i = true) (ha : ad l i = true) : pl l i + 2 = pl l (nx l (i + 1)) ∧ nx l (i + 1) < T l (i + 1) ∧ pl l (nx l (i + 1)) < pl l (T l (i + 1)) ∧ T l (i + 1) ≤ l.length := by
  obtain ⟨e1, -⟩ := pl_next (l := l) hi hr
  rw [if_pos ha] at e1
  have h1 := T_le hf (show i + 1 ≤ l.length by omega)
  have h2 := nx_le (T_ge hf (show i + 1 ≤ l.length by omega)) h1 (R_fall hf hi hr)
  unfold ad at ha
  simp only [Bool.not_eq_true', beq_eq_false_iff_ne] at ha
  have h3 : nx l (i + 1) < T l (i + 1) := by omega
  obtain ⟨a1, a2, a3, a4⟩ := nx_all l (i + 1) (by omega)
  exact ⟨e1.symm, h3, pl_lt (a3 (by omega)) h3, h1⟩
theorem ad_not {l : List Ins} {i : Nat} (hi : i < l.length) (hr : R l i = true) (ha : ¬ ad l i = true) : pl l i + 1 = pl l (nx l (i + 1)) ∧ T l (i + 1) = nx l (i + 1) := by
  obtain ⟨e1, -⟩ := pl_next (l := l) hi hr
  rw [if_neg ha] at e1
  unfold ad at ha
  simp only [Bool.not_eq_true', beq_eq_false_iff_ne, ne_eq, Classical.not_not] at ha
  exact ⟨e1.symm, ha⟩

theorem lay_jmp (l : List Ins) (i : Nat) : jmp (lay l i) = jmp (at' l i) ∧ (lay l i).k = (at' l i).k ∧ (lay l i).e = (at' l i).e ∧ knw (lay l i) = knw (at' l i) ∧ (lay l i).a = (at' l i).a ∧ (lay l i).b = (at' l i).b := by
  unfold lay
  split <;> exact ⟨rfl, rfl, rfl, rfl, rfl, rfl⟩
/-- What is laid goes forward. -/
theorem body_fwd {l : List Ins} (hf : Fwd l) : Fwd (bodyF l) := by
  intro p hp hj
  rw [body_len] at hp
  obtain ⟨i, h1, h2, rfl | ⟨ha, rfl⟩⟩ := body_cases l l.length p hp (Nat.le_refl _)
  · obtain ⟨e, -⟩ := body_lay h1 h2
    rw [e] at hj ⊢
    rw [(lay_jmp l i).1] at hj
    obtain ⟨h7, -, -⟩ := stays hf h1 (R_stays hf h2).1 hj
    have ht := hf.tn h1 (jmp7 h7)
    have hge := T_ge hf ht.2
    have hle := T_le hf ht.2
    unfold lay
    rw [if_pos h7, body_len]
    have a1 := pl_lt (l := l) h2 (show i < T l (tn l i) by omega)
    have a2 := pl_mono (l := l) hle
    exact ⟨by simp only; omega, by simp only; omega⟩
  · obtain ⟨e, -⟩ := body_jum h1 h2 ha
    obtain ⟨b1, b2, b3, b4⟩ := ad_gt hf h1 h2 ha
    have a2 := pl_mono (l := l) b4
    rw [e, body_len]
    unfold jum
    exact ⟨by simp only; omega, by simp only; omega⟩


/-! ### laid anew again -/
theorem lay_tn {l : List Ins} {i : Nat} (hi : i < l.length) (hr : R l i = true) (h7 : (at' l i).k = 7) : tn (bodyF l) (pl l i) = pl l (T l (tn l i)) := by
  unfold tn
  rw [(body_lay hi hr).1]
  unfold lay
  rw [if_pos h7]
  rfl
theorem jum_tn {l : List Ins} {i : Nat} (hi : i < l.length) (hr : R l i = true) (ha : ad l i = true) : tn (bodyF l) (pl l i + 1) = pl l (T l (i + 1)) := by
  unfold tn
  rw [(body_jum hi hr ha).1]
  rfl
theorem T_pl {l : List Ins} (hf : Fwd l) : ∀ i, i ≤ l.length → (i = l.length ∨ R l i = true) → T (bodyF l) (pl l i) = pl l i ∧ (i < l.length → T (bodyF l) (pl l i + 1) = pl l (T l (i + 1))) := by
  refine down l.length ?_
  intro i ih hi hr0
  by_cases hlt : i < l.length
  · have hr : R l i = true := by
      rcases hr0 with e | e
      · omega
      · exact e
    have g1 := T_ge hf (show i + 1 ≤ l.length by omega)
    have g2 := T_le hf (show i + 1 ≤ l.length by omega)
    have i1 := (ih (T l (i + 1)) (by omega) g2 (Or.inr (R_fall hf hlt hr))).1
    have hnext : T (bodyF l) (pl l i + 1) = pl l (T l (i + 1)) := by
      by_cases ha : ad l i = true
      · obtain ⟨e, hl⟩ := body_jum hlt hr ha
        obtain ⟨b1, b2, b3, b4⟩ := ad_gt hf hlt hr ha
        have ht := jum_tn hlt hr ha
        rw [T_of ⟨hl, by rw [e]; rfl, by rw [ht]; omega⟩, e, ht]
        rw [if_neg (by unfold knw jum; simp), if_pos (Or.inr (show (jum l i).k = 8 from rfl)), i1]
      · obtain ⟨e1, e2⟩ := ad_not hlt hr ha
        rw [e1, ← e2, i1]
    refine ⟨?_, fun _ => hnext⟩
    obtain ⟨e, hl⟩ := body_lay hlt hr
    obtain ⟨f1, f2, f3, f4, -, -⟩ := lay_jmp l i
    by_cases hj : jmp (at' l i) = true
    · obtain ⟨h7, hk, hn⟩ := stays hf hlt (R_stays hf hr).1 hj
      have ht := lay_tn hlt hr h7
      have hb := hf.tn hlt hj
      have g3 := T_ge hf hb.2
      have g4 := T_le hf hb.2
      have i2 := (ih (T l (tn l i)) (by omega) g4 (Or.inr (R_to hf hlt hr h7))).1
      have hlt2 := pl_lt (l := l) hr (show i < T l (tn l i) by omega)
      rw [T_of ⟨hl, by rw [e, f1]; exact hj, by rw [ht]; exact hlt2⟩, e, ht, hnext, i2, f4, f3, f2, hk, h7]
      rw [if_neg (by simp), if_neg (by simp), if_neg]
      rintro ⟨q1, q2⟩
      exact hn ⟨q1, pl_inj g2 g4 (Or.inr (R_fall hf hlt hr)) (Or.inr (R_to hf hlt hr h7)) q2⟩
    · exact T_not (by rw [e, f1]; exact fun h => hj h.2.1)
  · have e : i = l.length := by omega
    exact ⟨by rw [e, ← body_len]; exact T_end _ _ (Nat.le_refl _), fun h => absurd h hlt⟩
theorem pl_first {l : List Ins} (hf : Fwd l) : pl l (T l 0) = 0 := by
  have := (pl_same (l := l) (Nat.zero_le (T l 0)) (fun j _ h2 hr => by have := R_first hf j hr; omega)).1
  rw [this]; rfl
theorem R_lt {l : List Ins} (hf : Fwd l) {i q : Nat} (h1 : i < l.length) (h3 : q = T l (i + 1) ∨ ((at' l i).k = 7 ∧ q = T l (tn l i))) : i < q ∧ q ≤ l.length := by
  rcases h3 with rfl | ⟨h7, rfl⟩
  · have := T_ge hf (show i + 1 ≤ l.length by omega)
    exact ⟨by omega, T_le hf (by omega)⟩
  · have ht := hf.tn h1 (jmp7 h7)
    have := T_ge hf ht.2
    exact ⟨by omega, T_le hf ht.2⟩
theorem R_pl {l : List Ins} (hf : Fwd l) : ∀ q, R l q = true → R (bodyF l) (pl l q) = true := by
  intro q
  induction q using Nat.strongRecOn with
  | _ q ih =>
    intro h
    have hf' := body_fwd hf
    rcases (R_iff hf q).1 h with rfl | ⟨i, h1, h2, h3⟩
    · refine (R_iff hf' _).2 (Or.inl ?_)
      have := (T_pl hf (T l 0) (T_le hf (Nat.zero_le _)) (Or.inr h)).1
      rw [pl_first hf] at this ⊢
      exact this.symm
    · obtain ⟨hlt, hle⟩ := R_lt hf h1 h3
      have i1 := ih i hlt h2
      obtain ⟨e, hl⟩ := body_lay h1 h2
      refine (R_iff hf' _).2 (Or.inr ⟨pl l i, hl, i1, ?_⟩)
      rcases h3 with rfl | ⟨h7, rfl⟩
      · exact Or.inl ((T_pl hf i (by omega) (Or.inr h2)).2 h1).symm
      · refine Or.inr ⟨by rw [e, (lay_jmp l i).2.1]; exact h7, ?_⟩
        rw [lay_tn h1 h2 h7]
        exact ((T_pl hf _ hle (Or.inr h)).1).symm
theorem R_jum {l : List Ins} (hf : Fwd l) {i : Nat} (hi : i < l.length) (hr : R l i = true) (ha : ad l i = true) : ¬ R (bodyF l) (pl l i + 1) = true := by
  intro h
  have h1 := (R_stays (body_fwd hf) h).1
  rw [(T_pl hf i (by omega) (Or.inr hr)).2 hi] at h1
  obtain ⟨b1, b2, b3, b4⟩ := ad_gt hf hi hr ha
  omega
theorem nx_at {l : List Ins} (hf : Fwd l) {j : Nat} (hj : j ≤ l.length) (hr : j = l.length ∨ R l j = true) : nx (bodyF l) (pl l j) = pl l j := by
  by_cases h : j = l.length
  · rw [h, nx_end (by rw [body_len]; exact Nat.le_refl _), body_len]
  · have hr' : R l j = true := by
      rcases hr with e | e
      · exact absurd e h
      · exact e
    exact nx_R (body_lay (by omega) hr').2 (R_pl hf j hr')
theorem nx_stays {l : List Ins} {i : Nat} (hi : i < l.length) : nx l (i + 1) ≤ l.length ∧ (nx l (i + 1) = l.length ∨ R l (nx l (i + 1)) = true) := by
  obtain ⟨a1, a2, a3, a4⟩ := nx_all l (i + 1) (by omega)
  refine ⟨a2, ?_⟩
  by_cases h : nx l (i + 1) = l.length
  · exact Or.inl h
  · exact Or.inr (a3 (by omega))
theorem nx_pl {l : List Ins} (hf : Fwd l) {i : Nat} (hi : i < l.length) (hr : R l i = true) : nx (bodyF l) (pl l i + 1) = pl l (nx l (i + 1)) := by
  obtain ⟨n1, n2⟩ := nx_stays (l := l) hi
  by_cases ha : ad l i = true
  · obtain ⟨b1, b2, b3, b4⟩ := ad_gt hf hi hr ha
    rw [nx_not (body_jum hi hr ha).2 (R_jum hf hi hr ha), show pl l i + 1 + 1 = pl l i + 2 from rfl, b1]
    exact nx_at hf n1 n2
  · rw [(ad_not hi hr ha).1]
    exact nx_at hf n1 n2
theorem ad_pl {l : List Ins} (hf : Fwd l) {i : Nat} (hi : i < l.length) (hr : R l i = true) : ad (bodyF l) (pl l i) = ad l i := by
  obtain ⟨n1, n2⟩ := nx_stays (l := l) hi
  unfold ad
  rw [nx_pl hf hi hr, (T_pl hf i (by omega) (Or.inr hr)).2 hi]
  have key : (pl l (T l (i + 1)) == pl l (nx l (i + 1))) = (T l (i + 1) == nx l (i + 1)) := by
    rw [Bool.eq_iff_iff]
    simp only [beq_iff_eq]
    exact ⟨fun h => pl_inj (T_le hf (by omega)) n1 (Or.inr (R_fall hf hi hr)) n2 h, fun h => by rw [h]⟩
  rw [key]
/-- The last one ahead of a place that stays. -/
theorem last_R {l : List Ins} {q : Nat} (hq : q ≤ l.length) (hr : q = l.length ∨ R l q = true) (hex : ∃ i, i < q ∧ R l i = true) : ∃ i, i < q ∧ R l i = true ∧ nx l (i + 1) = q := by
  have hmax : ∃ i, i < q ∧ R l i = true ∧ ∀ j, i < j → j < q → ¬ R l j = true := by
    clear hr hq
    induction q with
    | zero => obtain ⟨i, h, _⟩ := hex; omega
    | succ q ih2 =>
      by_cases c : R l q = true
      · exact ⟨q, Nat.lt_succ_self q, c, fun j h1 h2 => by omega⟩
      · obtain ⟨i, h1, h2⟩ := hex
        have : i ≠ q := fun e => c (e ▸ h2)
        obtain ⟨m, m1, m2, m3⟩ := ih2 ⟨i, by omega, h2⟩
        refine ⟨m, by omega, m2, fun j h1 h2 => ?_⟩
        by_cases e : j = q
        · rw [e]; exact c
        · exact m3 j h1 (by omega)
  obtain ⟨i, h1, h2, h3⟩ := hmax
  refine ⟨i, h1, h2, ?_⟩
  obtain ⟨a1, a2, a3, a4⟩ := nx_all l (i + 1) (by omega)
  apply Classical.byContradiction
  intro hne
  by_cases hlt : nx l (i + 1) < q
  · exact h3 _ (by omega) hlt (a3 (by omega))
  · rcases hr with rfl | hr
    · omega
    · exact a4 q (by omega) (by omega) hr
theorem none_R {l : List Ins} {q : Nat} (hex : ¬ ∃ i, i < q ∧ R l i = true) : pl l q = 0 ∧ ou l q = [] := by
  obtain ⟨e1, e2⟩ := pl_same (l := l) (Nat.zero_le q) (fun j _ h2 hr => hex ⟨j, h2, hr⟩)
  exact ⟨by rw [e1]; rfl, by rw [e2]; rfl⟩
theorem pl_pl {l : List Ins} (hf : Fwd l) : ∀ q, q ≤ l.length → (q = l.length ∨ R l q = true) → pl (bodyF l) (pl l q) = pl l q := by
  intro q
  induction q using Nat.strongRecOn with
  | _ q ih =>
    intro hq hr
    by_cases hex : ∃ i, i < q ∧ R l i = true
    · obtain ⟨i, h1, h2, h3⟩ := last_R hq hr hex
      have hi : i < l.length := by omega
      have i1 := ih i h1 (by omega) (Or.inr h2)
      have e1 := (pl_next (l := l) hi h2).1
      have e2 := (pl_next (l := bodyF l) (body_lay hi h2).2 (R_pl hf i h2)).1
      rw [nx_pl hf hi h2, ad_pl hf hi h2, i1, ← e1, h3] at e2
      exact e2
    · rw [(none_R hex).1]; rfl
theorem blk_pl {l : List Ins} (hf : Fwd l) {i : Nat} (hi : i < l.length) (hr : R l i = true) : blk (bodyF l) (pl l i) = blk l i := by
  obtain ⟨e, hl⟩ := body_lay hi hr
  have h1 : lay (bodyF l) (pl l i) = lay l i := by
    unfold lay
    rw [e]
    by_cases h7 : (at' l i).k = 7
    · have hb := hf.tn hi (jmp7 h7)
      have hle := T_le hf hb.2
      have hR := R_to hf hi hr h7
      rw [if_pos (by rw [(lay_jmp l i).2.1]; exact h7), lay_tn hi hr h7, (T_pl hf _ hle (Or.inr hR)).1, pl_pl hf _ hle (Or.inr hR)]
      unfold lay
      rw [if_pos h7]
    · rw [if_neg (by rw [(lay_jmp l i).2.1]; exact h7)]
      unfold lay
      rw [if_neg h7]
  have h2 : jum (bodyF l) (pl l i) = jum l i := by
    have hle := T_le hf (show i + 1 ≤ l.length by omega)
    unfold jum
    rw [(T_pl hf i (by omega) (Or.inr hr)).2 hi, pl_pl hf _ hle (Or.inr (R_fall hf hi hr))]
  unfold blk
  rw [R_pl hf i hr, hr, ad_pl hf hi hr, h1, h2]
theorem ou_pl {l : List Ins} (hf : Fwd l) : ∀ q, q ≤ l.length → (q = l.length ∨ R l q = true) → ou (bodyF l) (pl l q) = ou l q := by
  intro q
  induction q using Nat.strongRecOn with
  | _ q ih =>
    intro hq hr
    by_cases hex : ∃ i, i < q ∧ R l i = true
    · obtain ⟨i, h1, h2, h3⟩ := last_R hq hr hex
      have hi : i < l.length := by omega
      have i1 := ih i h1 (by omega) (Or.inr h2)
      have e1 := (pl_next (l := l) hi h2).2
      have e2 := (pl_next (l := bodyF l) (body_lay hi h2).2 (R_pl hf i h2)).2
      rw [nx_pl hf hi h2, i1, blk_pl hf hi h2, ← e1, h3] at e2
      exact e2
    · rw [(none_R hex).1, (none_R hex).2]; rfl
/-- Laid anew again they are the same. -/
theorem body_body {l : List Ins} (hf : Fwd l) : bodyF (bodyF l) = bodyF l := by
  have := ou_pl hf l.length (Nat.le_refl _) (Or.inl rfl)
  rw [← body_len] at this
  exact this

/-! ### each one is reached -/
def setB (r : Nat → Bool) (j : Nat) (b : Bool) : Nat → Bool := fun q => if q = j then b else r q
def rc (x : List Ins) : Nat → Nat → Bool
  | 0 => fun q => q == 0
  | i + 1 => let r1 := setB (rc x i) (i + 1) (rc x i (i + 1) || !((at' x i).k == 8)); if jmp (at' x i) = true then setB r1 (tn x i) true else r1
theorem rc_step {x : List Ins} {i q : Nat} (h : rc x i q = true) : rc x (i + 1) q = true := by
  have h1 : setB (rc x i) (i + 1) (rc x i (i + 1) || !((at' x i).k == 8)) q = true := by
    unfold setB
    split
    · rename_i e; rw [← e, h]; rfl
    · exact h
  simp only [rc]
  split
  · unfold setB
    split
    · rfl
    · exact h1
  · exact h1
theorem rc_keep {x : List Ins} {i q : Nat} (h : rc x i q = true) : ∀ d, rc x (i + d) q = true
  | 0 => h
  | d + 1 => rc_step (rc_keep h d)
theorem rc_later {x : List Ins} {i j q : Nat} (h : rc x i q = true) (hij : i ≤ j) : rc x j q = true := by
  have := rc_keep h (j - i)
  rwa [show i + (j - i) = j by omega] at this
theorem rc_fall {x : List Ins} {i : Nat} (h : (at' x i).k ≠ 8) : rc x (i + 1) (i + 1) = true := by
  have h1 : setB (rc x i) (i + 1) (rc x i (i + 1) || !((at' x i).k == 8)) (i + 1) = true := by
    unfold setB
    rw [if_pos rfl, beq_eq_false_iff_ne.2 h]
    simp
  simp only [rc]
  split
  · unfold setB
    split
    · rfl
    · exact h1
  · exact h1
theorem rc_jump {x : List Ins} {i : Nat} (h : jmp (at' x i) = true) : rc x (i + 1) (tn x i) = true := by
  simp only [rc]
  rw [if_pos h]
  unfold setB
  rw [if_pos rfl]
theorem lay_not8 {l : List Ins} (hf : Fwd l) {i : Nat} (hi : i < l.length) (hr : R l i = true) : (at' (bodyF l) (pl l i)).k ≠ 8 := by
  rw [(body_lay hi hr).1, (lay_jmp l i).2.1]
  intro h
  have := (stays hf hi (R_stays hf hr).1 (by unfold jmp; rw [h]; rfl)).1
  omega
theorem rc_R {l : List Ins} (hf : Fwd l) : ∀ q, R l q = true → rc (bodyF l) (pl l q) (pl l q) = true := by
  intro q
  induction q using Nat.strongRecOn with
  | _ q _ =>
    intro h
    rcases (R_iff hf q).1 h with rfl | ⟨i, h1, h2, h3⟩
    · rw [pl_first hf]; rfl
    · obtain ⟨hlt, hle⟩ := R_lt hf h1 h3
      have hp := pl_lt (l := l) h2 hlt
      obtain ⟨e, hl⟩ := body_lay h1 h2
      rcases h3 with rfl | ⟨h7, rfl⟩
      · by_cases ha : ad l i = true
        · obtain ⟨b1, b2, b3, b4⟩ := ad_gt hf h1 h2 ha
          have := rc_jump (x := bodyF l) (i := pl l i + 1) (by rw [(body_jum h1 h2 ha).1]; rfl)
          rw [jum_tn h1 h2 ha] at this
          exact rc_later this (by omega)
        · obtain ⟨e1, e2⟩ := ad_not h1 h2 ha
          rw [e2, ← e1]
          exact rc_fall (lay_not8 hf h1 h2)
      · have := rc_jump (x := bodyF l) (i := pl l i) (by rw [e, (lay_jmp l i).1]; exact jmp7 h7)
        rw [lay_tn h1 h2 h7] at this
        exact rc_later this (by omega)
theorem body_reached {l : List Ins} (hf : Fwd l) {p : Nat} (hp : p < (bodyF l).length) : rc (bodyF l) p p = true := by
  rw [body_len] at hp
  obtain ⟨i, h1, h2, rfl | ⟨ha, rfl⟩⟩ := body_cases l l.length p hp (Nat.le_refl _)
  · exact rc_R hf i h2
  · exact rc_fall (lay_not8 hf h1 h2)
/-- A jump never goes to the next one. -/
theorem body_far {l : List Ins} (hf : Fwd l) {p : Nat} (hp : p < (bodyF l).length) (h8 : (at' (bodyF l) p).k = 8) : (at' (bodyF l) p).to ≠ ((p + 1 : Nat) : Int) := by
  rw [body_len] at hp
  obtain ⟨i, h1, h2, rfl | ⟨ha, rfl⟩⟩ := body_cases l l.length p hp (Nat.le_refl _)
  · exact absurd h8 (lay_not8 hf h1 h2)
  · obtain ⟨b1, b2, b3, b4⟩ := ad_gt hf h1 h2 ha
    rw [(body_jum h1 h2 ha).1]
    unfold jum
    simp only
    omega

end Go.Proofs.Ytfhleldmkhllaaa.Flow
