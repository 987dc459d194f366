/-
  Lemmas, joined: IteP, Ite, Ite2, Ite3.
-/
import Derived.Test.YtlnkflmnjkmhkaaJO04
/-
  The plain law of Ite: what it makes of a store, without its table of answers; that what it told stays so.
-/
namespace Go.Proofs.Ytlnkflmnjkmhkaa
open Go.RowKit Go.Maps

/-- The variable of a diagram; 64 of 0 and 1. -/
def topP (l : List T3) (a : Int) : Int := if a < 2 then 64 else match l[(a - 2).toNat]? with | some t => t.a | none => 64
/-- A diagram where the variable v is false, true. -/
def loP (l : List T3) (a v : Int) : Int := if topP l a = v then (match l[(a - 2).toNat]? with | some t => t.b | none => a) else a
def hiP (l : List T3) (a v : Int) : Int := if topP l a = v then (match l[(a - 2).toNat]? with | some t => t.c | none => a) else a
/-- The least of three diagrams' variables. -/
def min3 (l : List T3) (c a b : Int) : Int := min (min (topP l c) (topP l a)) (topP l b)

/-- Ite of three diagrams: the store behind it, and what is told (none: the store is full); none: no fuel was left. -/
def iteP : Nat → BS → Int → Int → Int → Option (BS × Option Int)
  | 0, _, _, _, _ => none
  | f + 1, s, c, a, b =>
    if c = 1 ∨ a = b then some (s, some a) else if c = 0 then some (s, some b) else if a = 1 ∧ b = 0 then some (s, some c) else
    match iteP f s (loP s.nodes c (min3 s.nodes c a b)) (loP s.nodes a (min3 s.nodes c a b)) (loP s.nodes b (min3 s.nodes c a b)) with
    | none => none
    | some (s1, none) => some (s1, none)
    | some (s1, some lo) =>
      match iteP f s1 (hiP s.nodes c (min3 s.nodes c a b)) (hiP s.nodes a (min3 s.nodes c a b)) (hiP s.nodes b (min3 s.nodes c a b)) with
      | none => none
      | some (s2, none) => some (s2, none)
      | some (s2, some hi) => some (node1 s2 ⟨min3 s.nodes c a b, lo, hi⟩)

/-- Ite where all nodes are there already. -/
def lookP : Nat → List T3 → Int → Int → Int → Option Int
  | 0, _, _, _, _ => none
  | f + 1, l, c, a, b =>
    if c = 1 ∨ a = b then some a else if c = 0 then some b else if a = 1 ∧ b = 0 then some c else
    match lookP f l (loP l c (min3 l c a b)) (loP l a (min3 l c a b)) (loP l b (min3 l c a b)) with
    | none => none
    | some lo =>
      match lookP f l (hiP l c (min3 l c a b)) (hiP l a (min3 l c a b)) (hiP l b (min3 l c a b)) with
      | none => none
      | some hi => if lo = hi then some lo else byOf l ⟨min3 l c a b, lo, hi⟩

/-- A diagram of the nodes l. -/
def Is (l : List T3) (a : Int) : Prop := 0 ≤ a ∧ a < l.length + 2

/-- Nodes that may be: each one's parts are ahead of it, and have greater variables. -/
structure Ord (l : List T3) : Prop where
  var : ∀ (i : Nat) (t : T3), l[i]? = some t → 0 ≤ t.a ∧ t.a < 64
  lo : ∀ (i : Nat) (t : T3), l[i]? = some t → 0 ≤ t.b ∧ t.b < i + 2
  hi : ∀ (i : Nat) (t : T3), l[i]? = some t → 0 ≤ t.c ∧ t.c < i + 2
  loTop : ∀ (i : Nat) (t : T3), l[i]? = some t → t.a < topP l t.b
  hiTop : ∀ (i : Nat) (t : T3), l[i]? = some t → t.a < topP l t.c

theorem topP_le {l : List T3} (h : Ord l) (a : Int) : topP l a ≤ 64 ∧ 0 ≤ topP l a := by
  unfold topP
  split
  · omega
  · split
    · rename_i t ht
      have := h.var _ t ht
      omega
    · omega

theorem Is.mono {l m : List T3} {a : Int} (h : Is l a) : Is (l ++ m) a := by
  unfold Is at *
  simp
  omega

theorem is_ix {l : List T3} {a : Int} (h : Is l a) (h2 : 2 ≤ a) : (a - 2).toNat < l.length := by
  unfold Is at h
  omega

theorem topP_mono {l m : List T3} {a : Int} (h : Is l a) : topP (l ++ m) a = topP l a := by
  unfold topP
  split
  · rfl
  · rw [List.getElem?_append_left (is_ix h (by omega))]
theorem loP_mono {l m : List T3} {a v : Int} (h : Is l a) (hv : v < 64) : loP (l ++ m) a v = loP l a v := by
  unfold loP
  rw [topP_mono h]
  split
  · rename_i e
    by_cases h2 : a < 2
    · simp [topP, h2] at e; omega
    · rw [List.getElem?_append_left (is_ix h (by omega))]
  · rfl
theorem hiP_mono {l m : List T3} {a v : Int} (h : Is l a) (hv : v < 64) : hiP (l ++ m) a v = hiP l a v := by
  unfold hiP
  rw [topP_mono h]
  split
  · rename_i e
    by_cases h2 : a < 2
    · simp [topP, h2] at e; omega
    · rw [List.getElem?_append_left (is_ix h (by omega))]
  · rfl
theorem min3_mono {l m : List T3} {c a b : Int} (hc : Is l c) (ha : Is l a) (hb : Is l b) : min3 (l ++ m) c a b = min3 l c a b := by
  unfold min3
  rw [topP_mono hc, topP_mono ha, topP_mono hb]

/-- What is below a diagram. -/
theorem loP_is {l : List T3} (h : Ord l) {a v : Int} (ha : Is l a) (hv : v < 64) (hle : v ≤ topP l a) : Is l (loP l a v) ∧ v < topP l (loP l a v) := by
  unfold loP
  split
  · rename_i e
    by_cases h2 : a < 2
    · simp [topP, h2] at e; omega
    · have h3 := is_ix ha (by omega)
      rw [List.getElem?_eq_getElem h3]
      have h4 := h.lo _ _ (List.getElem?_eq_getElem h3)
      have h5 := h.loTop _ _ (List.getElem?_eq_getElem h3)
      have h6 : topP l a = (l[(a - 2).toNat]).a := by unfold topP; rw [if_neg h2, List.getElem?_eq_getElem h3]
      simp only
      unfold Is
      unfold Is at ha
      omega
  · exact ⟨ha, by omega⟩
theorem hiP_is {l : List T3} (h : Ord l) {a v : Int} (ha : Is l a) (hv : v < 64) (hle : v ≤ topP l a) : Is l (hiP l a v) ∧ v < topP l (hiP l a v) := by
  unfold hiP
  split
  · rename_i e
    by_cases h2 : a < 2
    · simp [topP, h2] at e; omega
    · have h3 := is_ix ha (by omega)
      rw [List.getElem?_eq_getElem h3]
      have h4 := h.hi _ _ (List.getElem?_eq_getElem h3)
      have h5 := h.hiTop _ _ (List.getElem?_eq_getElem h3)
      have h6 : topP l a = (l[(a - 2).toNat]).a := by unfold topP; rw [if_neg h2, List.getElem?_eq_getElem h3]
      simp only
      unfold Is
      unfold Is at ha
      omega
  · exact ⟨ha, by omega⟩

/-- Where nothing is plain, one of the three has a variable. -/
theorem min3_lt {l : List T3} (h : Ord l) {c a b : Int} (hc : Is l c) (h1 : ¬ (c = 1 ∨ a = b)) (h0 : ¬ c = 0) : min3 l c a b < 64 ∧ min3 l c a b ≤ topP l c ∧ min3 l c a b ≤ topP l a ∧ min3 l c a b ≤ topP l b ∧ 0 ≤ min3 l c a b := by
  have hc2 : 2 ≤ c := by unfold Is at hc; omega
  have h3 := is_ix hc hc2
  have h6 : topP l c = (l[(c - 2).toNat]).a := by unfold topP; rw [if_neg (by omega), List.getElem?_eq_getElem h3]
  have h7 := h.var _ _ (List.getElem?_eq_getElem h3)
  have ha := topP_le h a
  have hb := topP_le h b
  unfold min3
  omega

theorem byOf_some {l : List T3} {t : T3} {i : Int} (h : byOf l t = some i) : ∃ k : Nat, i = k + 2 ∧ l[k]? = some t := by
  unfold byOf at h
  simp only [Option.map_eq_some_iff] at h
  obtain ⟨k, hk, rfl⟩ := h
  refine ⟨k, by simp, ?_⟩
  rw [List.idxOf?, List.findIdx?_eq_some_iff_getElem] at hk
  obtain ⟨h1, h2, -⟩ := hk
  rw [List.getElem?_eq_getElem h1]
  simpa using h2

theorem byOf_mono {l m : List T3} {t : T3} {i : Int} (h : byOf l t = some i) : byOf (l ++ m) t = some i := by
  unfold byOf at *
  simp only [Option.map_eq_some_iff] at *
  obtain ⟨k, hk, rfl⟩ := h
  refine ⟨k, ?_, rfl⟩
  rw [List.idxOf?] at hk ⊢
  rw [List.findIdx?_append, hk]
  rfl

/-- Behind node the nodes that were are there still; what is told is one. -/
theorem node1_ok {s : BS} {t : T3} (h : Ord s.nodes) (hv : 0 ≤ t.a ∧ t.a < 64) (hlo : Is s.nodes t.b) (hhi : Is s.nodes t.c) (hl : t.a < topP s.nodes t.b) (hh : t.a < topP s.nodes t.c) :
    (∃ m, (node1 s t).1.nodes = s.nodes ++ m) ∧ Ord (node1 s t).1.nodes ∧ (node1 s t).1.cap = s.cap ∧
    ∀ r, (node1 s t).2 = some r → Is (node1 s t).1.nodes r ∧ t.a ≤ topP (node1 s t).1.nodes r ∧ (node1 s t).1.full = s.full ∧ (if t.b = t.c then some t.b else byOf (node1 s t).1.nodes t) = some r := by
  unfold node1
  split
  · rename_i e
    refine ⟨⟨[], by simp⟩, h, rfl, fun r hr => ?_⟩
    simp at hr
    subst hr
    exact ⟨hlo, by show t.a ≤ topP s.nodes t.b; omega, rfl, rfl⟩
  · rename_i e
    split
    · rename_i i hi
      refine ⟨⟨[], by simp⟩, h, rfl, fun r hr => ?_⟩
      simp at hr
      subst hr
      obtain ⟨k, rfl, hk⟩ := byOf_some hi
      have hk2 := (List.getElem?_eq_some_iff.1 hk).1
      refine ⟨by show 0 ≤ _ ∧ _ < (s.nodes.length : Int) + 2; omega, ?_, rfl, hi⟩
      show t.a ≤ topP s.nodes _
      unfold topP
      rw [if_neg (by omega)]
      have e2 : ((k : Int) + 2 - 2).toNat = k := by omega
      rw [e2, hk]
      exact Int.le_refl _
    · rename_i hn
      split
      · refine ⟨⟨[], by simp⟩, h, rfl, fun r hr => ?_⟩
        simp at hr
      · refine ⟨⟨[t], rfl⟩, ?_, rfl, fun r hr => ?_⟩
        · have hcase : ∀ (i : Nat) (u : T3), (s.nodes ++ [t])[i]? = some u → (s.nodes[i]? = some u) ∨ (i = s.nodes.length ∧ u = t) := by
            intro i u hu
            rw [List.getElem?_append] at hu
            split at hu
            · exact .inl hu
            · rename_i hge
              right
              rw [List.getElem?_singleton] at hu
              split at hu
              · simp at hu; exact ⟨by omega, hu.symm⟩
              · simp at hu
          have hisT : ∀ (i : Nat) (u : T3), s.nodes[i]? = some u → Is s.nodes u.b ∧ Is s.nodes u.c := fun i u hu => by
            have h1 := h.lo i u hu
            have h2 := h.hi i u hu
            have h3 := (List.getElem?_eq_some_iff.1 hu).1
            unfold Is
            omega
          constructor
          · intro i u hu
            rcases hcase i u hu with h1 | ⟨rfl, rfl⟩
            · exact h.var i u h1
            · exact hv
          · intro i u hu
            rcases hcase i u hu with h1 | ⟨rfl, rfl⟩
            · exact h.lo i u h1
            · exact hlo
          · intro i u hu
            rcases hcase i u hu with h1 | ⟨rfl, rfl⟩
            · exact h.hi i u h1
            · exact hhi
          · intro i u hu
            rcases hcase i u hu with h1 | ⟨rfl, rfl⟩
            · rw [topP_mono (hisT i u h1).1]; exact h.loTop i u h1
            · rw [topP_mono hlo]; exact hl
          · intro i u hu
            rcases hcase i u hu with h1 | ⟨rfl, rfl⟩
            · rw [topP_mono (hisT i u h1).2]; exact h.hiTop i u h1
            · rw [topP_mono hhi]; exact hh
        · simp at hr
          subst hr
          refine ⟨by unfold Is; simp; omega, ?_, rfl, ?_⟩
          · unfold topP
            rw [if_neg (by omega)]
            have e2 : ((s.nodes.length : Int) + 2 - 2).toNat = s.nodes.length := by omega
            rw [e2]
            simp
          · rw [byOf_append hn]
            simp [upd3]

/-- The store behind a call holds what it held. -/
structure Grew (s s' : BS) : Prop where
  nodes : ∃ m, s'.nodes = s.nodes ++ m
  ord : Ord s'.nodes
  cap : s'.cap = s.cap

theorem Grew.refl {s : BS} (h : Ord s.nodes) : Grew s s := ⟨⟨[], by simp⟩, h, rfl⟩
theorem Grew.trans {s s' s'' : BS} (h : Grew s s') (k : Grew s' s'') : Grew s s'' := by
  obtain ⟨m, hm⟩ := h.nodes
  obtain ⟨n, hn⟩ := k.nodes
  exact ⟨⟨m ++ n, by rw [hn, hm, List.append_assoc]⟩, k.ord, k.cap.trans h.cap⟩
theorem Grew.is {s s' : BS} (h : Grew s s') {a : Int} (ha : Is s.nodes a) : Is s'.nodes a ∧ topP s'.nodes a = topP s.nodes a := by
  obtain ⟨m, hm⟩ := h.nodes
  rw [hm]
  exact ⟨ha.mono, topP_mono ha⟩

/-- What is looked up stays so where nodes are added. -/
theorem lookP_mono {l m : List T3} (h : Ord l) : ∀ (f : Nat) (c a b r : Int), Is l c → Is l a → Is l b → lookP f l c a b = some r → lookP f (l ++ m) c a b = some r := by
  intro f
  induction f with
  | zero => intro c a b r _ _ _ h; simp [lookP] at h
  | succ f ih =>
    intro c a b r hc ha hb hr
    rw [lookP] at hr ⊢
    split at hr
    · rename_i h1; rw [if_pos h1]; exact hr
    rename_i h1
    rw [if_neg h1]
    split at hr
    · rename_i h2; rw [if_pos h2]; exact hr
    rename_i h2
    rw [if_neg h2]
    split at hr
    · rename_i h3; rw [if_pos h3]; exact hr
    rename_i h3
    rw [if_neg h3]
    obtain ⟨q1, q2, q3, q4, q5⟩ := min3_lt h hc h1 h2
    rw [min3_mono hc ha hb, loP_mono hc q1, loP_mono ha q1, loP_mono hb q1, hiP_mono hc q1, hiP_mono ha q1, hiP_mono hb q1]
    generalize min3 l c a b = v at *
    split at hr
    · cases hr
    · rename_i lo hlo
      rw [ih _ _ _ _ (loP_is h hc q1 q2).1 (loP_is h ha q1 q3).1 (loP_is h hb q1 q4).1 hlo]
      simp only
      split at hr
      · cases hr
      · rename_i hi hhi
        rw [ih _ _ _ _ (hiP_is h hc q1 q2).1 (hiP_is h ha q1 q3).1 (hiP_is h hb q1 q4).1 hhi]
        simp only
        split at hr
        · rename_i h4; rw [if_pos h4]; exact hr
        · rename_i h4; rw [if_neg h4]; exact byOf_mono hr

/-- What a call of Ite comes to. -/
theorem iteP_ok : ∀ (f : Nat) (s : BS) (c a b : Int) (X : BS × Option Int), Ord s.nodes → Is s.nodes c → Is s.nodes a → Is s.nodes b → iteP f s c a b = some X →
    Grew s X.1 ∧ ∀ r, X.2 = some r → X.1.full = s.full ∧ Is X.1.nodes r ∧ min3 s.nodes c a b ≤ topP X.1.nodes r ∧ lookP f X.1.nodes c a b = some r := by
  intro f
  induction f with
  | zero => intro s c a b X _ _ _ _ h; simp [iteP] at h
  | succ f ih =>
    intro s c a b X h hc ha hb hX
    rw [iteP] at hX
    have g0 := Grew.refl h
    split at hX
    · rename_i h1
      cases hX
      refine ⟨g0, fun r hr => ?_⟩
      cases hr
      refine ⟨rfl, ha, by simp only [min3]; omega, by rw [lookP, if_pos h1]⟩
    rename_i h1
    split at hX
    · rename_i h2
      cases hX
      refine ⟨g0, fun r hr => ?_⟩
      cases hr
      refine ⟨rfl, hb, by simp only [min3]; omega, by rw [lookP, if_neg h1, if_pos h2]⟩
    rename_i h2
    split at hX
    · rename_i h3
      cases hX
      refine ⟨g0, fun r hr => ?_⟩
      cases hr
      refine ⟨rfl, hc, by simp only [min3]; omega, by rw [lookP, if_neg h1, if_neg h2, if_pos h3]⟩
    rename_i h3
    obtain ⟨q1, q2, q3, q4, q5⟩ := min3_lt h hc h1 h2
    have lc := loP_is h hc q1 q2
    have la := loP_is h ha q1 q3
    have lb := loP_is h hb q1 q4
    have hc' := hiP_is h hc q1 q2
    have ha' := hiP_is h ha q1 q3
    have hb' := hiP_is h hb q1 q4
    generalize hv : min3 s.nodes c a b = v at *
    split at hX
    · cases hX
    · rename_i s1 e1
      cases hX
      exact ⟨(ih _ _ _ _ _ h lc.1 la.1 lb.1 e1).1, fun r hr => by cases hr⟩
    rename_i s1 lo e1
    obtain ⟨g1, k1⟩ := ih _ _ _ _ _ h lc.1 la.1 lb.1 e1
    obtain ⟨k11, k12, k13, k14⟩ := k1 lo rfl
    simp only at k11 k12 k13 k14 g1
    split at hX
    · cases hX
    · rename_i s2 e2
      cases hX
      exact ⟨g1.trans (ih _ _ _ _ _ g1.ord (g1.is hc'.1).1 (g1.is ha'.1).1 (g1.is hb'.1).1 e2).1, fun r hr => by cases hr⟩
    rename_i s2 hi e2
    obtain ⟨g2, k2⟩ := ih _ _ _ _ _ g1.ord (g1.is hc'.1).1 (g1.is ha'.1).1 (g1.is hb'.1).1 e2
    obtain ⟨k21, k22, k23, k24⟩ := k2 hi rfl
    simp only at k21 k22 k23 k24 g2
    have tlo : v < topP s1.nodes lo := by
      have e : v < min3 s.nodes (loP s.nodes c v) (loP s.nodes a v) (loP s.nodes b v) := by simp only [min3]; omega
      omega
    have thi : v < topP s2.nodes hi := by
      have e : v < min3 s1.nodes (hiP s.nodes c v) (hiP s.nodes a v) (hiP s.nodes b v) := by
        simp only [min3]
        rw [(g1.is hc'.1).2, (g1.is ha'.1).2, (g1.is hb'.1).2]
        omega
      omega
    have n := node1_ok (s := s2) (t := ⟨v, lo, hi⟩) g2.ord ⟨q5, q1⟩ (g2.is k12).1 k22 (by rw [(g2.is k12).2]; exact tlo) thi
    obtain ⟨n1, n2, n3, n4⟩ := n
    cases hX
    have g3 : Grew s2 (node1 s2 ⟨v, lo, hi⟩).1 := ⟨n1, n2, n3⟩
    refine ⟨(g1.trans g2).trans g3, fun r hr => ?_⟩
    obtain ⟨n5, n6, n7, n8⟩ := n4 r hr
    refine ⟨by rw [n7, k21, k11], n5, n6, ?_⟩
    obtain ⟨m1, em1⟩ := g1.nodes
    obtain ⟨m2, em2⟩ := g2.nodes
    obtain ⟨m3, em3⟩ := g3.nodes
    have E : (node1 s2 ⟨v, lo, hi⟩).1.nodes = s.nodes ++ (m1 ++ m2 ++ m3) := by rw [em3, em2, em1]; simp
    have E1 : (node1 s2 ⟨v, lo, hi⟩).1.nodes = s1.nodes ++ (m2 ++ m3) := by rw [em3, em2]; simp
    rw [lookP, if_neg h1, if_neg h2, if_neg h3]
    have d1 : lookP f (node1 s2 ⟨v, lo, hi⟩).1.nodes (loP s.nodes c v) (loP s.nodes a v) (loP s.nodes b v) = some lo := by
      rw [E1]
      exact lookP_mono g1.ord f _ _ _ _ (g1.is lc.1).1 (g1.is la.1).1 (g1.is lb.1).1 k14
    have d2 : lookP f (node1 s2 ⟨v, lo, hi⟩).1.nodes (hiP s.nodes c v) (hiP s.nodes a v) (hiP s.nodes b v) = some hi := by
      rw [em3]
      exact lookP_mono g2.ord f _ _ _ _ (g2.is (g1.is hc'.1).1).1 (g2.is (g1.is ha'.1).1).1 (g2.is (g1.is hb'.1).1).1 k24
    generalize (node1 s2 ⟨v, lo, hi⟩).1.nodes = L at *
    subst E
    rw [min3_mono hc ha hb, hv, loP_mono hc q1, loP_mono ha q1, loP_mono hb q1, hiP_mono hc q1, hiP_mono ha q1, hiP_mono hb q1, d1]
    simp only
    rw [d2]
    exact n8

/-- Where all nodes are there, Ite adds none, whatever the fuel is. -/
theorem iteP_of_look : ∀ (f g : Nat) (s : BS) (c a b r : Int) (X : BS × Option Int), lookP g s.nodes c a b = some r → iteP f s c a b = some X → X = (s, some r) := by
  intro f
  induction f with
  | zero => intro g s c a b r X _ h; simp [iteP] at h
  | succ f ih =>
    intro g s c a b r X hl hX
    cases g with
    | zero => simp [lookP] at hl
    | succ g =>
      rw [iteP] at hX
      rw [lookP] at hl
      split at hX
      · rename_i h1
        rw [if_pos h1] at hl
        cases hX; cases hl; rfl
      rename_i h1
      rw [if_neg h1] at hl
      split at hX
      · rename_i h2
        rw [if_pos h2] at hl
        cases hX; cases hl; rfl
      rename_i h2
      rw [if_neg h2] at hl
      split at hX
      · rename_i h3
        rw [if_pos h3] at hl
        cases hX; cases hl; rfl
      rename_i h3
      rw [if_neg h3] at hl
      split at hl
      · cases hl
      rename_i lo hlo
      split at hl
      · cases hl
      rename_i hi hhi
      split at hX
      · cases hX
      · rename_i s1 e1
        have := ih _ _ _ _ _ _ _ hlo e1
        cases this
      rename_i s1 lo' e1
      have := ih _ _ _ _ _ _ _ hlo e1
      cases this
      split at hX
      · cases hX
      · rename_i s2 e2
        have := ih _ _ _ _ _ _ _ hhi e2
        cases this
      rename_i s2 hi' e2
      have := ih _ _ _ _ _ _ _ hhi e2
      cases this
      cases hX
      unfold node1
      split at hl
      · rename_i h4
        cases hl
        simp only
        rw [if_pos h4]
      · rename_i h4
        simp only
        rw [if_neg h4, hl]

/-- With enough fuel Ite comes to something. -/
theorem iteP_some : ∀ (f : Nat) (s : BS) (c a b : Int), Ord s.nodes → Is s.nodes c → Is s.nodes a → Is s.nodes b → 65 ≤ f + min3 s.nodes c a b → ∃ X, iteP f s c a b = some X := by
  intro f
  induction f with
  | zero =>
    intro s c a b h hc ha hb hf
    have := topP_le h c
    exfalso
    simp only [min3] at hf
    omega
  | succ f ih =>
    intro s c a b h hc ha hb hf
    rw [iteP]
    split
    · exact ⟨_, rfl⟩
    rename_i h1
    split
    · exact ⟨_, rfl⟩
    rename_i h2
    split
    · exact ⟨_, rfl⟩
    rename_i h3
    obtain ⟨q1, q2, q3, q4, q5⟩ := min3_lt h hc h1 h2
    have lc := loP_is h hc q1 q2
    have la := loP_is h ha q1 q3
    have lb := loP_is h hb q1 q4
    have hc' := hiP_is h hc q1 q2
    have ha' := hiP_is h ha q1 q3
    have hb' := hiP_is h hb q1 q4
    generalize hv : min3 s.nodes c a b = v at *
    obtain ⟨X1, e1⟩ := ih s (loP s.nodes c v) (loP s.nodes a v) (loP s.nodes b v) h lc.1 la.1 lb.1 (by
      have : v < min3 s.nodes (loP s.nodes c v) (loP s.nodes a v) (loP s.nodes b v) := by simp only [min3]; omega
      omega)
    rw [e1]
    obtain ⟨s1, r1⟩ := X1
    cases r1 with
    | none => exact ⟨_, rfl⟩
    | some lo =>
      obtain ⟨g1, -⟩ := iteP_ok _ _ _ _ _ _ h lc.1 la.1 lb.1 e1
      simp only at g1 ⊢
      obtain ⟨X2, e2⟩ := ih s1 (hiP s.nodes c v) (hiP s.nodes a v) (hiP s.nodes b v) g1.ord (g1.is hc'.1).1 (g1.is ha'.1).1 (g1.is hb'.1).1 (by
        have : v < min3 s1.nodes (hiP s.nodes c v) (hiP s.nodes a v) (hiP s.nodes b v) := by
          simp only [min3]
          rw [(g1.is hc'.1).2, (g1.is ha'.1).2, (g1.is hb'.1).2]
          omega
        omega)
      rw [e2]
      obtain ⟨s2, r2⟩ := X2
      cases r2 with
      | none => exact ⟨_, rfl⟩
      | some hi => exact ⟨_, rfl⟩

end Go.Proofs.Ytlnkflmnjkmhkaa

/-
  Contracts of the store's small methods at a store that is there: top, split, right.
-/
namespace Go.Proofs.Ytlnkflmnjkmhkaa
open Go.RowKit Go.Maps

/-- The cells of a node. -/
theorem IsBdd.node {w : World} {b : Nat} {O : Nat → Prop} {s : BS} {told : T3 → Option Int} (h : IsBdd w b O s told) (k : Nat) (hk : k < s.nodes.length) :
    ∃ g cn t, s.nodes[k]? = some t ∧ w.cell? ⟨b, 1, none⟩ = some (.slice (some ⟨g, 0, none⟩) s.nodes.length cn) ∧ s.nodes.length ≤ cn ∧ s.nodes.length ≤ 1048576 ∧
      w.cell? ⟨g, k * 3, none⟩ = some (.int .i64 t.a) ∧ w.cell? ⟨g, k * 3 + 1, none⟩ = some (.int .i64 t.b) ∧ w.cell? ⟨g, k * 3 + 2, none⟩ = some (.int .i64 t.c) := by
  obtain ⟨vn, m1, m2, c0, c1, c2, c3, c4, fz, own, hm12, hnb, hm1, hm2, hO, hcp1, hcp2, hcp3, -⟩ := h
  have own' := own
  obtain ⟨-, ⟨h1, h2⟩ | ⟨g, cap, cur, h1, h2, h3, h4, h5, h6, h7⟩⟩ := own
  · exfalso
    omega
  · subst h1
    have hc := own'.cells (g := g) rfl
    obtain ⟨f1, f2, f3⟩ := flat3_at s.nodes k hk
    refine ⟨g, cap, s.nodes[k], List.getElem?_eq_getElem hk, c1, by omega, by omega, ?_, ?_, ?_⟩
    · have := hc _ _ f1; rw [show (⟨g, 0, none⟩ : Addr).add (k * 3) = ⟨g, k * 3, none⟩ from by unfold Addr.add; simp; omega] at this; exact this
    · have := hc _ _ f2; simpa [Addr.add] using this
    · have := hc _ _ f3; simpa [Addr.add] using this

set_option maxRecDepth 100000 in
set_option maxHeartbeats 400000 in
theorem top_any (b : Nat) (O : Nat → Prop) (s : BS) (told : T3 → Option Int) (a : Int) (w : World) (hs : IsBdd w b O s told) (ha : Is s.nodes a) :
    Calls Try.prog 151 #[.pointer (some ⟨b, 0, none⟩), .int .i64 a] w fun e w' => e = .returned (.int .i64 (topP s.nodes a)) ∧ w = w' := by
  by_cases h2 : a < 2
  · have HE : Hid (topP s.nodes a = 64) := by show _ = _; unfold topP; rw [if_pos h2]
    clear hs ha
    go_enter Try.func151, Try.ntmps151
    go_wp2
    go_ret
    exact ⟨by rw [HE.out]; rfl, rfl⟩
  · obtain ⟨k, rfl⟩ : ∃ k : Nat, a = (k : Int) + 2 := ⟨(a - 2).toNat, by omega⟩
    have hk : k < s.nodes.length := by unfold Is at ha; omega
    obtain ⟨g, cn, t, ht, c1, hcn, hle, n0, n1, n2⟩ := hs.node k hk
    have HE : Hid (topP s.nodes ((k : Int) + 2) = t.a) := by
      show _ = _
      unfold topP
      rw [if_neg h2, show ((k : Int) + 2 - 2).toNat = k from by omega, ht]
    clear hs ha ht n1 n2
    go_enter Try.func151, Try.ntmps151
    go_wp2
    go_ret
    exact ⟨by rw [HE.out]; rfl, rfl⟩

/-- A diagram; what is none is 0. -/
def rightP (l : List T3) (a : Int) : Int := if 0 ≤ a ∧ a < l.length + 2 then a else 0
theorem rightP_is (l : List T3) (a : Int) : Is l (rightP l a) := by unfold rightP Is; split <;> omega

set_option maxRecDepth 100000 in
set_option maxHeartbeats 400000 in
theorem right_any (b : Nat) (O : Nat → Prop) (s : BS) (told : T3 → Option Int) (a : Int) (w : World) (hs : IsBdd w b O s told) :
    Calls Try.prog 138 #[.pointer (some ⟨b, 0, none⟩), .int .i64 a] w fun e w' => e = .returned (.int .i64 (rightP s.nodes a)) ∧ w = w' := by
  obtain ⟨vn, m1, m2, c0, c1, c2, c3, c4, fz, own, hm12, hnb, hm1, hm2, hO, hcp1, hcp2, hcp3, -⟩ := hs
  obtain ⟨pn, cn, rfl, hln⟩ := own_shape own
  clear c0 c2 c3 c4 fz own hm12 hnb hm1 hm2 hO
  have hl : s.nodes.length ≤ 1048576 := by omega
  clear hcp1 hcp2 hcp3 hln
  by_cases h0 : a < 0
  · have HE : Hid (rightP s.nodes a = 0) := by show _ = _; unfold rightP; rw [if_neg (by omega)]
    go_enter Try.func138, Try.ntmps138
    go_wp2
    go_ret
    exact ⟨by rw [HE.out]; rfl, rfl⟩
  · have h0' : 0 ≤ a := by omega
    by_cases h1 : a < s.nodes.length + 2
    · have HE : Hid (rightP s.nodes a = a) := by show _ = _; unfold rightP; rw [if_pos (by omega)]
      go_enter Try.func138, Try.ntmps138
      go_wp2
      go_ret
      exact ⟨by rw [HE.out]; rfl, rfl⟩
    · have HE : Hid (rightP s.nodes a = 0) := by show _ = _; unfold rightP; rw [if_neg (by omega)]
      go_enter Try.func138, Try.ntmps138
      go_wp2
      go_ret
      exact ⟨by rw [HE.out]; rfl, rfl⟩

set_option maxRecDepth 100000 in
set_option maxHeartbeats 800000 in
theorem split_any (b : Nat) (O : Nat → Prop) (s : BS) (told : T3 → Option Int) (a v : Int) (w : World) (hs : IsBdd w b O s told) (ha : Is s.nodes a) (hv : v < 64) :
    Calls Try.prog 152 #[.pointer (some ⟨b, 0, none⟩), .int .i64 a, .int .i64 v] w fun e w' => e = .returned (.tuple #[.int .i64 (loP s.nodes a v), .int .i64 (hiP s.nodes a v)]) ∧ Below w.heap.size w w' := by
  have HT := Lib.hid (top_any b O s told a w hs ha)
  by_cases h1 : topP s.nodes a = v
  · have h2 : 2 ≤ a := by
      by_cases h : a < 2
      · unfold topP at h1; rw [if_pos h] at h1; omega
      · omega
    obtain ⟨k, rfl⟩ : ∃ k : Nat, a = (k : Int) + 2 := ⟨(a - 2).toNat, by omega⟩
    have hk : k < s.nodes.length := by unfold Is at ha; omega
    obtain ⟨g, cn, t, ht, c1, hcn, hle, n0, n1, n2⟩ := hs.node k hk
    have e2 : ((k : Int) + 2 - 2).toNat = k := by omega
    have HE : Hid (loP s.nodes ((k : Int) + 2) v = t.b ∧ hiP s.nodes ((k : Int) + 2) v = t.c) := by
      show _ ∧ _
      unfold loP hiP
      rw [if_pos h1, if_pos h1, e2, ht]
      exact ⟨rfl, rfl⟩
    have hb : (topP s.nodes ((k : Int) + 2) != v) = false := by simp [h1]
    have hi0 : (0 : Int) ≤ (k : Int) + 2 - 2 := by omega
    have hi1 : (k : Int) + 2 - 2 < s.nodes.length := by omega
    have hw0 : IntKind.i64.wrap ((k : Int) + 2 - 2) = (k : Int) := by rw [IntWalk.i64_in _ (by omega)]; omega
    clear hs ha ht n0 h1 e2 hi0 hi1
    generalize topP s.nodes ((k : Int) + 2) = tp at *
    go_enter Try.func152, Try.ntmps152
    go_wp2_with fail
    refine HT.out.mono ?_
    rintro e w1 ⟨rfl, rfl⟩
    go_wp2_with fail
    go_quiet (fail)
    go_wp2_with fail
    go_ret2
    exact ⟨by rw [HE.out.1, HE.out.2]; rfl, below_drewN (Below.refl _ _) _⟩
  · have HE : Hid (loP s.nodes a v = a ∧ hiP s.nodes a v = a) := by
      show _ ∧ _
      unfold loP hiP
      rw [if_neg h1, if_neg h1]
      exact ⟨rfl, rfl⟩
    have hb : (topP s.nodes a != v) = true := by simpa using h1
    clear hs ha h1
    generalize topP s.nodes a = tp at *
    go_enter Try.func152, Try.ntmps152
    go_wp2_with fail
    refine HT.out.mono ?_
    rintro e w1 ⟨rfl, rfl⟩
    go_wp2_with fail
    go_ret2
    exact ⟨by rw [HE.out.1, HE.out.2]; rfl, Below.refl _ _⟩

end Go.Proofs.Ytlnkflmnjkmhkaa

/-
  The contract of (*Store).ite, by its plain law; of Ite, Not, And, Or, Xor at a store that is there and not full.
-/
namespace Go.Proofs.Ytlnkflmnjkmhkaa
open Go.RowKit Go.Maps

/-- What Ite told is what it would tell anew. -/
def ToldOk (l : List T3) (t : T3 → Option Int) : Prop := ∀ k r, t k = some r → Is l k.a ∧ Is l k.b ∧ Is l k.c ∧ lookP 65 l k.a k.b k.c = some r

theorem ToldOk.mono {l m : List T3} {t : T3 → Option Int} (h : ToldOk l t) (ho : Ord l) : ToldOk (l ++ m) t := fun k r hk => by
  obtain ⟨h1, h2, h3, h4⟩ := h k r hk
  exact ⟨h1.mono, h2.mono, h3.mono, lookP_mono ho _ _ _ _ _ h1 h2 h3 h4⟩

/-- How a call ends that makes a diagram, or gives up, and may have told more. -/
def GivesT (b : Nat) (O : Nat → Prop) (w : World) (r : BS × Option Int) (e : Ending) (w' : World) : Prop :=
  (∃ i, r.2 = some i ∧ e = .returned (.int .i64 i) ∧ Made b O w (fun s' t' => s' = r.1 ∧ ToldOk s'.nodes t') w') ∨
  (r.2 = none ∧ e = .panicked [{ v := overV, recovered := false }] ∧ Made b O w (fun s' t' => s' = r.1 ∧ ToldOk s'.nodes t') w')

theorem is_wf {l : List T3} {a : Int} (h : Is l a) (hl : l.length ≤ 1048576) : (Lit.int .i64 a).wf = true := WalkArith.wf_i64 (n := a) (by unfold Is at h; omega)
theorem IsBdd.len {w : World} {b : Nat} {O : Nat → Prop} {s : BS} {told : T3 → Option Int} (h : IsBdd w b O s told) : s.nodes.length ≤ 1048576 := by
  obtain ⟨vn, m1, m2, c0, c1, c2, c3, c4, fz, own, hm12, hnb, hm1, hm2, hO, hcp1, hcp2, hcp3, -⟩ := h
  omega

set_option maxRecDepth 100000 in
set_option maxHeartbeats 800000 in
theorem ite_plain (b : Nat) (c a d r : Int) (w : World) (h : ((c = 1 ∨ a = d) ∧ r = a) ∨ (¬ (c = 1 ∨ a = d) ∧ c = 0 ∧ r = d) ∨ (¬ (c = 1 ∨ a = d) ∧ ¬ c = 0 ∧ (a = 1 ∧ d = 0) ∧ r = c)) :
    Calls Try.prog 137 #[.pointer (some ⟨b, 0, none⟩), .int .i64 c, .int .i64 a, .int .i64 d] w (RetInt w r) := by
  rcases h with ⟨h, rfl⟩ | ⟨h1, rfl, rfl⟩ | ⟨h1, h2, ⟨rfl, rfl⟩, rfl⟩
  · by_cases hc : c = 1
    · subst hc
      clear h
      go_enter Try.func137, Try.ntmps137
      go_wp2
      go_ret
      exact ⟨rfl, Below.refl _ _⟩
    · obtain rfl : r = d := by omega
      have q1 : (c == 1) = false := by simpa using hc
      clear h
      go_enter Try.func137, Try.ntmps137
      go_wp2
      go_ret
      exact ⟨rfl, Below.refl _ _⟩
  · have q2 : (a == r) = false := by rw [beq_eq_false_iff_ne]; omega
    clear h1
    go_enter Try.func137, Try.ntmps137
    go_wp2
    go_ret
    exact ⟨rfl, Below.refl _ _⟩
  · have q1 : (r == 1) = false := by rw [beq_eq_false_iff_ne]; omega
    have q0 : (r == 0) = false := by rw [beq_eq_false_iff_ne]; omega
    clear h1 h2
    go_enter Try.func137, Try.ntmps137
    go_wp2
    go_ret
    exact ⟨rfl, Below.refl _ _⟩

end Go.Proofs.Ytlnkflmnjkmhkaa

/-
  The contract of (*Store).ite in all.
-/
namespace Go.Proofs.Ytlnkflmnjkmhkaa
open Go.RowKit Go.Maps

theorem lookP_fuel {l : List T3} : ∀ (f g : Nat) (c a b r : Int), f ≤ g → lookP f l c a b = some r → lookP g l c a b = some r := by
  intro f
  induction f with
  | zero => intro g c a b r _ h; simp [lookP] at h
  | succ f ih =>
    intro g c a b r hg hr
    obtain ⟨g, rfl⟩ : ∃ g', g = g' + 1 := ⟨g - 1, by omega⟩
    rw [lookP] at hr ⊢
    split at hr
    · rename_i h1; rw [if_pos h1]; exact hr
    rename_i h1
    rw [if_neg h1]
    split at hr
    · rename_i h2; rw [if_pos h2]; exact hr
    rename_i h2
    rw [if_neg h2]
    split at hr
    · rename_i h3; rw [if_pos h3]; exact hr
    rename_i h3
    rw [if_neg h3]
    split at hr
    · cases hr
    rename_i lo hlo
    rw [ih g _ _ _ _ (by omega) hlo]
    simp only
    split at hr
    · cases hr
    rename_i hi hhi
    rw [ih g _ _ _ _ (by omega) hhi]
    exact hr

theorem lookP_det {l : List T3} {f g : Nat} {c a b r r' : Int} (h : lookP f l c a b = some r) (h' : lookP g l c a b = some r') : r = r' := by
  have h1 := lookP_fuel f (max f g) c a b r (by omega) h
  have h2 := lookP_fuel g (max f g) c a b r' (by omega) h'
  rw [h1] at h2
  exact Option.some.inj h2

theorem IsBdd.told {w : World} {b : Nat} {O : Nat → Prop} {s : BS} {told : T3 → Option Int} (h : IsBdd w b O s told) : ∃ m2, w.cell? ⟨b, 3, none⟩ = some (.map (some m2)) ∧ IMap w m2 told ∧
    ∀ (w' : World) (told' : T3 → Option Int), IMap w' m2 told' → w.grownBy w' (some m2) → IsBdd w' b O s told' ∧ Keeps O w w' := by
  have hlt := h.lt
  obtain ⟨v, m1, m2, c0, c1, c2, c3, c4, f, own, hne, hnb, hm1, hm2, hO, rest⟩ := h
  refine ⟨m2, c3, hm2, fun w' told' hm hg => ?_⟩
  have hb2 : b ≠ m2 := fun e => by
    obtain ⟨es, clock, h1, -⟩ := hm2
    rw [← e] at h1
    simp [World.cell?, h1] at c0
  have hbl := hlt b ((hO b).2 (.inl rfl))
  have hbb : w'.heap[b]? = w.heap[b]? := hg.block b hbl (fun e => hb2 (Option.some.inj e))
  have hm1b : w'.heap[m1]? = w.heap[m1]? := hg.block m1 hm1.lt (fun e => hne (Option.some.inj e))
  have e : ∀ j, w'.cell? ⟨b, j, none⟩ = w.cell? ⟨b, j, none⟩ := fun j => World.cell?_of_block hbb
  have hrow := row_not_map own hm2
  refine ⟨⟨v, m1, m2, (e 0).trans c0, (e 1).trans c1, (e 2).trans c2, (e 3).trans c3, (e 4).trans c4, fun j => (World.frozen?_of_block (a := ⟨b, j, none⟩) hbb).trans (f j), ?_, hne, hnb, hm1.kept hm1b, hm, hO, rest⟩,
    ⟨hg.os, hg.tape, hg.output, hg.size, fun k hk hOk => hg.block k hk (fun e => hOk ((hO k).2 (.inr (.inr (.inl (Option.some.inj e))))))⟩⟩
  have hlt1 := own.lt
  obtain ⟨hl, hh⟩ := own
  refine ⟨hl, ?_⟩
  rcases hh with hh | ⟨g, cap, cur, hh1, hh0, hh2, hh3⟩
  · exact .inl hh
  · have hgo : v.ownBlock = some g := by rw [hh1]; rfl
    refine .inr ⟨g, cap, cur, hh1, hh0, ?_, hh3⟩
    rw [hg.block g (hlt1 g hgo).2 (fun e => hrow (by rw [hgo, Option.some.inj e]))]
    exact hh2

theorem Made.pre {b : Nat} {O O' : Nat → Prop} {w w1 w' : World} {Φ : BS → (T3 → Option Int) → Prop} (h : Made b O' w1 Φ w') (he : Ext O O' w w1) : Made b O w Φ w' := by
  obtain ⟨O'', s', t', h1, h2, h3⟩ := h
  exact ⟨O'', s', t', h1, he.trans h2, h3⟩

/-- What is known of Ite at a fuel. -/
def IteAt (f : Nat) : Prop := ∀ (b : Nat) (O : Nat → Prop) (s : BS) (told : T3 → Option Int) (c a d : Int) (X : BS × Option Int) (w : World), IsBdd w b O s told → Ord s.nodes → ToldOk s.nodes told → Is s.nodes c → Is s.nodes a → Is s.nodes d →
    iteP f s c a d = some X → Calls Try.prog 137 #[.pointer (some ⟨b, 0, none⟩), .int .i64 c, .int .i64 a, .int .i64 d] w (GivesT b O w X)

theorem lookEq (w : World) (m2 : Nat) (told : T3 → Option Int) (c a d : Int) (h : IMap w m2 told) (hw : (⟨c, a, d⟩ : T3).wf) :
    (Instr.lookup 106 (.map (some m2)) (.agg #[.int .i64 c, .int .i64 a, .int .i64 d]) true).run Try.prog w = .ok (.tuple #[.int .i64 ((told ⟨c, a, d⟩).getD 0), .bool (told ⟨c, a, d⟩).isSome]) w :=
  IMap.look (P := Try.prog) (T := 106) (k := 162) (e := 3) h keyedThree (fun t ht => keyOf_three ht) Try.underlying106 (zeroInt _) (t := ⟨c, a, d⟩) hw

set_option maxRecDepth 100000 in
set_option maxHeartbeats 800000 in
theorem ite_told (b : Nat) (O : Nat → Prop) (s : BS) (told : T3 → Option Int) (c a d r : Int) (w : World) (hs : IsBdd w b O s told) (hw : (⟨c, a, d⟩ : T3).wf) (ht : told ⟨c, a, d⟩ = some r)
    (q1 : (c == 1) = false) (q2 : (a == d) = false) (q3 : (c == 0) = false) (q4 : ¬ (a = 1 ∧ d = 0)) :
    Calls Try.prog 137 #[.pointer (some ⟨b, 0, none⟩), .int .i64 c, .int .i64 a, .int .i64 d] w (RetInt w r) := by
  obtain ⟨m2, c3, hm, -⟩ := hs.told
  have hlk := lookEq w m2 told c a d hm hw
  rw [ht] at hlk
  simp only [Option.getD_some, Option.isSome_some] at hlk
  clear hs hw ht hm
  by_cases ha : a = 1
  · have q5 : (d == 0) = false := by rw [beq_eq_false_iff_ne]; omega
    have q6 : (a == 1) = true := by rw [beq_iff_eq]; exact ha
    clear ha q4
    go_enter Try.func137, Try.ntmps137
    go_wp2
    go_ret
    exact ⟨rfl, Below.refl _ _⟩
  · have q6 : (a == 1) = false := by rw [beq_eq_false_iff_ne]; exact ha
    clear ha q4
    go_enter Try.func137, Try.ntmps137
    go_wp2
    go_ret
    exact ⟨rfl, Below.refl _ _⟩

end Go.Proofs.Ytlnkflmnjkmhkaa
