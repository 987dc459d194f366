/-
  Lemmas, joined: Val, Holds, EvalS, MeansP.
-/
import Derived.Test.YtlnkflmnjkmhkaaJR03
import Derived.Test.YtlnkflmnjkmhkaaJR05
import Derived.Test.YtlnkflmnjkmhkaaJR19
import Derived.Test.YtlnkflmnjkmhkaaJR20
/-
  The plain law of a diagram's truth under bits, and of Ite's.
-/
namespace Go.Proofs.Ytlnkflmnjkmhkaa
open Go.RowKit Go.Maps

/-- Is a diagram true under bits? -/
def valF (l : List T3) (q : Int → Bool) : Nat → Int → Bool
  | 0, _ => false
  | f + 1, a => if a < 2 then a == 1 else match l[(a - 2).toNat]? with
    | none => false
    | some t => if q t.a then valF l q f t.c else valF l q f t.b
def valP (l : List T3) (q : Int → Bool) (a : Int) : Bool := valF l q (a.toNat + 1) a

theorem valF_fuel {l : List T3} (h : Ord l) (q : Int → Bool) : ∀ (f g : Nat) (a : Int), Is l a → a.toNat < f → a.toNat < g → valF l q f a = valF l q g a := by
  intro f
  induction f with
  | zero => intro g a _ h0; omega
  | succ f ih =>
    intro g a ha hf hg
    obtain ⟨g, rfl⟩ : ∃ g', g = g' + 1 := ⟨g - 1, by omega⟩
    rw [valF, valF]
    split
    · rfl
    · rename_i h2
      have h3 := is_ix ha (by omega)
      rw [List.getElem?_eq_getElem h3]
      simp only
      have hb := h.lo _ _ (List.getElem?_eq_getElem h3)
      have hc := h.hi _ _ (List.getElem?_eq_getElem h3)
      have ha' := ha
      unfold Is at ha'
      have ib : Is l (l[(a - 2).toNat]).b := by unfold Is; omega
      have ic : Is l (l[(a - 2).toNat]).c := by unfold Is; omega
      rw [ih g _ ib (by omega) (by omega), ih g _ ic (by omega) (by omega)]

theorem valP_two {l : List T3} {q : Int → Bool} {a : Int} (h : a < 2) : valP l q a = (a == 1) := by
  unfold valP
  rw [valF, if_pos h]

theorem valP_node {l : List T3} (h : Ord l) (q : Int → Bool) {a : Int} (ha : Is l a) (h2 : 2 ≤ a) {t : T3} (ht : l[(a - 2).toNat]? = some t) : valP l q a = if q t.a then valP l q t.c else valP l q t.b := by
  have hb := h.lo _ _ ht
  have hc := h.hi _ _ ht
  have h3 := is_ix ha h2
  have ha' := ha
  unfold Is at ha'
  unfold valP
  rw [valF, if_neg (by omega), ht]
  simp only
  have ib : Is l t.b := by unfold Is; omega
  have ic : Is l t.c := by unfold Is; omega
  rw [valF_fuel h q _ (t.c.toNat + 1) _ ic (by omega) (by omega), valF_fuel h q _ (t.b.toNat + 1) _ ib (by omega) (by omega)]

theorem valF_mono {l m : List T3} (h : Ord l) (q : Int → Bool) : ∀ (f : Nat) (a : Int), Is l a → valF (l ++ m) q f a = valF l q f a := by
  intro f
  induction f with
  | zero => intro a _; rfl
  | succ f ih =>
    intro a ha
    rw [valF, valF]
    split
    · rfl
    · rename_i h2
      have h3 := is_ix ha (by omega)
      rw [List.getElem?_append_left h3, List.getElem?_eq_getElem h3]
      simp only
      have hb := h.lo _ _ (List.getElem?_eq_getElem h3)
      have hc := h.hi _ _ (List.getElem?_eq_getElem h3)
      have ha' := ha
      unfold Is at ha'
      have ib : Is l (l[(a - 2).toNat]).b := by unfold Is; omega
      have ic : Is l (l[(a - 2).toNat]).c := by unfold Is; omega
      rw [ih _ ib, ih _ ic]
theorem valP_mono {l m : List T3} (h : Ord l) (q : Int → Bool) {a : Int} (ha : Is l a) : valP (l ++ m) q a = valP l q a := valF_mono h q _ _ ha

theorem Grew.val {s s' : BS} (g : Grew s s') (h : Ord s.nodes) (q : Int → Bool) {a : Int} (ha : Is s.nodes a) : valP s'.nodes q a = valP s.nodes q a := by
  obtain ⟨m, hm⟩ := g.nodes
  rw [hm]
  exact valP_mono h q ha

/-- A diagram's truth out of its parts'. -/
theorem val_split {l : List T3} (h : Ord l) (q : Int → Bool) {a v : Int} (ha : Is l a) (hv : v < 64) (hle : v ≤ topP l a) : valP l q a = if q v then valP l q (hiP l a v) else valP l q (loP l a v) := by
  unfold loP hiP
  by_cases e : topP l a = v
  · rw [if_pos e, if_pos e]
    by_cases h2 : a < 2
    · simp [topP, h2] at e; omega
    · have h3 := is_ix ha (by omega)
      have ht : l[(a - 2).toNat]? = some l[(a - 2).toNat] := List.getElem?_eq_getElem h3
      rw [valP_node h q ha (by omega) ht, ht]
      have : topP l a = (l[(a - 2).toNat]).a := by unfold topP; rw [if_neg h2, ht]
      rw [← this, e]
  · rw [if_neg e, if_neg e]
    split <;> rfl

theorem node1_val {s : BS} {t : T3} (h : Ord s.nodes) (hv : 0 ≤ t.a ∧ t.a < 64) (hlo : Is s.nodes t.b) (hhi : Is s.nodes t.c) (hl : t.a < topP s.nodes t.b) (hh : t.a < topP s.nodes t.c) (q : Int → Bool) {r : Int} (hr : (node1 s t).2 = some r) :
    valP (node1 s t).1.nodes q r = if q t.a then valP s.nodes q t.c else valP s.nodes q t.b := by
  obtain ⟨⟨m, hm⟩, hord, -, hk⟩ := node1_ok h hv hlo hhi hl hh
  obtain ⟨his, -, -, hby⟩ := hk r hr
  have mb : valP (node1 s t).1.nodes q t.b = valP s.nodes q t.b := by rw [hm]; exact valP_mono h q hlo
  have mc : valP (node1 s t).1.nodes q t.c = valP s.nodes q t.c := by rw [hm]; exact valP_mono h q hhi
  split at hby
  · rename_i e
    cases hby
    rw [mb]
    split
    · rw [e]
    · rfl
  · obtain ⟨k, rfl, hk⟩ := byOf_some hby
    have ht : (node1 s t).1.nodes[((k : Int) + 2 - 2).toNat]? = some t := by rw [show ((k : Int) + 2 - 2).toNat = k from by omega]; exact hk
    rw [valP_node hord q his (by omega) ht, mb, mc]

/-- The truth of what Ite makes. -/
theorem iteP_val (q : Int → Bool) : ∀ (f : Nat) (s : BS) (c a b : Int) (X : BS × Option Int), Ord s.nodes → Is s.nodes c → Is s.nodes a → Is s.nodes b → iteP f s c a b = some X →
    ∀ r, X.2 = some r → valP X.1.nodes q r = if valP s.nodes q c then valP s.nodes q a else valP s.nodes q b := by
  intro f
  induction f with
  | zero => intro s c a b X _ _ _ _ h; simp [iteP] at h
  | succ f ih =>
    intro s c a b X h hc ha hb hX
    have hX0 := hX
    rw [iteP] at hX
    split at hX
    · rename_i h1
      cases hX
      intro r hr
      cases hr
      rcases h1 with rfl | rfl
      · rw [valP_two (a := 1) (by omega)]; rfl
      · split <;> rfl
    rename_i h1
    split at hX
    · rename_i h2
      cases hX
      intro r hr
      cases hr
      subst h2
      rw [valP_two (a := 0) (by omega)]; rfl
    rename_i h2
    split at hX
    · rename_i h3
      cases hX
      intro r hr
      cases hr
      obtain ⟨rfl, rfl⟩ := h3
      rw [valP_two (a := 1) (by omega), valP_two (a := 0) (by omega)]
      show _ = if valP s.nodes q c = true then true else false
      cases valP s.nodes q c <;> rfl
    rename_i h3
    obtain ⟨q1, q2, q3, q4, q5⟩ := min3_lt h hc h1 h2
    have lc := loP_is h hc q1 q2
    have la := loP_is h ha q1 q3
    have lb := loP_is h hb q1 q4
    have hc' := hiP_is h hc q1 q2
    have ha' := hiP_is h ha q1 q3
    have hb' := hiP_is h hb q1 q4
    have sc := val_split h q hc q1 q2
    have sa := val_split h q ha q1 q3
    have sb := val_split h q hb q1 q4
    generalize hv : min3 s.nodes c a b = v at *
    split at hX
    · cases hX
    · cases hX; intro r hr; cases hr
    rename_i s1 lo e1
    obtain ⟨g1, k1⟩ := iteP_ok f s _ _ _ _ h lc.1 la.1 lb.1 e1
    obtain ⟨-, k12, k13, -⟩ := k1 lo rfl
    have v1 := ih s _ _ _ _ h lc.1 la.1 lb.1 e1 lo rfl
    simp only at k12 k13 g1 v1
    split at hX
    · cases hX
    · cases hX; intro r hr; cases hr
    rename_i s2 hi e2
    obtain ⟨g2, k2⟩ := iteP_ok f s1 _ _ _ _ g1.ord (g1.is hc'.1).1 (g1.is ha'.1).1 (g1.is hb'.1).1 e2
    obtain ⟨-, k22, k23, -⟩ := k2 hi rfl
    have v2 := ih s1 _ _ _ _ g1.ord (g1.is hc'.1).1 (g1.is ha'.1).1 (g1.is hb'.1).1 e2 hi rfl
    simp only at k22 k23 g2 v2
    have tlo : v < topP s1.nodes lo := by
      have e : v < min3 s.nodes (loP s.nodes c v) (loP s.nodes a v) (loP s.nodes b v) := by simp only [min3]; omega
      omega
    have thi : v < topP s2.nodes hi := by
      have e : v < min3 s1.nodes (hiP s.nodes c v) (hiP s.nodes a v) (hiP s.nodes b v) := by
        simp only [min3]
        rw [(g1.is hc'.1).2, (g1.is ha'.1).2, (g1.is hb'.1).2]
        omega
      omega
    cases hX
    intro r hr
    have nv := node1_val (s := s2) (t := ⟨v, lo, hi⟩) g2.ord ⟨q5, q1⟩ (g2.is k12).1 k22 (by rw [(g2.is k12).2]; exact tlo) thi q hr
    rw [nv]
    simp only
    rw [g2.val g1.ord q k12, v1, v2, g1.val h q hc'.1, g1.val h q ha'.1, g1.val h q hb'.1, sc, sa, sb]
    cases q v <;> simp

/-- The variables of all nodes are below V. -/
def Vars (l : List T3) (V : Int) : Prop := ∀ t ∈ l, t.a < V

theorem node1_len (s : BS) (t : T3) : (node1 s t).1.nodes.length ≤ s.nodes.length + 1 ∧ ((node1 s t).2 = none → s.nodes.length = s.cap ∧ (node1 s t).1.nodes = s.nodes) := by
  unfold node1
  split
  · exact ⟨by simp, fun h => by cases h⟩
  · split
    · exact ⟨by simp, fun h => by cases h⟩
    · split
      · rename_i h; exact ⟨by simp, fun _ => ⟨h, rfl⟩⟩
      · exact ⟨by simp, fun h => by cases h⟩
theorem node1_vars {s : BS} {t : T3} {V : Int} (h : Vars s.nodes V) (ht : t.a < V) : Vars (node1 s t).1.nodes V := by
  unfold node1
  split
  · exact h
  · split
    · exact h
    · split
      · exact h
      · intro u hu
        rcases List.mem_append.1 hu with h1 | h1
        · exact h u h1
        · simp at h1; subst h1; exact ht

/-- How many nodes Ite makes at most, where the variables from v on up to V alone are met. -/
theorem iteP_len (V : Nat) (hV : V ≤ 64) : ∀ (f : Nat) (s : BS) (c a b : Int) (X : BS × Option Int) (v : Nat), Ord s.nodes → Vars s.nodes V → Is s.nodes c → Is s.nodes a → Is s.nodes b → (v : Int) ≤ min3 s.nodes c a b → iteP f s c a b = some X →
    Vars X.1.nodes V ∧ X.1.nodes.length + 1 ≤ s.nodes.length + 2 ^ (V - v) ∧ (X.2 = none → X.1.nodes.length = s.cap) := by
  intro f
  induction f with
  | zero => intro s c a b X v _ _ _ _ _ _ h; simp [iteP] at h
  | succ f ih =>
    intro s c a b X v h hvs hc ha hb hvm hX
    have hp := Nat.two_pow_pos (V - v)
    rw [iteP] at hX
    split at hX
    · cases hX; exact ⟨hvs, by show s.nodes.length + 1 ≤ _; omega, fun h => by cases h⟩
    rename_i h1
    split at hX
    · cases hX; exact ⟨hvs, by show s.nodes.length + 1 ≤ _; omega, fun h => by cases h⟩
    rename_i h2
    split at hX
    · cases hX; exact ⟨hvs, by show s.nodes.length + 1 ≤ _; omega, fun h => by cases h⟩
    rename_i h3
    obtain ⟨q1, q2, q3, q4, q5⟩ := min3_lt h hc h1 h2
    -- the least variable is one of a node
    have hmV : min3 s.nodes c a b < V := by
      have hc2 : 2 ≤ c := by unfold Is at hc; omega
      have h3 := is_ix hc hc2
      have h6 : topP s.nodes c = (s.nodes[(c - 2).toNat]).a := by unfold topP; rw [if_neg (by omega), List.getElem?_eq_getElem h3]
      have := hvs _ (List.getElem_mem h3)
      omega
    have lc := loP_is h hc q1 q2
    have la := loP_is h ha q1 q3
    have lb := loP_is h hb q1 q4
    have hc' := hiP_is h hc q1 q2
    have ha' := hiP_is h ha q1 q3
    have hb' := hiP_is h hb q1 q4
    generalize hv : min3 s.nodes c a b = m at *
    have hpow : 2 ^ (V - v) = 2 ^ (V - (v + 1)) + 2 ^ (V - (v + 1)) := by
      rw [show V - v = V - (v + 1) + 1 by omega, Nat.pow_succ]
      omega
    split at hX
    · cases hX
    · rename_i s1 e1
      cases hX
      obtain ⟨w1, w2, w3⟩ := ih s _ _ _ _ (v + 1) h hvs lc.1 la.1 lb.1 (by simp only [min3]; omega) e1
      simp only at w1 w2 w3
      exact ⟨w1, by simp only; omega, fun _ => w3 trivial⟩
    rename_i s1 lo e1
    obtain ⟨w1, w2, -⟩ := ih s _ _ _ _ (v + 1) h hvs lc.1 la.1 lb.1 (by simp only [min3]; omega) e1
    obtain ⟨g1, -⟩ := iteP_ok f s _ _ _ _ h lc.1 la.1 lb.1 e1
    simp only at w1 w2 g1
    have hm1 : ((v + 1 : Nat) : Int) ≤ min3 s1.nodes (hiP s.nodes c m) (hiP s.nodes a m) (hiP s.nodes b m) := by
      simp only [min3]
      rw [(g1.is hc'.1).2, (g1.is ha'.1).2, (g1.is hb'.1).2]
      omega
    split at hX
    · cases hX
    · rename_i s2 e2
      cases hX
      obtain ⟨x1, x2, x3⟩ := ih s1 _ _ _ _ (v + 1) g1.ord w1 (g1.is hc'.1).1 (g1.is ha'.1).1 (g1.is hb'.1).1 hm1 e2
      simp only at x1 x2 x3
      exact ⟨x1, by simp only; omega, fun h => by rw [← g1.cap]; exact x3 trivial⟩
    rename_i s2 hi e2
    obtain ⟨x1, x2, -⟩ := ih s1 _ _ _ _ (v + 1) g1.ord w1 (g1.is hc'.1).1 (g1.is ha'.1).1 (g1.is hb'.1).1 hm1 e2
    obtain ⟨g2, -⟩ := iteP_ok f s1 _ _ _ _ g1.ord (g1.is hc'.1).1 (g1.is ha'.1).1 (g1.is hb'.1).1 e2
    simp only at x1 x2 g2
    cases hX
    obtain ⟨n1, n2⟩ := node1_len s2 ⟨m, lo, hi⟩
    refine ⟨node1_vars x1 hmV, by omega, fun hn => ?_⟩
    obtain ⟨n3, n4⟩ := n2 hn
    rw [n4, n3, g2.cap, g1.cap]

end Go.Proofs.Ytlnkflmnjkmhkaa

/-
  Contract of (*Store).Holds at a store that is there.
-/
namespace Go.Proofs.Ytlnkflmnjkmhkaa
open Go.RowKit Go.Maps

/-- The value reads as a list of truths. -/
def BVec (w : World) (v : Value) (bs : List Bool) : Prop :=
  ∃ pa cap, v = .slice pa bs.length cap ∧ bs.length ≤ cap ∧ cap ≤ maxLen ∧
    (0 < bs.length → ∃ b off, pa = some ⟨b, off, none⟩ ∧ b < w.heap.size ∧ ∀ i, i < bs.length → w.cell? ⟨b, off + i, none⟩ = some (.bool (bs.getD i false)))
theorem BVec.below {w w' : World} {v : Value} {bs : List Bool} (h : BVec w v bs) (hb : Below w.heap.size w w') : BVec w' v bs := by
  obtain ⟨pa, cap, h1, h2, h3, h4⟩ := h
  refine ⟨pa, cap, h1, h2, h3, fun h0 => ?_⟩
  obtain ⟨b, off, e, hlt, hc⟩ := h4 h0
  exact ⟨b, off, e, Nat.lt_of_lt_of_le hlt hb.size, fun i hi => by rw [hb.cell (p := ⟨b, off + i, none⟩) hlt]; exact hc i hi⟩

/-- What the bits say of a variable. -/
def qOf (bs : List Bool) (v : Int) : Bool := bs.getD v.toNat false

set_option maxRecDepth 100000 in
set_option maxHeartbeats 400000 in
theorem none_at (b : Nat) (c : Int) (w : World) (hc : (c == 0) = false) (h : w.cell? ⟨b, 0, none⟩ = some (.int .i64 c)) :
    Calls Try.prog 78 #[.pointer (some ⟨b, 0, none⟩)] w fun e w' => e = .returned (.bool false) ∧ w = w' := by
  go_enter Try.func78, Try.ntmps78
  go_wp2
  go_ret
  exact ⟨rfl, rfl⟩

set_option maxRecDepth 100000 in
set_option maxHeartbeats 2000000 in
theorem holds_sto (b : Nat) (O : Nat → Prop) (s : BS) (a : Int) (vb : Value) (bs : List Bool) (w : World) (hs : Sto w b O s) (hbv : BVec w vb bs) (hbl : bs.length ≤ 1000000) :
    Calls Try.prog 90 #[.pointer (some ⟨b, 0, none⟩), .int .i64 a, vb] w fun e w' => e = .returned (.bool (valP s.nodes (qOf bs) (rightP s.nodes a))) ∧ Below w.heap.size w w' := by
  obtain ⟨told, hI, ho, -⟩ := hs
  obtain ⟨pa, cb, rfl, hb1, hb2, hb3⟩ := hbv
  have HR := Lib.hid (right_any b O s told a w hI)
  have HI := Lib.hid hI
  have HO := Lib.hid ho
  have HB := Lib.hid hb3
  obtain ⟨vn, m1, m2, c0, c1, c2, c3, c4, fz, own, hm12, hnb, hm1, hm2, hO, hcp1, hcp2, -⟩ := hI
  have hcap : ((s.cap : Int) == 0) = false := by rw [beq_eq_false_iff_ne]; omega
  clear c1 c2 c3 c4 fz own hm12 hnb hm1 hm2 hO ho hb3
  have HIS : Hid (Is s.nodes (rightP s.nodes a)) := rightP_is _ _
  obtain ⟨r0, hr0⟩ : ∃ r0, r0 = rightP s.nodes a := ⟨_, rfl⟩
  rw [← hr0] at HR HIS ⊢
  clear hr0
  go_enter Try.func90, Try.ntmps90
  go_wp2_with fail
  refine (none_at b _ w hcap c0).mono ?_
  rintro e w1 ⟨rfl, rfl⟩
  go_wp2_with fail
  refine HR.out.mono ?_
  rintro e w1 ⟨rfl, rfl⟩
  clear HR c0
  go_wp2_with fail
  go_loopw [1] (fun x wr => ∃ r : Int, x = .int .i64 r ∧ Hid (Is s.nodes r ∧ valP s.nodes (qOf bs) r = valP s.nodes (qOf bs) r0 ∧ Below w.heap.size w wr)) (fun x _ => (intOf x).toNat)
  case atStart => exact ⟨r0, rfl, HIS.out, rfl, Below.refl _ _⟩
  case round =>
    obtain ⟨r, rfl, HK⟩ := hrel
    obtain ⟨k1, k2, k3⟩ := HK.out
    by_cases h2 : r < 2
    · have HE : Hid (valP s.nodes (qOf bs) r0 = (r == 1)) := by
        show _ = _
        rw [← k2, valP_two h2]
      have HB3 := Lib.hid k3
      have h2' : ¬ (1 < r) := by omega
      clear k1 k2 k3 h2
      go_wp2_with fail
      go_ret
      exact ⟨by rw [HE.out]; rfl, HB3.out⟩
    · obtain ⟨k, rfl⟩ : ∃ k : Nat, r = (k : Int) + 2 := ⟨(r - 2).toNat, by omega⟩
      have hk : k < s.nodes.length := by unfold Is at k1; omega
      obtain ⟨g, cn, t, ht, c1, hcn, hle, n0, n1, n2⟩ := (HI.out.below k3).node k hk
      have e2 : ((k : Int) + 2 - 2).toNat = k := by omega
      have HV : Hid (valP s.nodes (qOf bs) r0 = if qOf bs t.a then valP s.nodes (qOf bs) t.c else valP s.nodes (qOf bs) t.b) := by
        show _ = _
        rw [← k2, valP_node HO.out _ k1 (by omega) (by rw [e2]; exact ht)]
      have HT : Hid ((0 ≤ t.a ∧ t.a < 64) ∧ (0 ≤ t.b ∧ t.b < (k : Int) + 2) ∧ (0 ≤ t.c ∧ t.c < (k : Int) + 2)) := ⟨HO.out.var _ _ ht, HO.out.lo _ _ ht, HO.out.hi _ _ ht⟩
      have HIB : Hid (Is s.nodes t.b ∧ Is s.nodes t.c) := by
        have := HT.out
        exact ⟨by unfold Is; omega, by unfold Is; omega⟩
      have hv0 : 0 ≤ t.a := HT.out.1.1
      have hv1 : t.a < 64 := HT.out.1.2
      have HB3 := Lib.hid k3
      clear ht k1 k2 e2
      by_cases hin : t.a < bs.length
      · obtain ⟨bb, ob, rfl, hbb, hbc⟩ := HB.out (by omega)
        obtain ⟨v, hv⟩ : ∃ v : Nat, t.a = (v : Int) := ⟨t.a.toNat, by omega⟩
        have r1 : wr.cell? ⟨bb, ob + v, none⟩ = some (.bool (qOf bs t.a)) := by
          rw [HB3.out.cell (p := ⟨bb, ob + v, none⟩) hbb, hbc v (by omega), hv]
          rfl
        have hbb2 : bb < wr.heap.size := Nat.lt_of_lt_of_le hbb k3.size
        have r2 : ∀ o, (wr.alloc o).cell? ⟨bb, ob + v, none⟩ = some (.bool (qOf bs t.a)) := fun o => (World.cell?_alloc_lt wr o ⟨bb, ob + v, none⟩ hbb2).trans r1
        have HQ : Hid (qOf bs (v : Int) = qOf bs t.a) := by show _ = _; rw [hv]
        rw [hv] at n0 hin hv0 hv1 r1 r2
        clear hbc hv k3
        cases hq : qOf bs (v : Int)
        all_goals
          rw [hq] at r1 r2
          have HQ2 : Hid (qOf bs t.a = _) := HQ.out.symm.trans hq
          clear hq
          go_wp2_with fail
          go_roundw
          case rel => first | exact ⟨t.c, rfl, HIB.out.2, by rw [HV.out, HQ2.out]; rfl, HB3.out.alloc HB3.out.size _⟩ | exact ⟨t.b, rfl, HIB.out.1, by rw [HV.out, HQ2.out]; rfl, HB3.out.alloc HB3.out.size _⟩
          case measure => have := HT.out; simp [intOf]; omega
      · have HQ2 : Hid (qOf bs t.a = false) := by show _ = _; unfold qOf; rw [List.getD_eq_getElem?_getD, List.getElem?_eq_none (by omega)]; rfl
        clear k3
        go_wp2_with fail
        go_roundw
        case rel => exact ⟨t.b, rfl, HIB.out.1, by rw [HV.out, HQ2.out]; rfl, HB3.out.alloc HB3.out.size _⟩
        case measure => have := HT.out; simp [intOf]; omega

end Go.Proofs.Ytlnkflmnjkmhkaa

/-
  Contract of symbv.Eval where Holds makes memory; at a store that is there.
-/
namespace Go.Proofs.Ytlnkflmnjkmhkaa
open Go.RowKit Go.Maps

set_option maxRecDepth 100000 in
set_option maxHeartbeats 800000 in
theorem eval_bel (s va bits : Value) (xs : List Int) (hold : Nat → Bool) (w : World) (ha : IVec w va xs) (hxl : xs.length ≤ 1000000)
    (hH : ∀ k, k < xs.length → ∀ W, Below w.heap.size w W → Calls Try.prog 90 #[s, .int .i64 (xs.getD k 0), bits] W fun e w' => e = .returned (.bool (hold k)) ∧ Below W.heap.size W w') :
    Calls Try.prog 40 #[s, va, bits] w (RetNum w (evalN hold xs.length)) := by
  obtain ⟨pa, ca, rfl, ha3, ha4, ha5⟩ := ha.shape
  clear ha
  have HA := Lib.hid ha5; clear ha5
  have HH := Lib.hid hH; clear hH
  go_enter Try.func40, Try.ntmps40
  go_wp2_with fail
  go_loopw [11] (fun i wr => ∃ k : Nat, k ≤ xs.length ∧ i = .int .i64 k ∧ Below w.heap.size w wr ∧ w.heap.size < wr.heap.size ∧ wr.frozen? ⟨w.heap.size, 0, none⟩ = false ∧ wr.frozen? ⟨w.heap.size, 1, none⟩ = false ∧
      ∃ u v : Nat, Hid (numV (evalN hold k) = .agg #[.int .u64 (u : Int), .int .u64 (v : Int)]) ∧ wr.cell? ⟨w.heap.size, 0, none⟩ = some (.int .u64 (u : Int)) ∧ wr.cell? ⟨w.heap.size, 1, none⟩ = some (.int .u64 (v : Int)))
    (fun i _ => xs.length - (intOf i).toNat)
  case atStart => exact ⟨0, Nat.zero_le _, rfl, (by repeat (first | exact Below.refl _ _ | assumption | refine Below.drew ?_ | refine Below.alloc ?_ (by first | omega | (simp <;> omega)) _ | refine Below.setCell ?_ (by first | omega | (simp <;> omega)) _ | refine Below.trans ?_ (Below.mono (by assumption) (by first | omega | (simp <;> omega))))), by simp, by simp [go_sem], by simp [go_sem], 0, 0, zero_eq_numV.symm, by simp [go_sem], by simp [go_sem]⟩
  case round =>
    obtain ⟨k, hk, rfl, hnx, hsz, hf0, hf1, u, v, HE, hc0, hc1⟩ := hrel
    by_cases hlt : k < xs.length
    · obtain ⟨ba, oa, rfl, ha2, ha5⟩ := HA.out (by omega)
      have ga := (hnx.cell (p := ⟨ba, oa + k, none⟩) ha2).trans (ha5 k hlt)
      clear ha5
      have HX : Hid (xs.getD k 0 = xs[k]) := by show _ = _; simp [hlt]
      have HC := HH.out k hlt wr hnx
      rw [HX.out] at HC
      by_cases hh : hold k = true
      · have HN : Hid (evalN hold (k + 1) = evalN hold k ||| bitAt k) := by show _ = _; simp [evalN, hh]
        rw [hh] at HC
        clear hh
        obtain ⟨u2, v2, he2, -, -⟩ := numV_parts (evalN hold k ||| bitAt k)
        have HE2 := Lib.hid he2; clear he2
        have HL : Hid (∀ W, Calls Try.prog 91 #[.agg #[.int .u64 (u : Int), .int .u64 (v : Int)], numV (bitAt k)] W fun e w' => e = .returned (.agg #[.int .u64 (u2 : Int), .int .u64 (v2 : Int)]) ∧ Below W.heap.size W w') := by
          show ∀ _, _
          rw [← HE.out, ← HE2.out]
          exact fun W => numOr_any _ _ W (evalN_lt hold k) (bitAt_lt k)
        have HO : Hid (∀ W, Calls Try.prog 92 #[numV 1, .int .i64 (k : Int), .int .i64 128] W (RetNum W (bitAt k))) := fun W => numShl_any 1 k 128 W (by unfold B; omega)
        go_wp2_with fail
        refine HC.mono ?_
        rintro e w0 ⟨rfl, hb0⟩
        obtain ⟨ec0, ef0⟩ := bcell hb0
        have hnx' := hnx.trans (hb0.mono hnx.size)
        have hc0' := (ec0 _ _ hsz).trans hc0
        have hc1' := (ec0 _ _ hsz).trans hc1
        have hf0' := (ef0 _ _ hsz).trans hf0
        have hf1' := (ef0 _ _ hsz).trans hf1
        have hsz' := Nat.lt_of_lt_of_le hsz hb0.size
        clear HC ga hnx hc0 hc1 hf0 hf1 hsz ec0 ef0 hb0
        have hnx := hnx'
        have hc0 := hc0'
        have hc1 := hc1'
        have hf0 := hf0'
        have hf1 := hf1'
        have hsz := hsz'
        clear hnx' hc0' hc1' hf0' hf1' hsz'
        go_wp2_with fail
        go_region_with (first
          | (go_at_call 93; refine (numOf_one _).mono ?_; rintro e w1 ⟨rfl, hb1⟩; obtain ⟨ec1, ef1⟩ := bcell hb1; have hz1 := hb1.size; simp at hz1; have L1 : w.heap.size < w1.heap.size := (by omega); have q10 : w1.cell? ⟨w.heap.size, 0, none⟩ = some (.int .u64 (u : Int)) := (ec1 _ _ hsz).trans hc0; have q11 : w1.cell? ⟨w.heap.size, 1, none⟩ = some (.int .u64 (v : Int)) := (ec1 _ _ hsz).trans hc1; have r10 : w1.frozen? ⟨w.heap.size, 0, none⟩ = false := (ef1 _ _ hsz).trans hf0; have r11 : w1.frozen? ⟨w.heap.size, 1, none⟩ = false := (ef1 _ _ hsz).trans hf1; clear ec1 ef1)
          | (go_at_call 92; refine (HO.out _).mono ?_; rintro e w2 ⟨rfl, hb2⟩; obtain ⟨ec2, ef2⟩ := bcell hb2; have hz2 := hb2.size; have L2 : w.heap.size < w2.heap.size := (by omega); have q20 : w2.cell? ⟨w.heap.size, 0, none⟩ = some (.int .u64 (u : Int)) := (ec2 _ _ L1).trans q10; have q21 : w2.cell? ⟨w.heap.size, 1, none⟩ = some (.int .u64 (v : Int)) := (ec2 _ _ L1).trans q11; have r20 : w2.frozen? ⟨w.heap.size, 0, none⟩ = false := (ef2 _ _ L1).trans r10; have r21 : w2.frozen? ⟨w.heap.size, 1, none⟩ = false := (ef2 _ _ L1).trans r11; clear ec2 ef2)
          | (go_at_call 91; refine (HL.out _).mono ?_; rintro e w3 ⟨rfl, hb3⟩; obtain ⟨ec3, ef3⟩ := bcell hb3; have hz3 := hb3.size; have L3 : w.heap.size < w3.heap.size := (by omega); have q30 : w3.cell? ⟨w.heap.size, 0, none⟩ = some (.int .u64 (u : Int)) := (ec3 _ _ L2).trans q20; have q31 : w3.cell? ⟨w.heap.size, 1, none⟩ = some (.int .u64 (v : Int)) := (ec3 _ _ L2).trans q21; have r30 : w3.frozen? ⟨w.heap.size, 0, none⟩ = false := (ef3 _ _ L2).trans r20; have r31 : w3.frozen? ⟨w.heap.size, 1, none⟩ = false := (ef3 _ _ L2).trans r21; clear ec3 ef3))
        all_goals go_wp2_with fail
        all_goals
          go_roundw
          case rel => exact ⟨k + 1, by omega, by go_num, (by repeat (first | exact Below.refl _ _ | assumption | refine Below.drew ?_ | refine Below.alloc ?_ (by first | omega | (simp <;> omega)) _ | refine Below.setCell ?_ (by first | omega | (simp <;> omega)) _ | refine Below.trans ?_ (Below.mono (by assumption) (by first | omega | (simp <;> omega))))), by simp; omega, by simp [go_sem, r30], by simp [go_sem, r31], u2, v2, by rw [HN.out]; exact HE2, by simp [go_sem, q30, q31], by simp [go_sem, q30, q31]⟩
          case measure => simp [intOf]; omega
      · have hh' : hold k = false := by simpa using hh
        have HN : Hid (evalN hold (k + 1) = evalN hold k) := by show _ = _; simp [evalN, hh']
        rw [hh'] at HC
        clear hh hh'
        go_wp2_with fail
        refine HC.mono ?_
        rintro e w0 ⟨rfl, hb0⟩
        obtain ⟨ec0, ef0⟩ := bcell hb0
        have hnx' := hnx.trans (hb0.mono hnx.size)
        have hc0' := (ec0 _ _ hsz).trans hc0
        have hc1' := (ec0 _ _ hsz).trans hc1
        have hf0' := (ef0 _ _ hsz).trans hf0
        have hf1' := (ef0 _ _ hsz).trans hf1
        have hsz' := Nat.lt_of_lt_of_le hsz hb0.size
        clear HC ga hnx hc0 hc1 hf0 hf1 hsz ec0 ef0 hb0
        have hnx := hnx'
        have hc0 := hc0'
        have hc1 := hc1'
        have hf0 := hf0'
        have hf1 := hf1'
        have hsz := hsz'
        clear hnx' hc0' hc1' hf0' hf1' hsz'
        go_wp2_with fail
        go_roundw
        case rel => exact ⟨k + 1, by omega, by go_num, hnx, hsz, hf0, hf1, u, v, by rw [HN.out]; exact HE, hc0, hc1⟩
        case measure => simp [intOf]; omega
    · obtain rfl : k = xs.length := by omega
      go_wp2_with fail
      exact bodyPost_ret (v := .agg #[.int .u64 (u : Int), .int .u64 (v : Int)]) (by simp [results, Try.results40, go_sem, hc0, hc1]) rfl ⟨by rw [← HE.out], (by repeat (first | exact Below.refl _ _ | assumption | refine Below.drew ?_ | refine Below.alloc ?_ (by first | omega | (simp <;> omega)) _ | refine Below.setCell ?_ (by first | omega | (simp <;> omega)) _ | refine Below.trans ?_ (Below.mono (by assumption) (by first | omega | (simp <;> omega)))))⟩

/-- The number of a vector under bits. -/
def evalV (l : List T3) (q : Int → Bool) (xs : List Int) : Nat := evalN (fun k => valP l q (rightP l (xs.getD k 0))) xs.length

theorem eval_sto (b : Nat) (O : Nat → Prop) (s : BS) (va vb : Value) (xs : List Int) (bs : List Bool) (w : World) (hs : Sto w b O s) (ha : IVec w va xs) (hxl : xs.length ≤ 1000000) (hbv : BVec w vb bs) (hbl : bs.length ≤ 1000000) :
    Calls Try.prog 40 #[.pointer (some ⟨b, 0, none⟩), va, vb] w (RetNum w (evalV s.nodes (qOf bs) xs)) :=
  eval_bel _ va vb xs _ w ha hxl fun k _ W hW => holds_sto b O s (xs.getD k 0) vb bs W (hs.below hW) (hbv.below hW) hbl

end Go.Proofs.Ytlnkflmnjkmhkaa

/-
  The plain law of what is made at a store that is not full: the truth of each diagram, and how many nodes there are.
-/
namespace Go.Proofs.Ytlnkflmnjkmhkaa
open Go.RowKit Go.Maps

/-- A store that is not full, of at most N nodes, of variables below 8. -/
structure GoodS (C N : Nat) (s : BS) : Prop where
  full : s.full = false
  ord : Ord s.nodes
  vars : Vars s.nodes 8
  cap : s.cap = C
  len : s.nodes.length ≤ N

theorem rightP_of_is {l : List T3} {a : Int} (h : Is l a) : rightP l a = a := by
  unfold rightP
  unfold Is at h
  rw [if_pos h]

/-- What a call of Ite comes to. -/
theorem iteF_good {C N : Nat} {s : BS} (h : GoodS C N s) (hN : N + 255 < C) (c a d : Int) : GoodS C (N + 255) (iteF s c a d).1 ∧ Grew s (iteF s c a d).1 ∧ Is (iteF s c a d).1.nodes (iteF s c a d).2 ∧
    ∀ q, valP (iteF s c a d).1.nodes q (iteF s c a d).2 = if valP s.nodes q (rightP s.nodes c) then valP s.nodes q (rightP s.nodes a) else valP s.nodes q (rightP s.nodes d) := by
  have hc := rightP_is s.nodes c
  have ha := rightP_is s.nodes a
  have hd := rightP_is s.nodes d
  obtain ⟨X, hX⟩ := iteP_some 65 s (rightP s.nodes c) (rightP s.nodes a) (rightP s.nodes d) h.ord hc ha hd (by
    have h1 := (topP_le h.ord (rightP s.nodes c)).2
    have h2 := (topP_le h.ord (rightP s.nodes a)).2
    have h3 := (topP_le h.ord (rightP s.nodes d)).2
    simp only [min3]
    omega)
  have e : iteF s c a d = (X.1, X.2.getD 0) := by unfold iteF; rw [if_neg (by rw [h.full]; simp), hX]
  obtain ⟨g, k⟩ := iteP_ok _ _ _ _ _ _ h.ord hc ha hd hX
  obtain ⟨l1, l2, l3⟩ := iteP_len 8 (by omega) 65 s _ _ _ X 0 h.ord h.vars hc ha hd (by
    have h1 := (topP_le h.ord (rightP s.nodes c)).2
    have h2 := (topP_le h.ord (rightP s.nodes a)).2
    have h3 := (topP_le h.ord (rightP s.nodes d)).2
    simp only [min3]
    omega) hX
  have hl := h.len
  have hcap := h.cap
  rw [show 2 ^ (8 - 0) = 256 from rfl] at l2
  obtain ⟨r, hr⟩ : ∃ r, X.2 = some r := by
    cases hx : X.2 with
    | some r => exact ⟨r, rfl⟩
    | none => have := l3 hx; omega
  obtain ⟨k1, k2, k3, k4⟩ := k r hr
  rw [e, hr]
  exact ⟨⟨k1.trans h.full, g.ord, l1, g.cap.trans hcap, by show X.1.nodes.length ≤ _; omega⟩, g, k2, fun q => iteP_val q 65 s _ _ _ X h.ord hc ha hd hX r hr⟩

theorem GoodS.mono {C N M : Nat} {s : BS} (h : GoodS C N s) (hM : N ≤ M) : GoodS C M s := ⟨h.full, h.ord, h.vars, h.cap, Nat.le_trans h.len hM⟩

/-- What a step of two diagrams may be: it makes at most A nodes, and the diagram of op. -/
def StepOk (base : BS) (C A : Nat) (op : (Int → Bool) → Bool → Bool → Bool) (g : BS → Int → Int → BS × Int) : Prop := ∀ (N : Nat) (s : BS) (x y : Int), Grew base s → GoodS C N s → N + A < C → Is s.nodes x → Is s.nodes y →
  GoodS C (N + A) (g s x y).1 ∧ Grew s (g s x y).1 ∧ Is (g s x y).1.nodes (g s x y).2 ∧ ∀ q, valP (g s x y).1.nodes q (g s x y).2 = op q (valP s.nodes q x) (valP s.nodes q y)

theorem is_zero (l : List T3) : Is l 0 := by unfold Is; omega
theorem is_one (l : List T3) : Is l 1 := by unfold Is; omega
theorem val_zero (l : List T3) (q : Int → Bool) : valP l q 0 = false := by rw [valP_two (by omega)]; rfl
theorem val_one (l : List T3) (q : Int → Bool) : valP l q 1 = true := by rw [valP_two (by omega)]; rfl

theorem and_step (base : BS) (C : Nat) : StepOk base C 255 (fun _ x y => x && y) andF := fun N s x y _ h hN hx hy => by
  obtain ⟨h1, h2, h3, h4⟩ := iteF_good h hN x y 0
  refine ⟨h1, h2, h3, fun q => ?_⟩
  unfold andF
  rw [h4 q, rightP_of_is hx, rightP_of_is hy, rightP_of_is (is_zero _), val_zero]
  cases valP s.nodes q x <;> simp
theorem or_step (base : BS) (C : Nat) : StepOk base C 255 (fun _ x y => x || y) orF := fun N s x y _ h hN hx hy => by
  obtain ⟨h1, h2, h3, h4⟩ := iteF_good h hN x 1 y
  refine ⟨h1, h2, h3, fun q => ?_⟩
  unfold orF
  rw [h4 q, rightP_of_is hx, rightP_of_is hy, rightP_of_is (is_one _), val_one]
  cases valP s.nodes q x <;> simp
theorem not_good {C N : Nat} {s : BS} (h : GoodS C N s) (hN : N + 255 < C) (x : Int) (hx : Is s.nodes x) : GoodS C (N + 255) (notF s x).1 ∧ Grew s (notF s x).1 ∧ Is (notF s x).1.nodes (notF s x).2 ∧ ∀ q, valP (notF s x).1.nodes q (notF s x).2 = !valP s.nodes q x := by
  obtain ⟨h1, h2, h3, h4⟩ := iteF_good h hN x 0 1
  refine ⟨h1, h2, h3, fun q => ?_⟩
  unfold notF
  rw [h4 q, rightP_of_is hx, rightP_of_is (is_zero _), rightP_of_is (is_one _), val_zero, val_one]
  cases valP s.nodes q x <;> simp
theorem xor_step (base : BS) (C : Nat) : StepOk base C 510 (fun _ x y => x != y) xorF := fun N s x y _ h hN hx hy => by
  obtain ⟨n1, n2, n3, n4⟩ := not_good h (by omega) y hy
  obtain ⟨h1, h2, h3, h4⟩ := iteF_good n1 (by omega) x (notF s y).2 y
  refine ⟨h1, n2.trans h2, h3, fun q => ?_⟩
  unfold xorF
  rw [h4 q, rightP_of_is (n2.is hx).1, rightP_of_is n3, rightP_of_is (n2.is hy).1, n4 q, n2.val h.ord q hx, n2.val h.ord q hy]
  cases valP s.nodes q x <;> cases valP s.nodes q y <;> rfl

/-- All of a list are diagrams. -/
def AllIs (l : List T3) (xs : List Int) : Prop := ∀ i, Is l (xs.getD i 0)
theorem Grew.all {s s' : BS} (g : Grew s s') {xs : List Int} (h : AllIs s.nodes xs) : AllIs s'.nodes xs := fun i => (g.is (h i)).1

theorem getD_snoc (xs : List Int) (x : Int) (i : Nat) : (xs ++ [x]).getD i 0 = if i < xs.length then xs.getD i 0 else if i = xs.length then x else 0 := by
  rw [List.getD_eq_getElem?_getD, List.getElem?_append]
  split
  · rw [List.getD_eq_getElem?_getD]
  · rename_i h
    split
    · rename_i e; subst e; simp
    · rw [List.getElem?_eq_none (by simp; omega)]; rfl

/-- Element by element. -/
theorem zip_good {C A : Nat} {op : (Int → Bool) → Bool → Bool → Bool} {g : BS → Int → Int → BS × Int} {N : Nat} {s : BS} (hg : StepOk s C A op g) (h : GoodS C N s) {xs ys : List Int} (hx : AllIs s.nodes xs) (hy : AllIs s.nodes ys) :
    ∀ n, N + n * A < C → GoodS C (N + n * A) (zipS g xs ys n s).1 ∧ Grew s (zipS g xs ys n s).1 ∧ AllIs (zipS g xs ys n s).1.nodes (zipS g xs ys n s).2 ∧
      ∀ q i, i < n → valP (zipS g xs ys n s).1.nodes q ((zipS g xs ys n s).2.getD i 0) = op q (valP s.nodes q (xs.getD i 0)) (valP s.nodes q (ys.getD i 0))
  | 0, _ => ⟨h.mono (by omega), Grew.refl h.ord, fun i => by simp [zipS]; exact is_zero _, fun q i hi => by omega⟩
  | n + 1, hN => by
    rw [Nat.add_mul, Nat.one_mul] at hN
    obtain ⟨h1, h2, h3, h4⟩ := zip_good hg h hx hy n (by omega)
    obtain ⟨k1, k2, k3, k4⟩ := hg _ _ (xs.getD n 0) (ys.getD n 0) h2 h1 (by omega) (h2.is (hx n)).1 (h2.is (hy n)).1
    have hl := zipS_len g xs ys n s
    rw [zipS]
    refine ⟨k1.mono (by rw [Nat.add_mul, Nat.one_mul]; omega), h2.trans k2, fun i => ?_, fun q i hi => ?_⟩
    · simp only
      rw [getD_snoc]
      split
      · exact (k2.is (h3 i)).1
      · split
        · exact k3
        · exact is_zero _
    · simp only
      rw [getD_snoc, hl]
      by_cases e : i < n
      · rw [if_pos e, k2.val h1.ord q (h3 i), h4 q i e]
      · obtain rfl : i = n := by omega
        rw [if_neg e, if_pos rfl, k4 q, h2.val h.ord q (hx i), h2.val h.ord q (hy i)]

theorem map_good {C A : Nat} (hA : A = 255) {N : Nat} {s : BS} (h : GoodS C N s) {xs : List Int} (hx : AllIs s.nodes xs) :
    ∀ n, N + n * A < C → GoodS C (N + n * A) (mapS notF xs n s).1 ∧ Grew s (mapS notF xs n s).1 ∧ AllIs (mapS notF xs n s).1.nodes (mapS notF xs n s).2 ∧
      ∀ q i, i < n → valP (mapS notF xs n s).1.nodes q ((mapS notF xs n s).2.getD i 0) = !valP s.nodes q (xs.getD i 0) := by
  intro n
  induction n with
  | zero => exact fun _ => ⟨h.mono (by omega), Grew.refl h.ord, fun i => by simp [mapS]; exact is_zero _, fun q i hi => by omega⟩
  | succ n ih =>
    intro hN
    rw [Nat.add_mul, Nat.one_mul] at hN
    obtain ⟨h1, h2, h3, h4⟩ := ih (by omega)
    obtain ⟨k1, k2, k3, k4⟩ := not_good h1 (by rw [← hA]; omega) (xs.getD n 0) (h2.is (hx n)).1
    have hl := mapS_len notF xs n s
    rw [mapS]
    rw [← hA] at k1
    refine ⟨k1.mono (by rw [Nat.add_mul, Nat.one_mul]; omega), h2.trans k2, fun i => ?_, fun q i hi => ?_⟩
    · simp only
      rw [getD_snoc]
      split
      · exact (k2.is (h3 i)).1
      · split
        · exact k3
        · exact is_zero _
    · simp only
      rw [getD_snoc, hl]
      by_cases e : i < n
      · rw [if_pos e, k2.val h1.ord q (h3 i), h4 q i e]
      · obtain rfl : i = n := by omega
        rw [if_neg e, if_pos rfl, k4 q, h2.val h.ord q (hx i)]

/-- Variables that are made. -/
theorem varF_good {C N : Nat} {s : BS} (h : GoodS C N s) (hN : N + 1 < C) (v : Int) (hv0 : 0 ≤ v) (hv1 : v < 8) : GoodS C (N + 1) (varF s v).1 ∧ Grew s (varF s v).1 ∧ Is (varF s v).1.nodes (varF s v).2 ∧ ∀ q, valP (varF s v).1.nodes q (varF s v).2 = q v := by
  have e : varF s v = ((node1 s ⟨v, 0, 1⟩).1, (node1 s ⟨v, 0, 1⟩).2.getD 0) := by
    unfold varF
    rw [if_neg (by rw [h.full]; simp; omega)]
  have t0 : topP s.nodes 0 = 64 := by unfold topP; simp
  have t1 : topP s.nodes 1 = 64 := by unfold topP; simp
  obtain ⟨g1, g2, g3, g4⟩ := node1_ok (t := ⟨v, 0, 1⟩) h.ord ⟨hv0, by show v < 64; omega⟩ (is_zero _) (is_one _) (by show v < topP s.nodes 0; omega) (by show v < topP s.nodes 1; omega)
  obtain ⟨l1, l2⟩ := node1_len s ⟨v, 0, 1⟩
  have hl := h.len
  have hcap := h.cap
  obtain ⟨r, hr⟩ : ∃ r, (node1 s ⟨v, 0, 1⟩).2 = some r := by
    cases hx : (node1 s ⟨v, 0, 1⟩).2 with
    | some r => exact ⟨r, rfl⟩
    | none => have := (l2 hx).1; omega
  obtain ⟨k1, k2, k3, k4⟩ := g4 r hr
  have nv := fun q => node1_val (s := s) (t := ⟨v, 0, 1⟩) h.ord ⟨hv0, by show v < 64; omega⟩ (is_zero _) (is_one _) (by show v < topP s.nodes 0; omega) (by show v < topP s.nodes 1; omega) q hr
  rw [e, hr]
  refine ⟨⟨k3.trans h.full, g2, node1_vars h.vars hv1, g3.trans hcap, by show (node1 s ⟨v, 0, 1⟩).1.nodes.length ≤ _; omega⟩, ⟨g1, g2, g3⟩, k1, fun q => ?_⟩
  show valP (node1 s ⟨v, 0, 1⟩).1.nodes q r = q v
  rw [nv q, val_zero, val_one]
  cases q v <;> rfl

theorem vars_good {C N : Nat} {s : BS} (h : GoodS C N s) (first : Nat) : ∀ n, first + n ≤ 8 → N + n < C → GoodS C (N + n) (varsS first n s).1 ∧ Grew s (varsS first n s).1 ∧ AllIs (varsS first n s).1.nodes (varsS first n s).2 ∧
    ∀ q i, i < n → valP (varsS first n s).1.nodes q ((varsS first n s).2.getD i 0) = q ((first + i : Nat) : Int)
  | 0, _, _ => ⟨h, Grew.refl h.ord, fun i => by simp [varsS]; exact is_zero _, fun q i hi => by omega⟩
  | n + 1, h8, hN => by
    obtain ⟨h1, h2, h3, h4⟩ := vars_good h first n (by omega) (by omega)
    have ew : wrap64 ((first : Int) + (n : Int)) = ((first + n : Nat) : Int) := by unfold wrap64; omega
    obtain ⟨k1, k2, k3, k4⟩ := varF_good h1 (by omega) ((first + n : Nat) : Int) (by omega) (by omega)
    have hl := varsS_len (first : Int) n s
    rw [varsS, ew]
    refine ⟨k1, h2.trans k2, fun i => ?_, fun q i hi => ?_⟩
    · simp only
      rw [getD_snoc]
      split
      · exact (k2.is (h3 i)).1
      · split
        · exact k3
        · exact is_zero _
    · simp only
      rw [getD_snoc, hl]
      by_cases e : i < n
      · rw [if_pos e, k2.val h1.ord q (h3 i), h4 q i e]
      · obtain rfl : i = n := by omega
        rw [if_neg e, if_pos rfl, k4 q]

/-- The bits of a vector's number. -/
theorem bitAt_eq (k : Nat) (hk : k < 128) : bitAt k = 2 ^ k := by
  unfold bitAt
  have e1 : sh (k : Int) = k := by unfold sh; omega
  have e2 : sh 128 = 128 := by unfold sh; omega
  have h : 2 ^ k < 2 ^ 128 := Nat.pow_lt_pow_right (by omega) hk
  rw [e1, e2, Nat.one_mul, show B * B = 2 ^ 128 from by rw [B_pow, ← Nat.pow_add], Nat.mod_eq_of_lt h, Nat.mod_eq_of_lt h]
theorem evalN_bit (hold : Nat → Bool) : ∀ n, n ≤ 128 → ∀ i, (evalN hold n).testBit i = (decide (i < n) && hold i)
  | 0, _, i => by simp [evalN]
  | n + 1, hn, i => by
    have ih := evalN_bit hold n (by omega) i
    rw [evalN]
    by_cases hh : hold n = true
    · rw [if_pos hh, Nat.testBit_or, ih, bitAt_eq n (by omega), Nat.testBit_two_pow]
      by_cases e : n = i
      · subst e; simp [hh]
      · have e1 : decide (i < n + 1) = decide (i < n) := by simp; omega
        simp [e, e1]
    · rw [if_neg hh, ih]
      by_cases e : n = i
      · subst e; simp [hh]
      · have e1 : decide (i < n + 1) = decide (i < n) := by simp; omega
        rw [e1]
theorem evalV_bit {l : List T3} {xs : List Int} (q : Int → Bool) (h : AllIs l xs) (hn : xs.length ≤ 128) (i : Nat) : (evalV l q xs).testBit i = (decide (i < xs.length) && valP l q (xs.getD i 0)) := by
  unfold evalV
  rw [evalN_bit _ _ hn, rightP_of_is (h i)]

end Go.Proofs.Ytlnkflmnjkmhkaa
