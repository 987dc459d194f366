/-
  Lemmas, joined: Val, Zip, VecNil, Ite, Ite2.
-/
import Derived.Test.YtlnkflmnjkmhkaaJM03
import Derived.Test.YtlnkflmnjkmhkaaJM01
/-
  The plain law of a diagram's truth under bits, and of Ite's.
-/
namespace Go.Proofs.Ytlnkflmnjkmhkaa
open Go.RowKit Go.Maps

/-- Is a diagram true under bits? -/
def valF (l : List T3) (q : Int → Bool) : Nat → Int → Bool
  | 0, _ => false
  | f + 1, a => if a < 2 then a == 1 else match l[(a - 2).toNat]? with
    | none => false
    | some t => if q t.a then valF l q f t.c else valF l q f t.b
def valP (l : List T3) (q : Int → Bool) (a : Int) : Bool := valF l q (a.toNat + 1) a

theorem valF_fuel {l : List T3} (h : Ord l) (q : Int → Bool) : ∀ (f g : Nat) (a : Int), Is l a → a.toNat < f → a.toNat < g → valF l q f a = valF l q g a := by
  intro f
  induction f with
  | zero => intro g a _ h0; omega
  | succ f ih =>
    intro g a ha hf hg
    obtain ⟨g, rfl⟩ : ∃ g', g = g' + 1 := ⟨g - 1, by omega⟩
    rw [valF, valF]
    split
    · rfl
    · rename_i h2
      have h3 := is_ix ha (by omega)
      rw [List.getElem?_eq_getElem h3]
      simp only
      have hb := h.lo _ _ (List.getElem?_eq_getElem h3)
      have hc := h.hi _ _ (List.getElem?_eq_getElem h3)
      have ha' := ha
      unfold Is at ha'
      have ib : Is l (l[(a - 2).toNat]).b := by unfold Is; omega
      have ic : Is l (l[(a - 2).toNat]).c := by unfold Is; omega
      rw [ih g _ ib (by omega) (by omega), ih g _ ic (by omega) (by omega)]

theorem valP_two {l : List T3} {q : Int → Bool} {a : Int} (h : a < 2) : valP l q a = (a == 1) := by
  unfold valP
  rw [valF, if_pos h]

theorem valP_node {l : List T3} (h : Ord l) (q : Int → Bool) {a : Int} (ha : Is l a) (h2 : 2 ≤ a) {t : T3} (ht : l[(a - 2).toNat]? = some t) : valP l q a = if q t.a then valP l q t.c else valP l q t.b := by
  have hb := h.lo _ _ ht
  have hc := h.hi _ _ ht
  have h3 := is_ix ha h2
  have ha' := ha
  unfold Is at ha'
  unfold valP
  rw [valF, if_neg (by omega), ht]
  simp only
  have ib : Is l t.b := by unfold Is; omega
  have ic : Is l t.c := by unfold Is; omega
  rw [valF_fuel h q _ (t.c.toNat + 1) _ ic (by omega) (by omega), valF_fuel h q _ (t.b.toNat + 1) _ ib (by omega) (by omega)]

theorem valF_mono {l m : List T3} (h : Ord l) (q : Int → Bool) : ∀ (f : Nat) (a : Int), Is l a → valF (l ++ m) q f a = valF l q f a := by
  intro f
  induction f with
  | zero => intro a _; rfl
  | succ f ih =>
    intro a ha
    rw [valF, valF]
    split
    · rfl
    · rename_i h2
      have h3 := is_ix ha (by omega)
      rw [List.getElem?_append_left h3, List.getElem?_eq_getElem h3]
      simp only
      have hb := h.lo _ _ (List.getElem?_eq_getElem h3)
      have hc := h.hi _ _ (List.getElem?_eq_getElem h3)
      have ha' := ha
      unfold Is at ha'
      have ib : Is l (l[(a - 2).toNat]).b := by unfold Is; omega
      have ic : Is l (l[(a - 2).toNat]).c := by unfold Is; omega
      rw [ih _ ib, ih _ ic]
theorem valP_mono {l m : List T3} (h : Ord l) (q : Int → Bool) {a : Int} (ha : Is l a) : valP (l ++ m) q a = valP l q a := valF_mono h q _ _ ha

theorem Grew.val {s s' : BS} (g : Grew s s') (h : Ord s.nodes) (q : Int → Bool) {a : Int} (ha : Is s.nodes a) : valP s'.nodes q a = valP s.nodes q a := by
  obtain ⟨m, hm⟩ := g.nodes
  rw [hm]
  exact valP_mono h q ha

/-- A diagram's truth out of its parts'. -/
theorem val_split {l : List T3} (h : Ord l) (q : Int → Bool) {a v : Int} (ha : Is l a) (hv : v < 64) (hle : v ≤ topP l a) : valP l q a = if q v then valP l q (hiP l a v) else valP l q (loP l a v) := by
  unfold loP hiP
  by_cases e : topP l a = v
  · rw [if_pos e, if_pos e]
    by_cases h2 : a < 2
    · simp [topP, h2] at e; omega
    · have h3 := is_ix ha (by omega)
      have ht : l[(a - 2).toNat]? = some l[(a - 2).toNat] := List.getElem?_eq_getElem h3
      rw [valP_node h q ha (by omega) ht, ht]
      have : topP l a = (l[(a - 2).toNat]).a := by unfold topP; rw [if_neg h2, ht]
      rw [← this, e]
  · rw [if_neg e, if_neg e]
    split <;> rfl

theorem node1_val {s : BS} {t : T3} (h : Ord s.nodes) (hv : 0 ≤ t.a ∧ t.a < 64) (hlo : Is s.nodes t.b) (hhi : Is s.nodes t.c) (hl : t.a < topP s.nodes t.b) (hh : t.a < topP s.nodes t.c) (q : Int → Bool) {r : Int} (hr : (node1 s t).2 = some r) :
    valP (node1 s t).1.nodes q r = if q t.a then valP s.nodes q t.c else valP s.nodes q t.b := by
  obtain ⟨⟨m, hm⟩, hord, -, hk⟩ := node1_ok h hv hlo hhi hl hh
  obtain ⟨his, -, -, hby⟩ := hk r hr
  have mb : valP (node1 s t).1.nodes q t.b = valP s.nodes q t.b := by rw [hm]; exact valP_mono h q hlo
  have mc : valP (node1 s t).1.nodes q t.c = valP s.nodes q t.c := by rw [hm]; exact valP_mono h q hhi
  split at hby
  · rename_i e
    cases hby
    rw [mb]
    split
    · rw [e]
    · rfl
  · obtain ⟨k, rfl, hk⟩ := byOf_some hby
    have ht : (node1 s t).1.nodes[((k : Int) + 2 - 2).toNat]? = some t := by rw [show ((k : Int) + 2 - 2).toNat = k from by omega]; exact hk
    rw [valP_node hord q his (by omega) ht, mb, mc]

/-- The truth of what Ite makes. -/
theorem iteP_val (q : Int → Bool) : ∀ (f : Nat) (s : BS) (c a b : Int) (X : BS × Option Int), Ord s.nodes → Is s.nodes c → Is s.nodes a → Is s.nodes b → iteP f s c a b = some X →
    ∀ r, X.2 = some r → valP X.1.nodes q r = if valP s.nodes q c then valP s.nodes q a else valP s.nodes q b := by
  intro f
  induction f with
  | zero => intro s c a b X _ _ _ _ h; simp [iteP] at h
  | succ f ih =>
    intro s c a b X h hc ha hb hX
    have hX0 := hX
    rw [iteP] at hX
    split at hX
    · rename_i h1
      cases hX
      intro r hr
      cases hr
      rcases h1 with rfl | rfl
      · rw [valP_two (a := 1) (by omega)]; rfl
      · split <;> rfl
    rename_i h1
    split at hX
    · rename_i h2
      cases hX
      intro r hr
      cases hr
      subst h2
      rw [valP_two (a := 0) (by omega)]; rfl
    rename_i h2
    split at hX
    · rename_i h3
      cases hX
      intro r hr
      cases hr
      obtain ⟨rfl, rfl⟩ := h3
      rw [valP_two (a := 1) (by omega), valP_two (a := 0) (by omega)]
      show _ = if valP s.nodes q c = true then true else false
      cases valP s.nodes q c <;> rfl
    rename_i h3
    obtain ⟨q1, q2, q3, q4, q5⟩ := min3_lt h hc h1 h2
    have lc := loP_is h hc q1 q2
    have la := loP_is h ha q1 q3
    have lb := loP_is h hb q1 q4
    have hc' := hiP_is h hc q1 q2
    have ha' := hiP_is h ha q1 q3
    have hb' := hiP_is h hb q1 q4
    have sc := val_split h q hc q1 q2
    have sa := val_split h q ha q1 q3
    have sb := val_split h q hb q1 q4
    generalize hv : min3 s.nodes c a b = v at *
    split at hX
    · cases hX
    · cases hX; intro r hr; cases hr
    rename_i s1 lo e1
    obtain ⟨g1, k1⟩ := iteP_ok f s _ _ _ _ h lc.1 la.1 lb.1 e1
    obtain ⟨-, k12, k13, -⟩ := k1 lo rfl
    have v1 := ih s _ _ _ _ h lc.1 la.1 lb.1 e1 lo rfl
    simp only at k12 k13 g1 v1
    split at hX
    · cases hX
    · cases hX; intro r hr; cases hr
    rename_i s2 hi e2
    obtain ⟨g2, k2⟩ := iteP_ok f s1 _ _ _ _ g1.ord (g1.is hc'.1).1 (g1.is ha'.1).1 (g1.is hb'.1).1 e2
    obtain ⟨-, k22, k23, -⟩ := k2 hi rfl
    have v2 := ih s1 _ _ _ _ g1.ord (g1.is hc'.1).1 (g1.is ha'.1).1 (g1.is hb'.1).1 e2 hi rfl
    simp only at k22 k23 g2 v2
    have tlo : v < topP s1.nodes lo := by
      have e : v < min3 s.nodes (loP s.nodes c v) (loP s.nodes a v) (loP s.nodes b v) := by simp only [min3]; omega
      omega
    have thi : v < topP s2.nodes hi := by
      have e : v < min3 s1.nodes (hiP s.nodes c v) (hiP s.nodes a v) (hiP s.nodes b v) := by
        simp only [min3]
        rw [(g1.is hc'.1).2, (g1.is ha'.1).2, (g1.is hb'.1).2]
        omega
      omega
    cases hX
    intro r hr
    have nv := node1_val (s := s2) (t := ⟨v, lo, hi⟩) g2.ord ⟨q5, q1⟩ (g2.is k12).1 k22 (by rw [(g2.is k12).2]; exact tlo) thi q hr
    rw [nv]
    simp only
    rw [g2.val g1.ord q k12, v1, v2, g1.val h q hc'.1, g1.val h q ha'.1, g1.val h q hb'.1, sc, sa, sb]
    cases q v <;> simp

/-- The variables of all nodes are below V. -/
def Vars (l : List T3) (V : Int) : Prop := ∀ t ∈ l, t.a < V

theorem node1_len (s : BS) (t : T3) : (node1 s t).1.nodes.length ≤ s.nodes.length + 1 ∧ ((node1 s t).2 = none → s.nodes.length = s.cap ∧ (node1 s t).1.nodes = s.nodes) := by
  unfold node1
  split
  · exact ⟨by simp, fun h => by cases h⟩
  · split
    · exact ⟨by simp, fun h => by cases h⟩
    · split
      · rename_i h; exact ⟨by simp, fun _ => ⟨h, rfl⟩⟩
      · exact ⟨by simp, fun h => by cases h⟩
theorem node1_vars {s : BS} {t : T3} {V : Int} (h : Vars s.nodes V) (ht : t.a < V) : Vars (node1 s t).1.nodes V := by
  unfold node1
  split
  · exact h
  · split
    · exact h
    · split
      · exact h
      · intro u hu
        rcases List.mem_append.1 hu with h1 | h1
        · exact h u h1
        · simp at h1; subst h1; exact ht

/-- How many nodes Ite makes at most, where the variables from v on up to V alone are met. -/
theorem iteP_len (V : Nat) (hV : V ≤ 64) : ∀ (f : Nat) (s : BS) (c a b : Int) (X : BS × Option Int) (v : Nat), Ord s.nodes → Vars s.nodes V → Is s.nodes c → Is s.nodes a → Is s.nodes b → (v : Int) ≤ min3 s.nodes c a b → iteP f s c a b = some X →
    Vars X.1.nodes V ∧ X.1.nodes.length + 1 ≤ s.nodes.length + 2 ^ (V - v) ∧ (X.2 = none → X.1.nodes.length = s.cap) := by
  intro f
  induction f with
  | zero => intro s c a b X v _ _ _ _ _ _ h; simp [iteP] at h
  | succ f ih =>
    intro s c a b X v h hvs hc ha hb hvm hX
    have hp := Nat.two_pow_pos (V - v)
    rw [iteP] at hX
    split at hX
    · cases hX; exact ⟨hvs, by show s.nodes.length + 1 ≤ _; omega, fun h => by cases h⟩
    rename_i h1
    split at hX
    · cases hX; exact ⟨hvs, by show s.nodes.length + 1 ≤ _; omega, fun h => by cases h⟩
    rename_i h2
    split at hX
    · cases hX; exact ⟨hvs, by show s.nodes.length + 1 ≤ _; omega, fun h => by cases h⟩
    rename_i h3
    obtain ⟨q1, q2, q3, q4, q5⟩ := min3_lt h hc h1 h2
    -- the least variable is one of a node
    have hmV : min3 s.nodes c a b < V := by
      have hc2 : 2 ≤ c := by unfold Is at hc; omega
      have h3 := is_ix hc hc2
      have h6 : topP s.nodes c = (s.nodes[(c - 2).toNat]).a := by unfold topP; rw [if_neg (by omega), List.getElem?_eq_getElem h3]
      have := hvs _ (List.getElem_mem h3)
      omega
    have lc := loP_is h hc q1 q2
    have la := loP_is h ha q1 q3
    have lb := loP_is h hb q1 q4
    have hc' := hiP_is h hc q1 q2
    have ha' := hiP_is h ha q1 q3
    have hb' := hiP_is h hb q1 q4
    generalize hv : min3 s.nodes c a b = m at *
    have hpow : 2 ^ (V - v) = 2 ^ (V - (v + 1)) + 2 ^ (V - (v + 1)) := by
      rw [show V - v = V - (v + 1) + 1 by omega, Nat.pow_succ]
      omega
    split at hX
    · cases hX
    · rename_i s1 e1
      cases hX
      obtain ⟨w1, w2, w3⟩ := ih s _ _ _ _ (v + 1) h hvs lc.1 la.1 lb.1 (by simp only [min3]; omega) e1
      simp only at w1 w2 w3
      exact ⟨w1, by simp only; omega, fun _ => w3 trivial⟩
    rename_i s1 lo e1
    obtain ⟨w1, w2, -⟩ := ih s _ _ _ _ (v + 1) h hvs lc.1 la.1 lb.1 (by simp only [min3]; omega) e1
    obtain ⟨g1, -⟩ := iteP_ok f s _ _ _ _ h lc.1 la.1 lb.1 e1
    simp only at w1 w2 g1
    have hm1 : ((v + 1 : Nat) : Int) ≤ min3 s1.nodes (hiP s.nodes c m) (hiP s.nodes a m) (hiP s.nodes b m) := by
      simp only [min3]
      rw [(g1.is hc'.1).2, (g1.is ha'.1).2, (g1.is hb'.1).2]
      omega
    split at hX
    · cases hX
    · rename_i s2 e2
      cases hX
      obtain ⟨x1, x2, x3⟩ := ih s1 _ _ _ _ (v + 1) g1.ord w1 (g1.is hc'.1).1 (g1.is ha'.1).1 (g1.is hb'.1).1 hm1 e2
      simp only at x1 x2 x3
      exact ⟨x1, by simp only; omega, fun h => by rw [← g1.cap]; exact x3 trivial⟩
    rename_i s2 hi e2
    obtain ⟨x1, x2, -⟩ := ih s1 _ _ _ _ (v + 1) g1.ord w1 (g1.is hc'.1).1 (g1.is ha'.1).1 (g1.is hb'.1).1 hm1 e2
    obtain ⟨g2, -⟩ := iteP_ok f s1 _ _ _ _ g1.ord (g1.is hc'.1).1 (g1.is ha'.1).1 (g1.is hb'.1).1 e2
    simp only at x1 x2 g2
    cases hX
    obtain ⟨n1, n2⟩ := node1_len s2 ⟨m, lo, hi⟩
    refine ⟨node1_vars x1 hmV, by omega, fun hn => ?_⟩
    obtain ⟨n3, n4⟩ := n2 hn
    rw [n4, n3, g2.cap, g1.cap]

end Go.Proofs.Ytlnkflmnjkmhkaa

/-
  Contract of symbv.zip at two lists of integers, for any function value that hands back an integer and changes nothing that was.
-/
namespace Go.Proofs.Ytlnkflmnjkmhkaa
open Go.RowKit

theorem Try.infoInt : (Try.prog.info? 3).map (fun i => (i.zero, i.size, i.bytes)) = some (some (.int .i64 0), 1, 8) := by kernel_rfl

def zipL (g : Int → Int → Int) (xs ys : List Int) (n : Nat) : List Int := (List.range n).map fun i => g (xs.getD i 0) (ys.getD i 0)
theorem zipL_succ (g : Int → Int → Int) (xs ys : List Int) (n : Nat) : zipL g xs ys (n + 1) = zipL g xs ys n ++ [g (xs.getD n 0) (ys.getD n 0)] := by simp [zipL, List.range_succ]
theorem zipL_len (g : Int → Int → Int) (xs ys : List Int) (n : Nat) : (zipL g xs ys n).length = n := by simp [zipL]

set_option maxRecDepth 100000 in
set_option maxHeartbeats 1000000 in
theorem zip_any (f : Nat) (fst cp : Array Value) (g : Int → Int → Int) (va vb : Value) (xs ys : List Int) (w : World) (ha : IVec w va xs) (hb : IVec w vb ys)
    (hxl : xs.length ≤ 1000000) (hyl : ys.length ≤ 1000000)
    (hf : ∀ (x y : Int) W, Below w.heap.size w W → Calls Try.prog f (fst ++ (#[.int .i64 x, .int .i64 y] ++ cp)) W (RetInt W (g x y)))
    (hcall : ∀ (av : Array Value) (W : World), (callFunc f av).run Try.prog W = .ok (.enter f av) W) :
    Calls Try.prog 81 #[va, vb, .func (.func f) fst cp] w (RetVec w (zipL g xs ys (max xs.length ys.length))) := by
  obtain ⟨i0, hi, hz0, hz1, hz2⟩ := info_parts Try.infoInt
  obtain ⟨M, hM⟩ : ∃ M, M = max xs.length ys.length := ⟨_, rfl⟩
  have hMx : xs.length ≤ M := by omega
  have hMy : ys.length ≤ M := by omega
  have hMm : M ≤ 1000000 := by omega
  have hMo : M ≤ xs.length ∨ M ≤ ys.length := by omega
  rw [← hM]
  clear hM
  have HF := Lib.hid hf; clear hf
  obtain ⟨pa, ca, rfl, ha3, ha4, ha5⟩ := ha.shape
  obtain ⟨pb, cb, rfl, hb3, hb4, hb5⟩ := hb.shape
  clear ha hb
  have HA := Lib.hid ha5; clear ha5
  have HB := Lib.hid hb5; clear hb5
  go_enter Try.func81, Try.ntmps81
  go_wp2_with (first
    | (at_make; refine wpList_make_own _ rfl _ _ 33 rfl w.heap.size 3 i0 (.int .i64 0) 1 Try.underlying33 hi hz0 hz1 .i64 .i64 _ M rfl rfl (by omega) (by rw [hz2]; omega) (by unfold maxLen; omega) (Nat.le_refl _) ?_; intro w0 hown0 hgrow0))
  all_goals
    go_loopw [7, 19] (fun v i wr => ∃ k : Nat, k ≤ M ∧ i = .int .i64 k ∧ v = .slice (some ⟨w.heap.size, 0, none⟩) k M ∧ wr.ownsRow w.heap.size 3 1 v k ((zipL g xs ys k).map (Value.int .i64)) ∧ Below w.heap.size w wr)
      (fun _ i _ => M - (intOf i).toNat)
    case atStart => exact ⟨0, Nat.zero_le _, rfl, rfl, hown0, (Below.refl _ _).grown hgrow0 (Nat.le_refl _) (fun k h => by cases h)⟩
    case round =>
      obtain ⟨k, hk, rfl, rfl, hown, hnx⟩ := hrel
      have hsize := hnx.size
      by_cases hlt : k < M
      · by_cases hka : k < xs.length
        · by_cases hkb : k < ys.length
          · try (exfalso; omega)
            all_goals
              obtain ⟨ba, oa, rfl, ha2, ha5⟩ := HA.out (by omega)
              have ga := (hnx.cell (p := ⟨ba, oa + k, none⟩) ha2).trans (ha5 k hka)
              obtain ⟨bb, ob, rfl, hb2, hb5⟩ := HB.out (by omega)
              have gb := (hnx.cell (p := ⟨bb, ob + k, none⟩) hb2).trans (hb5 k hkb)
              have ez : Hid ((zipL g xs ys k).map (Value.int .i64) ++ [Value.int .i64 (g (xs[k]) (ys[k]))] = (zipL g xs ys (k + 1)).map (Value.int .i64)) := by show _ = _; rw [zipL_succ]; simp [hka, hkb]
              clear ha5 hb5
              go_wp2_with fail
              refine (HF.out _ _ _ hnx).mono ?_
              rintro e w1 ⟨rfl, hb1⟩
              go_wp2_with (at_builtin; refine wpList_append_fits _ rfl (.tmp 38) (.tmp 43) 33 rfl w.heap.size 3 i0 1 Try.underlying33 hi hz1 w.heap.size k M _ rfl ((own_below hown hb1).alloc _) ⟨w1.heap.size, 0, none⟩ 1 1 [.int .i64 _] rfl rfl (cell_one_new _ _ _) (ints_oneCell .i64 [_]) (by omega) ?_; intro w2 hown2 hgrow2)
              go_roundw
              case rel => exact ⟨k + 1, by omega, by go_num, rfl, ez.out ▸ hown2, (((hnx.trans (hb1.mono hsize)).alloc (by have := hb1.size; omega) _).grown hgrow2 (by have := hb1.size; simp; omega) (fun j hj => by cases hj; exact Nat.le_refl _))⟩
              case measure => simp [intOf]; omega
          · try (exfalso; omega)
            all_goals
              obtain ⟨ba, oa, rfl, ha2, ha5⟩ := HA.out (by omega)
              have ga := (hnx.cell (p := ⟨ba, oa + k, none⟩) ha2).trans (ha5 k hka)
              have eb : ys[k]?.getD 0 = 0 := by simp [List.getElem?_eq_none (Nat.le_of_not_lt hkb)]
              have ez : Hid ((zipL g xs ys k).map (Value.int .i64) ++ [Value.int .i64 (g (xs[k]) (0))] = (zipL g xs ys (k + 1)).map (Value.int .i64)) := by show _ = _; rw [zipL_succ]; simp [hka, eb]
              clear ha5 eb
              go_wp2_with fail
              refine (HF.out _ _ _ hnx).mono ?_
              rintro e w1 ⟨rfl, hb1⟩
              go_wp2_with (at_builtin; refine wpList_append_fits _ rfl (.tmp 38) (.tmp 43) 33 rfl w.heap.size 3 i0 1 Try.underlying33 hi hz1 w.heap.size k M _ rfl ((own_below hown hb1).alloc _) ⟨w1.heap.size, 0, none⟩ 1 1 [.int .i64 _] rfl rfl (cell_one_new _ _ _) (ints_oneCell .i64 [_]) (by omega) ?_; intro w2 hown2 hgrow2)
              go_roundw
              case rel => exact ⟨k + 1, by omega, by go_num, rfl, ez.out ▸ hown2, (((hnx.trans (hb1.mono hsize)).alloc (by have := hb1.size; omega) _).grown hgrow2 (by have := hb1.size; simp; omega) (fun j hj => by cases hj; exact Nat.le_refl _))⟩
              case measure => simp [intOf]; omega
        · by_cases hkb : k < ys.length
          · try (exfalso; omega)
            all_goals
              have ea : xs[k]?.getD 0 = 0 := by simp [List.getElem?_eq_none (Nat.le_of_not_lt hka)]
              obtain ⟨bb, ob, rfl, hb2, hb5⟩ := HB.out (by omega)
              have gb := (hnx.cell (p := ⟨bb, ob + k, none⟩) hb2).trans (hb5 k hkb)
              have ez : Hid ((zipL g xs ys k).map (Value.int .i64) ++ [Value.int .i64 (g (0) (ys[k]))] = (zipL g xs ys (k + 1)).map (Value.int .i64)) := by show _ = _; rw [zipL_succ]; simp [hkb, ea]
              clear ea hb5
              go_wp2_with fail
              refine (HF.out _ _ _ hnx).mono ?_
              rintro e w1 ⟨rfl, hb1⟩
              go_wp2_with (at_builtin; refine wpList_append_fits _ rfl (.tmp 38) (.tmp 43) 33 rfl w.heap.size 3 i0 1 Try.underlying33 hi hz1 w.heap.size k M _ rfl ((own_below hown hb1).alloc _) ⟨w1.heap.size, 0, none⟩ 1 1 [.int .i64 _] rfl rfl (cell_one_new _ _ _) (ints_oneCell .i64 [_]) (by omega) ?_; intro w2 hown2 hgrow2)
              go_roundw
              case rel => exact ⟨k + 1, by omega, by go_num, rfl, ez.out ▸ hown2, (((hnx.trans (hb1.mono hsize)).alloc (by have := hb1.size; omega) _).grown hgrow2 (by have := hb1.size; simp; omega) (fun j hj => by cases hj; exact Nat.le_refl _))⟩
              case measure => simp [intOf]; omega
          · exfalso; omega
      · obtain rfl : k = M := by omega
        go_wp2_with fail
        go_ret
        exact ⟨_, rfl, IVec.of_owns (zipL_len _ _ _ _) hown, hnx⟩

end Go.Proofs.Ytlnkflmnjkmhkaa

/-
  Contracts of package symbv at a store that is not there: each vector holds 0 alone.
-/
namespace Go.Proofs.Ytlnkflmnjkmhkaa
open Go.RowKit

theorem zipL_zero (xs ys : List Int) (n : Nat) : zipL (fun _ _ => 0) xs ys n = List.replicate n 0 := by
  unfold zipL; rw [List.map_const']; simp

theorem call_and (av : Array Value) (W : World) : (callFunc 82 av).run Try.prog W = .ok (.enter 82 av) W := by kernel_rfl
theorem call_or (av : Array Value) (W : World) : (callFunc 83 av).run Try.prog W = .ok (.enter 83 av) W := by kernel_rfl
theorem call_xor (av : Array Value) (W : World) : (callFunc 84 av).run Try.prog W = .ok (.enter 84 av) W := by kernel_rfl
theorem call_mux1 (av : Array Value) (W : World) : (callFunc 86 av).run Try.prog W = .ok (.enter 86 av) W := by kernel_rfl

set_option maxRecDepth 100000 in
set_option maxHeartbeats 400000 in
theorem symbvAnd_nil (va vb : Value) (xs ys : List Int) (w : World) (ha : IVec w va xs) (hb : IVec w vb ys) (hxl : xs.length ≤ 1000000) (hyl : ys.length ≤ 1000000) :
    Calls Try.prog 20 #[.pointer none, va, vb] w (RetVec w (List.replicate (max xs.length ys.length) 0)) := by
  rw [← zipL_zero xs ys]
  go_enter Try.func20, Try.ntmps20
  go_wp2_with fail
  refine (zip_any 82 #[.pointer none] #[] (fun _ _ => 0) va vb xs ys _ ha hb hxl hyl (fun x y W _ => and_nil x y W) call_and).mono ?_
  rintro e w1 ⟨v, rfl, hv, hb1⟩
  go_wp2_with fail
  go_ret
  exact ⟨_, rfl, hv, hb1⟩

set_option maxRecDepth 100000 in
set_option maxHeartbeats 400000 in
theorem symbvOr_nil (va vb : Value) (xs ys : List Int) (w : World) (ha : IVec w va xs) (hb : IVec w vb ys) (hxl : xs.length ≤ 1000000) (hyl : ys.length ≤ 1000000) :
    Calls Try.prog 21 #[.pointer none, va, vb] w (RetVec w (List.replicate (max xs.length ys.length) 0)) := by
  rw [← zipL_zero xs ys]
  go_enter Try.func21, Try.ntmps21
  go_wp2_with fail
  refine (zip_any 83 #[.pointer none] #[] (fun _ _ => 0) va vb xs ys _ ha hb hxl hyl (fun x y W _ => or_nil x y W) call_or).mono ?_
  rintro e w1 ⟨v, rfl, hv, hb1⟩
  go_wp2_with fail
  go_ret
  exact ⟨_, rfl, hv, hb1⟩

set_option maxRecDepth 100000 in
set_option maxHeartbeats 400000 in
theorem symbvXor_nil (va vb : Value) (xs ys : List Int) (w : World) (ha : IVec w va xs) (hb : IVec w vb ys) (hxl : xs.length ≤ 1000000) (hyl : ys.length ≤ 1000000) :
    Calls Try.prog 22 #[.pointer none, va, vb] w (RetVec w (List.replicate (max xs.length ys.length) 0)) := by
  rw [← zipL_zero xs ys]
  go_enter Try.func22, Try.ntmps22
  go_wp2_with fail
  refine (zip_any 84 #[.pointer none] #[] (fun _ _ => 0) va vb xs ys _ ha hb hxl hyl (fun x y W _ => xor_nil x y W) call_xor).mono ?_
  rintro e w1 ⟨v, rfl, hv, hb1⟩
  go_wp2_with fail
  go_ret
  exact ⟨_, rfl, hv, hb1⟩

set_option maxRecDepth 100000 in
set_option maxHeartbeats 400000 in
theorem mux1_nil (x y c : Int) (p q : Addr) (W : World) (hp : W.cell? p = some (.pointer none)) (hq : W.cell? q = some (.int .i64 c)) :
    Calls Try.prog 86 #[.int .i64 x, .int .i64 y, .pointer (some p), .pointer (some q)] W (RetInt W 0) := by
  go_enter Try.func86, Try.ntmps86
  go_wp2_with (go_at_call 87; refine (ite_nil _ _ _ _).mono ?_; rintro e w1 ⟨rfl, hb⟩)
  go_ret
  exact ⟨rfl, hb⟩

set_option maxRecDepth 100000 in
set_option maxHeartbeats 400000 in
theorem symbvMux_nil (c : Int) (va vb : Value) (xs ys : List Int) (w : World) (ha : IVec w va xs) (hb : IVec w vb ys) (hxl : xs.length ≤ 1000000) (hyl : ys.length ≤ 1000000) :
    Calls Try.prog 24 #[.pointer none, .int .i64 c, va, vb] w (RetVec w (List.replicate (max xs.length ys.length) 0)) := by
  rw [← zipL_zero xs ys]
  go_enter Try.func24, Try.ntmps24
  go_wp2_with fail
  have hB : Below w.heap.size w ((w.alloc (.cells #[.pointer none] 23)).alloc (.cells #[.int .i64 c] 3)) := (by repeat (first | exact Below.refl _ _ | assumption | refine Below.drew ?_ | refine Below.alloc ?_ (by first | omega | (simp <;> omega)) _ | refine Below.setCell ?_ (by first | omega | (simp <;> omega)) _ | refine Below.trans ?_ (Below.mono (by assumption) (by first | omega | (simp <;> omega)))))
  have hF : ∀ (x y : Int) W, Below ((w.alloc (.cells #[.pointer none] 23)).alloc (.cells #[.int .i64 c] 3)).heap.size ((w.alloc (.cells #[.pointer none] 23)).alloc (.cells #[.int .i64 c] 3)) W →
      Calls Try.prog 86 (#[] ++ (#[.int .i64 x, .int .i64 y] ++ #[.pointer (some ⟨w.heap.size, 0, none⟩), .pointer (some ⟨w.heap.size + 1, 0, none⟩)])) W (RetInt W 0) := by
    intro x y W hW
    refine mux1_nil x y c _ _ W ?_ ?_
    · rw [hW.cell (by simp <;> omega)]; simp [go_sem]
    · rw [hW.cell (by simp <;> omega)]; simp [go_sem]
  refine (zip_any 86 #[] #[.pointer (some ⟨w.heap.size, 0, none⟩), .pointer (some ⟨w.heap.size + 1, 0, none⟩)] (fun _ _ => 0) va vb xs ys _ (ha.below hB) (hb.below hB) hxl hyl hF call_mux1).mono ?_
  rintro e w1 ⟨v, rfl, hv, hb1⟩
  go_wp2_with fail
  go_ret
  exact ⟨_, rfl, hv, hB.trans (hb1.mono hB.size)⟩

theorem zeroRow {w : World} {base e g n : Nat} (hn : n ≤ maxLen) (h : w.ownsRow base e 1 (.slice (some ⟨g, 0, none⟩) n n) n (List.replicate n (Value.int .i64 0))) (k : Nat) (hk : k < n) :
    w.cell? ⟨g, k, none⟩ = some (.int .i64 0) ∧ w.frozen? ⟨g, k, none⟩ = false ∧ (w.setCell ⟨g, k, none⟩ (.int .i64 0)).ownsRow base e 1 (.slice (some ⟨g, 0, none⟩) n n) n (List.replicate n (Value.int .i64 0)) := by
  refine ⟨?_, h.frozenAt k, ?_⟩
  · rw [h.cellAt k (by omega)]; simp [hk]
  · have h1 := h.stored k (.int .i64 0)
    simpa using h1.1

theorem toList_madeCells_zero (n : Nat) : (madeCells (Value.int .i64 0).cells (n * 1)).toList = List.replicate n (Value.int .i64 0) := by
  rw [Nat.mul_one]; exact toList_madeCells_one _ n

theorem IVec.of_zero {w : World} {base e : Nat} {v : Value} {n : Nat} (h : w.ownsRow base e 1 v n (List.replicate n (Value.int .i64 0))) : IVec w v (List.replicate n 0) :=
  IVec.of_owns (n := n) (by simp) (by simpa using h)

set_option maxRecDepth 100000 in
set_option maxHeartbeats 400000 in
/-- 'Not' at a store that is not there. -/
theorem symbvNot_nil (va : Value) (xs : List Int) (w : World) (ha : IVec w va xs) (hxl : xs.length ≤ 1000000) :
    Calls Try.prog 23 #[.pointer none, va] w (RetVec w (List.replicate xs.length 0)) := by
  obtain ⟨i0, hi, hz0, hz1, hz2⟩ := info_parts Try.infoInt
  obtain ⟨pa, ca, rfl, ha3, ha4, ha5⟩ := ha.shape
  clear ha
  have HA := Lib.hid ha5; clear ha5
  go_enter Try.func23, Try.ntmps23
  go_wp2_with (first
    | (at_make; refine wpList_make_full _ rfl _ _ 34 rfl w.heap.size 3 i0 (.int .i64 0) 1 Try.underlying34 hi hz0 hz1 .i64 .i64 _ _ xs.length rfl rfl rfl rfl (by rw [hz2]; omega) (by unfold maxLen; omega) (Nat.le_refl _) ?_; intro w0 hown0 hgrow0))
  rw [toList_madeCells_zero] at hown0
  go_loopw [13] (fun i wr => ∃ k : Nat, k ≤ xs.length ∧ i = .int .i64 k ∧ wr.ownsRow w.heap.size 3 1 (.slice (some ⟨w.heap.size, 0, none⟩) xs.length xs.length) xs.length (List.replicate xs.length (Value.int .i64 0)) ∧ Below w.heap.size w wr)
    (fun i _ => xs.length - (intOf i).toNat)
  case atStart => exact ⟨0, Nat.zero_le _, rfl, hown0, (Below.refl _ _).grown hgrow0 (Nat.le_refl _) (fun k h => by cases h)⟩
  case round =>
    obtain ⟨k, hk, rfl, hown, hnx⟩ := hrel
    have hsize := hnx.size
    by_cases hlt : k < xs.length
    · obtain ⟨ba, oa, rfl, ha2, ha5⟩ := HA.out (by omega)
      have ga := (hnx.cell (p := ⟨ba, oa + k, none⟩) ha2).trans (ha5 k hlt)
      clear ha5
      go_wp2_with fail
      refine (not_nil _ _).mono ?_
      rintro e w1 ⟨rfl, hb1⟩
      obtain ⟨z1, z2, z3⟩ := zeroRow (by unfold maxLen; omega) (own_below hown hb1) k hlt
      have Z := Lib.hid z3; clear z3
      go_wp2_with fail
      go_roundw
      case rel => exact ⟨k + 1, by omega, by go_num, Z.out, (hnx.trans (hb1.mono hsize)).setCell (Nat.le_refl _) _⟩
      case measure => simp [intOf]; omega
    · obtain rfl : k = xs.length := by omega
      go_wp2_with fail
      go_ret
      exact ⟨_, rfl, IVec.of_zero hown, hnx⟩

set_option maxRecDepth 100000 in
set_option maxHeartbeats 400000 in
/-- 'Vars' at a store that is not there. -/
theorem symbvVars_nil (first n : Int) (w : World) (h0 : -9223372036854775808 ≤ n) (h1 : n ≤ 9223372036854775807) :
    Calls Try.prog 18 #[.pointer none, .int .i64 first, .int .i64 n] w (RetVec w (List.replicate (max 0 (min n 64)).toNat 0)) := by
  obtain ⟨i0, hi, hz0, hz1, hz2⟩ := info_parts Try.infoInt
  obtain ⟨M, hM⟩ : ∃ M, M = (max 0 (min n 64)).toNat := ⟨_, rfl⟩
  have hM1 : M ≤ 64 := by omega
  have HM : Hid ((n ≤ 0 → M = 0) ∧ (0 ≤ n → n ≤ 64 → (M : Int) = n) ∧ (64 ≤ n → M = 64)) := ⟨by omega, by omega, by omega⟩
  rw [← hM]
  clear hM
  go_enter Try.func18, Try.ntmps18
  go_wp2_with (first
    | (at_make; refine wpList_make_full _ rfl _ _ 34 rfl w.heap.size 3 i0 (.int .i64 0) 1 Try.underlying34 hi hz0 hz1 .i64 .i64 _ _ M rfl rfl (by have := HM.out; omega) (by have := HM.out; omega) (by rw [hz2]; omega) (by unfold maxLen; omega) (Nat.le_refl _) ?_; intro w0 hown0 hgrow0))
  all_goals rw [toList_madeCells_zero] at hown0
  all_goals
    go_loopw [15] (fun i wr => ∃ k : Nat, k ≤ M ∧ i = .int .i64 k ∧ wr.ownsRow w.heap.size 3 1 (.slice (some ⟨w.heap.size, 0, none⟩) M M) M (List.replicate M (Value.int .i64 0)) ∧ Below w.heap.size w wr)
      (fun i _ => M - (intOf i).toNat)
    case atStart => exact ⟨0, Nat.zero_le _, rfl, hown0, (Below.refl _ _).grown hgrow0 (Nat.le_refl _) (fun k h => by cases h)⟩
    case round =>
      obtain ⟨k, hk, rfl, hown, hnx⟩ := hrel
      have hsize := hnx.size
      by_cases hlt : k < M
      · go_wp2_with fail
        refine (var_nil _ _).mono ?_
        rintro e w1 ⟨rfl, hb1⟩
        obtain ⟨z1, z2, z3⟩ := zeroRow (by unfold maxLen; omega) (own_below hown hb1) (M - 1 - k) (by omega)
        have Z := Lib.hid z3; clear z3
        go_wp2_with fail
        go_roundw
        case rel => exact ⟨k + 1, by omega, by go_num, Z.out, (hnx.trans (hb1.mono hsize)).setCell (Nat.le_refl _) _⟩
        case measure => simp [intOf]; omega
      · obtain rfl : k = M := by omega
        go_wp2_with fail
        go_ret
        exact ⟨_, rfl, IVec.of_zero hown, hnx⟩

end Go.Proofs.Ytlnkflmnjkmhkaa

/-
  Contracts of the store's small methods at a store that is there: top, split, right.
-/
namespace Go.Proofs.Ytlnkflmnjkmhkaa
open Go.RowKit Go.Maps

/-- The cells of a node. -/
theorem IsBdd.node {w : World} {b : Nat} {O : Nat → Prop} {s : BS} {told : T3 → Option Int} (h : IsBdd w b O s told) (k : Nat) (hk : k < s.nodes.length) :
    ∃ g cn t, s.nodes[k]? = some t ∧ w.cell? ⟨b, 1, none⟩ = some (.slice (some ⟨g, 0, none⟩) s.nodes.length cn) ∧ s.nodes.length ≤ cn ∧ s.nodes.length ≤ 1048576 ∧
      w.cell? ⟨g, k * 3, none⟩ = some (.int .i64 t.a) ∧ w.cell? ⟨g, k * 3 + 1, none⟩ = some (.int .i64 t.b) ∧ w.cell? ⟨g, k * 3 + 2, none⟩ = some (.int .i64 t.c) := by
  obtain ⟨vn, m1, m2, c0, c1, c2, c3, c4, fz, own, hm12, hnb, hm1, hm2, hO, hcp1, hcp2, hcp3, -⟩ := h
  have own' := own
  obtain ⟨-, ⟨h1, h2⟩ | ⟨g, cap, cur, h1, h2, h3, h4, h5, h6, h7⟩⟩ := own
  · exfalso
    omega
  · subst h1
    have hc := own'.cells (g := g) rfl
    obtain ⟨f1, f2, f3⟩ := flat3_at s.nodes k hk
    refine ⟨g, cap, s.nodes[k], List.getElem?_eq_getElem hk, c1, by omega, by omega, ?_, ?_, ?_⟩
    · have := hc _ _ f1; rw [show (⟨g, 0, none⟩ : Addr).add (k * 3) = ⟨g, k * 3, none⟩ from by unfold Addr.add; simp; omega] at this; exact this
    · have := hc _ _ f2; simpa [Addr.add] using this
    · have := hc _ _ f3; simpa [Addr.add] using this

set_option maxRecDepth 100000 in
set_option maxHeartbeats 400000 in
theorem top_any (b : Nat) (O : Nat → Prop) (s : BS) (told : T3 → Option Int) (a : Int) (w : World) (hs : IsBdd w b O s told) (ha : Is s.nodes a) :
    Calls Try.prog 151 #[.pointer (some ⟨b, 0, none⟩), .int .i64 a] w fun e w' => e = .returned (.int .i64 (topP s.nodes a)) ∧ w = w' := by
  by_cases h2 : a < 2
  · have HE : Hid (topP s.nodes a = 64) := by show _ = _; unfold topP; rw [if_pos h2]
    clear hs ha
    go_enter Try.func151, Try.ntmps151
    go_wp2
    go_ret
    exact ⟨by rw [HE.out]; rfl, rfl⟩
  · obtain ⟨k, rfl⟩ : ∃ k : Nat, a = (k : Int) + 2 := ⟨(a - 2).toNat, by omega⟩
    have hk : k < s.nodes.length := by unfold Is at ha; omega
    obtain ⟨g, cn, t, ht, c1, hcn, hle, n0, n1, n2⟩ := hs.node k hk
    have HE : Hid (topP s.nodes ((k : Int) + 2) = t.a) := by
      show _ = _
      unfold topP
      rw [if_neg h2, show ((k : Int) + 2 - 2).toNat = k from by omega, ht]
    clear hs ha ht n1 n2
    go_enter Try.func151, Try.ntmps151
    go_wp2
    go_ret
    exact ⟨by rw [HE.out]; rfl, rfl⟩

/-- A diagram; what is none is 0. -/
def rightP (l : List T3) (a : Int) : Int := if 0 ≤ a ∧ a < l.length + 2 then a else 0
theorem rightP_is (l : List T3) (a : Int) : Is l (rightP l a) := by unfold rightP Is; split <;> omega

set_option maxRecDepth 100000 in
set_option maxHeartbeats 400000 in
theorem right_any (b : Nat) (O : Nat → Prop) (s : BS) (told : T3 → Option Int) (a : Int) (w : World) (hs : IsBdd w b O s told) :
    Calls Try.prog 138 #[.pointer (some ⟨b, 0, none⟩), .int .i64 a] w fun e w' => e = .returned (.int .i64 (rightP s.nodes a)) ∧ w = w' := by
  obtain ⟨vn, m1, m2, c0, c1, c2, c3, c4, fz, own, hm12, hnb, hm1, hm2, hO, hcp1, hcp2, hcp3, -⟩ := hs
  obtain ⟨pn, cn, rfl, hln⟩ := own_shape own
  clear c0 c2 c3 c4 fz own hm12 hnb hm1 hm2 hO
  have hl : s.nodes.length ≤ 1048576 := by omega
  clear hcp1 hcp2 hcp3 hln
  by_cases h0 : a < 0
  · have HE : Hid (rightP s.nodes a = 0) := by show _ = _; unfold rightP; rw [if_neg (by omega)]
    go_enter Try.func138, Try.ntmps138
    go_wp2
    go_ret
    exact ⟨by rw [HE.out]; rfl, rfl⟩
  · have h0' : 0 ≤ a := by omega
    by_cases h1 : a < s.nodes.length + 2
    · have HE : Hid (rightP s.nodes a = a) := by show _ = _; unfold rightP; rw [if_pos (by omega)]
      go_enter Try.func138, Try.ntmps138
      go_wp2
      go_ret
      exact ⟨by rw [HE.out]; rfl, rfl⟩
    · have HE : Hid (rightP s.nodes a = 0) := by show _ = _; unfold rightP; rw [if_neg (by omega)]
      go_enter Try.func138, Try.ntmps138
      go_wp2
      go_ret
      exact ⟨by rw [HE.out]; rfl, rfl⟩

set_option maxRecDepth 100000 in
set_option maxHeartbeats 800000 in
theorem split_any (b : Nat) (O : Nat → Prop) (s : BS) (told : T3 → Option Int) (a v : Int) (w : World) (hs : IsBdd w b O s told) (ha : Is s.nodes a) (hv : v < 64) :
    Calls Try.prog 152 #[.pointer (some ⟨b, 0, none⟩), .int .i64 a, .int .i64 v] w fun e w' => e = .returned (.tuple #[.int .i64 (loP s.nodes a v), .int .i64 (hiP s.nodes a v)]) ∧ Below w.heap.size w w' := by
  have HT := Lib.hid (top_any b O s told a w hs ha)
  by_cases h1 : topP s.nodes a = v
  · have h2 : 2 ≤ a := by
      by_cases h : a < 2
      · unfold topP at h1; rw [if_pos h] at h1; omega
      · omega
    obtain ⟨k, rfl⟩ : ∃ k : Nat, a = (k : Int) + 2 := ⟨(a - 2).toNat, by omega⟩
    have hk : k < s.nodes.length := by unfold Is at ha; omega
    obtain ⟨g, cn, t, ht, c1, hcn, hle, n0, n1, n2⟩ := hs.node k hk
    have e2 : ((k : Int) + 2 - 2).toNat = k := by omega
    have HE : Hid (loP s.nodes ((k : Int) + 2) v = t.b ∧ hiP s.nodes ((k : Int) + 2) v = t.c) := by
      show _ ∧ _
      unfold loP hiP
      rw [if_pos h1, if_pos h1, e2, ht]
      exact ⟨rfl, rfl⟩
    have hb : (topP s.nodes ((k : Int) + 2) != v) = false := by simp [h1]
    have hi0 : (0 : Int) ≤ (k : Int) + 2 - 2 := by omega
    have hi1 : (k : Int) + 2 - 2 < s.nodes.length := by omega
    have hw0 : IntKind.i64.wrap ((k : Int) + 2 - 2) = (k : Int) := by rw [IntWalk.i64_in _ (by omega)]; omega
    clear hs ha ht n0 h1 e2 hi0 hi1
    generalize topP s.nodes ((k : Int) + 2) = tp at *
    go_enter Try.func152, Try.ntmps152
    go_wp2_with fail
    refine HT.out.mono ?_
    rintro e w1 ⟨rfl, rfl⟩
    go_wp2_with fail
    go_quiet (fail)
    go_wp2_with fail
    go_ret2
    exact ⟨by rw [HE.out.1, HE.out.2]; rfl, below_drewN (Below.refl _ _) _⟩
  · have HE : Hid (loP s.nodes a v = a ∧ hiP s.nodes a v = a) := by
      show _ ∧ _
      unfold loP hiP
      rw [if_neg h1, if_neg h1]
      exact ⟨rfl, rfl⟩
    have hb : (topP s.nodes a != v) = true := by simpa using h1
    clear hs ha h1
    generalize topP s.nodes a = tp at *
    go_enter Try.func152, Try.ntmps152
    go_wp2_with fail
    refine HT.out.mono ?_
    rintro e w1 ⟨rfl, rfl⟩
    go_wp2_with fail
    go_ret2
    exact ⟨by rw [HE.out.1, HE.out.2]; rfl, Below.refl _ _⟩

end Go.Proofs.Ytlnkflmnjkmhkaa

/-
  The contract of (*Store).ite, by its plain law; of Ite, Not, And, Or, Xor at a store that is there and not full.
-/
namespace Go.Proofs.Ytlnkflmnjkmhkaa
open Go.RowKit Go.Maps

/-- What Ite told is what it would tell anew. -/
def ToldOk (l : List T3) (t : T3 → Option Int) : Prop := ∀ k r, t k = some r → Is l k.a ∧ Is l k.b ∧ Is l k.c ∧ lookP 65 l k.a k.b k.c = some r

theorem ToldOk.mono {l m : List T3} {t : T3 → Option Int} (h : ToldOk l t) (ho : Ord l) : ToldOk (l ++ m) t := fun k r hk => by
  obtain ⟨h1, h2, h3, h4⟩ := h k r hk
  exact ⟨h1.mono, h2.mono, h3.mono, lookP_mono ho _ _ _ _ _ h1 h2 h3 h4⟩

/-- How a call ends that makes a diagram, or gives up, and may have told more. -/
def GivesT (b : Nat) (O : Nat → Prop) (w : World) (r : BS × Option Int) (e : Ending) (w' : World) : Prop :=
  (∃ i, r.2 = some i ∧ e = .returned (.int .i64 i) ∧ Made b O w (fun s' t' => s' = r.1 ∧ ToldOk s'.nodes t') w') ∨
  (r.2 = none ∧ e = .panicked [{ v := overV, recovered := false }] ∧ Made b O w (fun s' t' => s' = r.1 ∧ ToldOk s'.nodes t') w')

theorem is_wf {l : List T3} {a : Int} (h : Is l a) (hl : l.length ≤ 1048576) : (Lit.int .i64 a).wf = true := WalkArith.wf_i64 (n := a) (by unfold Is at h; omega)
theorem IsBdd.len {w : World} {b : Nat} {O : Nat → Prop} {s : BS} {told : T3 → Option Int} (h : IsBdd w b O s told) : s.nodes.length ≤ 1048576 := by
  obtain ⟨vn, m1, m2, c0, c1, c2, c3, c4, fz, own, hm12, hnb, hm1, hm2, hO, hcp1, hcp2, hcp3, -⟩ := h
  omega

set_option maxRecDepth 100000 in
set_option maxHeartbeats 800000 in
theorem ite_plain (b : Nat) (c a d r : Int) (w : World) (h : ((c = 1 ∨ a = d) ∧ r = a) ∨ (¬ (c = 1 ∨ a = d) ∧ c = 0 ∧ r = d) ∨ (¬ (c = 1 ∨ a = d) ∧ ¬ c = 0 ∧ (a = 1 ∧ d = 0) ∧ r = c)) :
    Calls Try.prog 137 #[.pointer (some ⟨b, 0, none⟩), .int .i64 c, .int .i64 a, .int .i64 d] w (RetInt w r) := by
  rcases h with ⟨h, rfl⟩ | ⟨h1, rfl, rfl⟩ | ⟨h1, h2, ⟨rfl, rfl⟩, rfl⟩
  · by_cases hc : c = 1
    · subst hc
      clear h
      go_enter Try.func137, Try.ntmps137
      go_wp2
      go_ret
      exact ⟨rfl, Below.refl _ _⟩
    · obtain rfl : r = d := by omega
      have q1 : (c == 1) = false := by simpa using hc
      clear h
      go_enter Try.func137, Try.ntmps137
      go_wp2
      go_ret
      exact ⟨rfl, Below.refl _ _⟩
  · have q2 : (a == r) = false := by rw [beq_eq_false_iff_ne]; omega
    clear h1
    go_enter Try.func137, Try.ntmps137
    go_wp2
    go_ret
    exact ⟨rfl, Below.refl _ _⟩
  · have q1 : (r == 1) = false := by rw [beq_eq_false_iff_ne]; omega
    have q0 : (r == 0) = false := by rw [beq_eq_false_iff_ne]; omega
    clear h1 h2
    go_enter Try.func137, Try.ntmps137
    go_wp2
    go_ret
    exact ⟨rfl, Below.refl _ _⟩

end Go.Proofs.Ytlnkflmnjkmhkaa
