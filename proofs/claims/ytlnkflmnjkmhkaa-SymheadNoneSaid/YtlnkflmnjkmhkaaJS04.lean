/-
  Lemmas, joined: Ite2, Ite3, Ite4, Ite5, Live, Reg.
-/
import Derived.Test.YtlnkflmnjkmhkaaJS03
import Derived.Test.YtlnkflmnjkmhkaaJS01
/-
  The contract of (*Store).ite, by its plain law; of Ite, Not, And, Or, Xor at a store that is there and not full.
-/
namespace Go.Proofs.Ytlnkflmnjkmhkaa
open Go.RowKit Go.Maps

/-- What Ite told is what it would tell anew. -/
def ToldOk (l : List T3) (t : T3 → Option Int) : Prop := ∀ k r, t k = some r → Is l k.a ∧ Is l k.b ∧ Is l k.c ∧ lookP 65 l k.a k.b k.c = some r

theorem ToldOk.mono {l m : List T3} {t : T3 → Option Int} (h : ToldOk l t) (ho : Ord l) : ToldOk (l ++ m) t := fun k r hk => by
  obtain ⟨h1, h2, h3, h4⟩ := h k r hk
  exact ⟨h1.mono, h2.mono, h3.mono, lookP_mono ho _ _ _ _ _ h1 h2 h3 h4⟩

/-- How a call ends that makes a diagram, or gives up, and may have told more. -/
def GivesT (b : Nat) (O : Nat → Prop) (w : World) (r : BS × Option Int) (e : Ending) (w' : World) : Prop :=
  (∃ i, r.2 = some i ∧ e = .returned (.int .i64 i) ∧ Made b O w (fun s' t' => s' = r.1 ∧ ToldOk s'.nodes t') w') ∨
  (r.2 = none ∧ e = .panicked [{ v := overV, recovered := false }] ∧ Made b O w (fun s' t' => s' = r.1 ∧ ToldOk s'.nodes t') w')

theorem is_wf {l : List T3} {a : Int} (h : Is l a) (hl : l.length ≤ 1048576) : (Lit.int .i64 a).wf = true := WalkArith.wf_i64 (n := a) (by unfold Is at h; omega)
theorem IsBdd.len {w : World} {b : Nat} {O : Nat → Prop} {s : BS} {told : T3 → Option Int} (h : IsBdd w b O s told) : s.nodes.length ≤ 1048576 := by
  obtain ⟨vn, m1, m2, c0, c1, c2, c3, c4, fz, own, hm12, hnb, hm1, hm2, hO, hcp1, hcp2, hcp3, -⟩ := h
  omega

set_option maxRecDepth 100000 in
set_option maxHeartbeats 800000 in
theorem ite_plain (b : Nat) (c a d r : Int) (w : World) (h : ((c = 1 ∨ a = d) ∧ r = a) ∨ (¬ (c = 1 ∨ a = d) ∧ c = 0 ∧ r = d) ∨ (¬ (c = 1 ∨ a = d) ∧ ¬ c = 0 ∧ (a = 1 ∧ d = 0) ∧ r = c)) :
    Calls Try.prog 137 #[.pointer (some ⟨b, 0, none⟩), .int .i64 c, .int .i64 a, .int .i64 d] w (RetInt w r) := by
  rcases h with ⟨h, rfl⟩ | ⟨h1, rfl, rfl⟩ | ⟨h1, h2, ⟨rfl, rfl⟩, rfl⟩
  · by_cases hc : c = 1
    · subst hc
      clear h
      go_enter Try.func137, Try.ntmps137
      go_wp2
      go_ret
      exact ⟨rfl, Below.refl _ _⟩
    · obtain rfl : r = d := by omega
      have q1 : (c == 1) = false := by simpa using hc
      clear h
      go_enter Try.func137, Try.ntmps137
      go_wp2
      go_ret
      exact ⟨rfl, Below.refl _ _⟩
  · have q2 : (a == r) = false := by rw [beq_eq_false_iff_ne]; omega
    clear h1
    go_enter Try.func137, Try.ntmps137
    go_wp2
    go_ret
    exact ⟨rfl, Below.refl _ _⟩
  · have q1 : (r == 1) = false := by rw [beq_eq_false_iff_ne]; omega
    have q0 : (r == 0) = false := by rw [beq_eq_false_iff_ne]; omega
    clear h1 h2
    go_enter Try.func137, Try.ntmps137
    go_wp2
    go_ret
    exact ⟨rfl, Below.refl _ _⟩

end Go.Proofs.Ytlnkflmnjkmhkaa

/-
  The contract of (*Store).ite in all.
-/
namespace Go.Proofs.Ytlnkflmnjkmhkaa
open Go.RowKit Go.Maps

theorem lookP_fuel {l : List T3} : ∀ (f g : Nat) (c a b r : Int), f ≤ g → lookP f l c a b = some r → lookP g l c a b = some r := by
  intro f
  induction f with
  | zero => intro g c a b r _ h; simp [lookP] at h
  | succ f ih =>
    intro g c a b r hg hr
    obtain ⟨g, rfl⟩ : ∃ g', g = g' + 1 := ⟨g - 1, by omega⟩
    rw [lookP] at hr ⊢
    split at hr
    · rename_i h1; rw [if_pos h1]; exact hr
    rename_i h1
    rw [if_neg h1]
    split at hr
    · rename_i h2; rw [if_pos h2]; exact hr
    rename_i h2
    rw [if_neg h2]
    split at hr
    · rename_i h3; rw [if_pos h3]; exact hr
    rename_i h3
    rw [if_neg h3]
    split at hr
    · cases hr
    rename_i lo hlo
    rw [ih g _ _ _ _ (by omega) hlo]
    simp only
    split at hr
    · cases hr
    rename_i hi hhi
    rw [ih g _ _ _ _ (by omega) hhi]
    exact hr

theorem lookP_det {l : List T3} {f g : Nat} {c a b r r' : Int} (h : lookP f l c a b = some r) (h' : lookP g l c a b = some r') : r = r' := by
  have h1 := lookP_fuel f (max f g) c a b r (by omega) h
  have h2 := lookP_fuel g (max f g) c a b r' (by omega) h'
  rw [h1] at h2
  exact Option.some.inj h2

theorem IsBdd.told {w : World} {b : Nat} {O : Nat → Prop} {s : BS} {told : T3 → Option Int} (h : IsBdd w b O s told) : ∃ m2, w.cell? ⟨b, 3, none⟩ = some (.map (some m2)) ∧ IMap w m2 told ∧
    ∀ (w' : World) (told' : T3 → Option Int), IMap w' m2 told' → w.grownBy w' (some m2) → IsBdd w' b O s told' ∧ Keeps O w w' := by
  have hlt := h.lt
  obtain ⟨v, m1, m2, c0, c1, c2, c3, c4, f, own, hne, hnb, hm1, hm2, hO, rest⟩ := h
  refine ⟨m2, c3, hm2, fun w' told' hm hg => ?_⟩
  have hb2 : b ≠ m2 := fun e => by
    obtain ⟨es, clock, h1, -⟩ := hm2
    rw [← e] at h1
    simp [World.cell?, h1] at c0
  have hbl := hlt b ((hO b).2 (.inl rfl))
  have hbb : w'.heap[b]? = w.heap[b]? := hg.block b hbl (fun e => hb2 (Option.some.inj e))
  have hm1b : w'.heap[m1]? = w.heap[m1]? := hg.block m1 hm1.lt (fun e => hne (Option.some.inj e))
  have e : ∀ j, w'.cell? ⟨b, j, none⟩ = w.cell? ⟨b, j, none⟩ := fun j => World.cell?_of_block hbb
  have hrow := row_not_map own hm2
  refine ⟨⟨v, m1, m2, (e 0).trans c0, (e 1).trans c1, (e 2).trans c2, (e 3).trans c3, (e 4).trans c4, fun j => (World.frozen?_of_block (a := ⟨b, j, none⟩) hbb).trans (f j), ?_, hne, hnb, hm1.kept hm1b, hm, hO, rest⟩,
    ⟨hg.os, hg.tape, hg.output, hg.size, fun k hk hOk => hg.block k hk (fun e => hOk ((hO k).2 (.inr (.inr (.inl (Option.some.inj e))))))⟩⟩
  have hlt1 := own.lt
  obtain ⟨hl, hh⟩ := own
  refine ⟨hl, ?_⟩
  rcases hh with hh | ⟨g, cap, cur, hh1, hh0, hh2, hh3⟩
  · exact .inl hh
  · have hgo : v.ownBlock = some g := by rw [hh1]; rfl
    refine .inr ⟨g, cap, cur, hh1, hh0, ?_, hh3⟩
    rw [hg.block g (hlt1 g hgo).2 (fun e => hrow (by rw [hgo, Option.some.inj e]))]
    exact hh2

theorem Made.pre {b : Nat} {O O' : Nat → Prop} {w w1 w' : World} {Φ : BS → (T3 → Option Int) → Prop} (h : Made b O' w1 Φ w') (he : Ext O O' w w1) : Made b O w Φ w' := by
  obtain ⟨O'', s', t', h1, h2, h3⟩ := h
  exact ⟨O'', s', t', h1, he.trans h2, h3⟩

/-- What is known of Ite at a fuel. -/
def IteAt (f : Nat) : Prop := ∀ (b : Nat) (O : Nat → Prop) (s : BS) (told : T3 → Option Int) (c a d : Int) (X : BS × Option Int) (w : World), IsBdd w b O s told → Ord s.nodes → ToldOk s.nodes told → Is s.nodes c → Is s.nodes a → Is s.nodes d →
    iteP f s c a d = some X → Calls Try.prog 137 #[.pointer (some ⟨b, 0, none⟩), .int .i64 c, .int .i64 a, .int .i64 d] w (GivesT b O w X)

theorem lookEq (w : World) (m2 : Nat) (told : T3 → Option Int) (c a d : Int) (h : IMap w m2 told) (hw : (⟨c, a, d⟩ : T3).wf) :
    (Instr.lookup 106 (.map (some m2)) (.agg #[.int .i64 c, .int .i64 a, .int .i64 d]) true).run Try.prog w = .ok (.tuple #[.int .i64 ((told ⟨c, a, d⟩).getD 0), .bool (told ⟨c, a, d⟩).isSome]) w :=
  IMap.look (P := Try.prog) (T := 106) (k := 162) (e := 3) h keyedThree (fun t ht => keyOf_three ht) Try.underlying106 (zeroInt _) (t := ⟨c, a, d⟩) hw

set_option maxRecDepth 100000 in
set_option maxHeartbeats 800000 in
theorem ite_told (b : Nat) (O : Nat → Prop) (s : BS) (told : T3 → Option Int) (c a d r : Int) (w : World) (hs : IsBdd w b O s told) (hw : (⟨c, a, d⟩ : T3).wf) (ht : told ⟨c, a, d⟩ = some r)
    (q1 : (c == 1) = false) (q2 : (a == d) = false) (q3 : (c == 0) = false) (q4 : ¬ (a = 1 ∧ d = 0)) :
    Calls Try.prog 137 #[.pointer (some ⟨b, 0, none⟩), .int .i64 c, .int .i64 a, .int .i64 d] w (RetInt w r) := by
  obtain ⟨m2, c3, hm, -⟩ := hs.told
  have hlk := lookEq w m2 told c a d hm hw
  rw [ht] at hlk
  simp only [Option.getD_some, Option.isSome_some] at hlk
  clear hs hw ht hm
  by_cases ha : a = 1
  · have q5 : (d == 0) = false := by rw [beq_eq_false_iff_ne]; omega
    have q6 : (a == 1) = true := by rw [beq_iff_eq]; exact ha
    clear ha q4
    go_enter Try.func137, Try.ntmps137
    go_wp2
    go_ret
    exact ⟨rfl, Below.refl _ _⟩
  · have q6 : (a == 1) = false := by rw [beq_eq_false_iff_ne]; exact ha
    clear ha q4
    go_enter Try.func137, Try.ntmps137
    go_wp2
    go_ret
    exact ⟨rfl, Below.refl _ _⟩

end Go.Proofs.Ytlnkflmnjkmhkaa

/-
  The contract of (*Store).ite: the step.
-/
namespace Go.Proofs.Ytlnkflmnjkmhkaa
open Go.RowKit Go.Maps

theorem GivesT.pre {b : Nat} {O O' : Nat → Prop} {w w1 w' : World} {X : BS × Option Int} {e : Ending} (h : GivesT b O' w1 X e w') (he : Ext O O' w w1) : GivesT b O w X e w' := by
  rcases h with ⟨i, h1, h2, h3⟩ | ⟨h1, h2, h3⟩
  · exact .inl ⟨i, h1, h2, h3.pre he⟩
  · exact .inr ⟨h1, h2, h3.pre he⟩

/-- The ways that a step of Ite goes. -/
def Steps (f : Nat) (s : BS) (X : BS × Option Int) (v lc la ld hc ha hd : Int) : Prop :=
  (∃ s1, iteP f s lc la ld = some (s1, none) ∧ X = (s1, none)) ∨
  (∃ s1 lo, iteP f s lc la ld = some (s1, some lo) ∧
    ((∃ s2, iteP f s1 hc ha hd = some (s2, none) ∧ X = (s2, none)) ∨ ∃ s2 hi, iteP f s1 hc ha hd = some (s2, some hi) ∧ X = node1 s2 ⟨v, lo, hi⟩))

theorem steps_of {f : Nat} {s : BS} {c a d v : Int} {X : BS × Option Int} (hX : iteP (f + 1) s c a d = some X) (h1 : ¬ (c = 1 ∨ a = d)) (h2 : ¬ c = 0) (h3 : ¬ (a = 1 ∧ d = 0)) (hv : v = min3 s.nodes c a d) :
    Steps f s X v (loP s.nodes c v) (loP s.nodes a v) (loP s.nodes d v) (hiP s.nodes c v) (hiP s.nodes a v) (hiP s.nodes d v) := by
  rw [iteP, if_neg h1, if_neg h2, if_neg h3, ← hv] at hX
  split at hX
  · cases hX
  · rename_i s1 e1; cases hX; exact .inl ⟨s1, e1, rfl⟩
  · rename_i s1 lo e1
    split at hX
    · cases hX
    · rename_i s2 e2; cases hX; exact .inr ⟨s1, lo, e1, .inl ⟨s2, e2, rfl⟩⟩
    · rename_i s2 hi e2; cases hX; exact .inr ⟨s1, lo, e1, .inr ⟨s2, hi, e2, rfl⟩⟩

theorem GivesT.none' {b : Nat} {O : Nat → Prop} {w w' : World} {s1 : BS} {e : Ending} (h : GivesT b O w (s1, none) e w') :
    e = .panicked [{ v := overV, recovered := false }] ∧ Made b O w (fun s' t' => s' = s1 ∧ ToldOk s'.nodes t') w' := by
  rcases h with ⟨i, h1, h2, h3⟩ | ⟨h1, h2, h3⟩
  · cases h1
  · exact ⟨h2, h3⟩
theorem GivesT.some' {b : Nat} {O : Nat → Prop} {w w' : World} {s1 : BS} {r : Int} {e : Ending} (h : GivesT b O w (s1, some r) e w') :
    e = .returned (.int .i64 r) ∧ ∃ O' t', IsBdd w' b O' s1 t' ∧ ToldOk s1.nodes t' ∧ Ext O O' w w' := by
  rcases h with ⟨i, h1, h2, O', s', t', h4, h5, h6, h7⟩ | ⟨h1, h2, h3⟩
  · cases h1; subst h6; exact ⟨h2, O', t', h4, h7, h5⟩
  · cases h1

theorem node1_grows (s : BS) (t : T3) : ∃ m, (node1 s t).1.nodes = s.nodes ++ m := by
  unfold node1
  split
  · exact ⟨[], by simp⟩
  · split
    · exact ⟨[], by simp⟩
    · split
      · exact ⟨[], by simp⟩
      · exact ⟨[t], rfl⟩

/-- What the table of answers holds behind a step. -/
theorem told_upd {f : Nat} {s : BS} {t : T3 → Option Int} {k : T3} {r : Int} {X : BS × Option Int} (hf : f ≤ 65) (ho : Ord s.nodes) (hc : Is s.nodes k.a) (ha : Is s.nodes k.b) (hd : Is s.nodes k.c) (hX : iteP f s k.a k.b k.c = some X) (hr : X.2 = some r) (hT : ToldOk X.1.nodes t) :
    (t k = none ∨ t k = some r) ∧ ToldOk X.1.nodes (upd3 t k r) := by
  obtain ⟨g, q⟩ := iteP_ok f s k.a k.b k.c X ho hc ha hd hX
  obtain ⟨-, -, -, q4⟩ := q r hr
  have q5 := lookP_fuel f 65 _ _ _ _ hf q4
  refine ⟨?_, fun x r' hx => ?_⟩
  · cases hk : t k with
    | none => exact .inl rfl
    | some r' =>
      obtain ⟨-, -, -, h4⟩ := hT k r' hk
      exact .inr (by rw [lookP_det q5 h4])
  · unfold upd3 at hx
    split at hx
    · rename_i e
      subst e
      cases hx
      exact ⟨(g.is hc).1, (g.is ha).1, (g.is hd).1, q5⟩
    · exact hT x r' hx

set_option maxRecDepth 100000 in
set_option maxHeartbeats 2000000 in
theorem ite_step (f : Nat) (hf : f + 1 ≤ 65) (ih : Hid (IteAt f)) (b : Nat) (O : Nat → Prop) (s : BS) (told : T3 → Option Int) (c a d : Int) (X : BS × Option Int) (w : World) (hs : IsBdd w b O s told) (ho : Ord s.nodes) (hT : ToldOk s.nodes told)
    (hc : Is s.nodes c) (ha : Is s.nodes a) (hd : Is s.nodes d) (hX : iteP (f + 1) s c a d = some X) (ht : told ⟨c, a, d⟩ = none)
    (h1 : ¬ (c = 1 ∨ a = d)) (h2 : ¬ c = 0) (h3 : ¬ (a = 1 ∧ d = 0)) :
    Calls Try.prog 137 #[.pointer (some ⟨b, 0, none⟩), .int .i64 c, .int .i64 a, .int .i64 d] w (GivesT b O w X) := by
  have hW : (⟨c, a, d⟩ : T3).wf := ⟨is_wf hc hs.len, is_wf ha hs.len, is_wf hd hs.len⟩
  obtain ⟨m2, c3, hm, -⟩ := hs.told
  have hlk := lookEq w m2 told c a d hm hW
  rw [ht] at hlk
  simp only [Option.getD_none, Option.isSome_none] at hlk
  have HT : Hid (∀ x, Is s.nodes x → Calls Try.prog 151 #[.pointer (some ⟨b, 0, none⟩), .int .i64 x] w fun e w' => e = .returned (.int .i64 (topP s.nodes x)) ∧ w = w') := fun x hx => top_any b O s told x w hs hx
  have HS : Hid (∀ x v W, Is s.nodes x → v < 64 → Below w.heap.size w W → Calls Try.prog 152 #[.pointer (some ⟨b, 0, none⟩), .int .i64 x, .int .i64 v] W fun e w' => e = .returned (.tuple #[.int .i64 (loP s.nodes x v), .int .i64 (hiP s.nodes x v)]) ∧ Below W.heap.size W w') := fun x v W hx hv hW => split_any b O s told x v W (hs.below hW) hx hv
  have q1 : (c == 1) = false := by rw [beq_eq_false_iff_ne]; omega
  have q2 : (a == d) = false := by rw [beq_eq_false_iff_ne]; omega
  have q3 : (c == 0) = false := by rw [beq_eq_false_iff_ne]; omega
  have hmin := min3_lt ho hc h1 h2
  have q5 : ((a == 1) = true ∧ (d == 0) = false) ∨ (a == 1) = false := by
    by_cases e : a = 1
    · exact .inl ⟨by simpa using e, by rw [beq_eq_false_iff_ne]; omega⟩
    · exact .inr (by rw [beq_eq_false_iff_ne]; exact e)
  obtain ⟨tc, htc⟩ : ∃ tc, tc = topP s.nodes c := ⟨_, rfl⟩
  obtain ⟨ta, hta⟩ : ∃ ta, ta = topP s.nodes a := ⟨_, rfl⟩
  obtain ⟨td, htd⟩ : ∃ td, td = topP s.nodes d := ⟨_, rfl⟩
  obtain ⟨v, hv⟩ : ∃ v, v = min3 s.nodes c a d := ⟨_, rfl⟩
  have hvm : v ≤ tc ∧ v ≤ ta ∧ v ≤ td ∧ (v = tc ∨ v = ta ∨ v = td) := by rw [hv, htc, hta, htd]; simp only [min3]; omega
  rw [← hv] at hmin
  have hv64 := hmin.1
  have hv0 := hmin.2.2.2.2
  have HTC : Hid (Calls Try.prog 151 #[.pointer (some ⟨b, 0, none⟩), .int .i64 c] w fun e w' => e = .returned (.int .i64 tc) ∧ w = w') := by rw [htc]; exact top_any b O s told c w hs hc
  have HTA : Hid (Calls Try.prog 151 #[.pointer (some ⟨b, 0, none⟩), .int .i64 a] w fun e w' => e = .returned (.int .i64 ta) ∧ w = w') := by rw [hta]; exact top_any b O s told a w hs ha
  have HTD : Hid (Calls Try.prog 151 #[.pointer (some ⟨b, 0, none⟩), .int .i64 d] w fun e w' => e = .returned (.int .i64 td) ∧ w = w') := by rw [htd]; exact top_any b O s told d w hs hd
  have HC := Lib.hid hc
  have HA := Lib.hid ha
  have HD := Lib.hid hd
  have HO := Lib.hid ho
  have HTO := Lib.hid hT
  have HX := Lib.hid hX
  have HB := Lib.hid hs
  have HWF := Lib.hid hW
  have HV := Lib.hid hv
  have HM : Hid (v ≤ topP s.nodes c ∧ v ≤ topP s.nodes a ∧ v ≤ topP s.nodes d) := ⟨hmin.2.1, hmin.2.2.1, hmin.2.2.2.1⟩
  have HN : Hid (¬ (c = 1 ∨ a = d) ∧ ¬ c = 0 ∧ ¬ (a = 1 ∧ d = 0)) := ⟨h1, h2, h3⟩
  have HVM := Lib.hid hvm
  clear hc ha hd ho hT hX hs ht hm hW h1 h2 h3 hmin hv htc hta htd hvm HT
  rcases q5 with ⟨q5, q6⟩ | q5
  all_goals
    go_enter Try.func137, Try.ntmps137
    go_wp2_with fail
    refine HTC.out.mono ?_
    rintro e w1 ⟨rfl, rfl⟩
    go_wp2_with fail
    refine HTA.out.mono ?_
    rintro e w1 ⟨rfl, rfl⟩
    go_wp2_with fail
    refine HTD.out.mono ?_
    rintro e w1 ⟨rfl, rfl⟩
    clear HTC HTA HTD
    go_wp2_with fail
  all_goals
    have hvm := HVM.out
    first
      | (have hE : v = tc := by omega
         subst hE
         with_reducible refine (HS.out c v w HC.out hv64 (Below.refl _ _)).mono ?_)
      | (have hE : v = ta := by omega
         subst hE
         with_reducible refine (HS.out c v w HC.out hv64 (Below.refl _ _)).mono ?_)
      | (have hE : v = td := by omega
         subst hE
         with_reducible refine (HS.out c v w HC.out hv64 (Below.refl _ _)).mono ?_)
    clear hvm HVM
    rintro e w1 ⟨rfl, hb1⟩
    go_wp2_with fail
    refine (HS.out a v w1 HA.out hv64 hb1).mono ?_
    rintro e w2 ⟨rfl, hb2⟩
    have hb2 := hb1.trans (hb2.mono hb1.size)
    go_wp2_with fail
    refine (HS.out d v w2 HD.out hv64 hb2).mono ?_
    rintro e w3 ⟨rfl, hb3⟩
    have HB3 : Hid (Below w.heap.size w w3) := hb2.trans (hb3.mono hb2.size)
    clear hb1 hb2 hb3
    have HLC : Hid (Is s.nodes (loP s.nodes c v) ∧ v < topP s.nodes (loP s.nodes c v)) := loP_is HO.out HC.out hv64 HM.out.1
    have HLA : Hid (Is s.nodes (loP s.nodes a v) ∧ v < topP s.nodes (loP s.nodes a v)) := loP_is HO.out HA.out hv64 HM.out.2.1
    have HLD : Hid (Is s.nodes (loP s.nodes d v) ∧ v < topP s.nodes (loP s.nodes d v)) := loP_is HO.out HD.out hv64 HM.out.2.2
    have HHC : Hid (Is s.nodes (hiP s.nodes c v) ∧ v < topP s.nodes (hiP s.nodes c v)) := hiP_is HO.out HC.out hv64 HM.out.1
    have HHA : Hid (Is s.nodes (hiP s.nodes a v) ∧ v < topP s.nodes (hiP s.nodes a v)) := hiP_is HO.out HA.out hv64 HM.out.2.1
    have HHD : Hid (Is s.nodes (hiP s.nodes d v) ∧ v < topP s.nodes (hiP s.nodes d v)) := hiP_is HO.out HD.out hv64 HM.out.2.2
    have HSTEP : Hid (Steps f s X v (loP s.nodes c v) (loP s.nodes a v) (loP s.nodes d v) (hiP s.nodes c v) (hiP s.nodes a v) (hiP s.nodes d v)) := steps_of HX.out HN.out.1 HN.out.2.1 HN.out.2.2 HV.out
    generalize loP s.nodes c v = lc at *
    generalize loP s.nodes a v = la at *
    generalize loP s.nodes d v = ld at *
    generalize hiP s.nodes c v = hc at *
    generalize hiP s.nodes a v = ha at *
    generalize hiP s.nodes d v = hd at *
    have HE3 : Hid (Ext O O w w3) := Ext.of_below HB3.out
    have HI3 : Hid (IsBdd w3 b O s told) := HB.out.below HB3.out
    clear HB3 HB HS hlk c3 HM HV HN
    rcases HSTEP.out with ⟨s1, e1, rfl⟩ | ⟨s1, lo, e1, hrest⟩
    · have E1 := Lib.hid e1
      clear e1
      go_wp2_with fail
      refine (ih.out b O s told lc la ld (s1, none) w3 HI3.out HO.out HTO.out HLC.out.1 HLA.out.1 HLD.out.1 E1.out).mono ?_
      intro e w4 h4
      obtain ⟨rfl, h4'⟩ := h4.none'
      have H4 := Lib.hid h4'
      clear h4 h4'
      go_wp2_with fail
      exact ⟨rfl, .inr ⟨rfl, rfl, H4.out.pre HE3.out⟩⟩
    · have E1 := Lib.hid e1
      have hg := iteP_ok f s lc la ld _ HO.out HLC.out.1 HLA.out.1 HLD.out.1 e1
      obtain ⟨g1, k1⟩ := hg
      obtain ⟨k11, k12, k13, k14⟩ := k1 lo rfl
      have G1 : Hid (Grew s s1) := g1
      have K1 : Hid (Is s1.nodes lo ∧ min3 s.nodes lc la ld ≤ topP s1.nodes lo ∧ lookP f s1.nodes lc la ld = some lo) := ⟨k12, k13, k14⟩
      have HR := Lib.hid hrest
      clear e1 k1 k11 k12 k13 k14 hrest g1
      go_wp2_with fail
      refine (ih.out b O s told lc la ld (s1, some lo) w3 HI3.out HO.out HTO.out HLC.out.1 HLA.out.1 HLD.out.1 E1.out).mono ?_
      intro e w4 h4
      obtain ⟨rfl, O4, t4, h41, h42, h43⟩ := h4.some'
      have H41 := Lib.hid h41
      have H42 := Lib.hid h42
      have H43 : Hid (Ext O O4 w w4) := HE3.out.trans h43
      clear h4 h41 h42 h43 HE3 HI3
      go_wp2_with fail
      rcases HR.out with ⟨s2, e2, rfl⟩ | ⟨s2, hi, e2, hx⟩
      · have E2 := Lib.hid e2
        clear e2
        refine (ih.out b O4 s1 t4 hc ha hd (s2, none) w4 H41.out G1.out.ord H42.out (G1.out.is HHC.out.1).1 (G1.out.is HHA.out.1).1 (G1.out.is HHD.out.1).1 E2.out).mono ?_
        intro e w5 h5
        obtain ⟨rfl, h5'⟩ := h5.none'
        have H5 := Lib.hid h5'
        clear h5 h5'
        go_wp2_with fail
        exact ⟨rfl, .inr ⟨rfl, rfl, H5.out.pre H43.out⟩⟩
      · have E2 := Lib.hid e2
        obtain ⟨g2, k2⟩ := iteP_ok f s1 hc ha hd _ G1.out.ord (G1.out.is HHC.out.1).1 (G1.out.is HHA.out.1).1 (G1.out.is HHD.out.1).1 e2
        obtain ⟨k21, k22, k23, k24⟩ := k2 hi rfl
        have G2 : Hid (Grew s1 s2) := g2
        have K2 : Hid (Is s2.nodes hi ∧ min3 s1.nodes hc ha hd ≤ topP s2.nodes hi ∧ lookP f s2.nodes hc ha hd = some hi) := ⟨k22, k23, k24⟩
        have HXX := Lib.hid hx
        clear e2 k2 k21 k22 k23 k24 g2 hx
        refine (ih.out b O4 s1 t4 hc ha hd (s2, some hi) w4 H41.out G1.out.ord H42.out (G1.out.is HHC.out.1).1 (G1.out.is HHA.out.1).1 (G1.out.is HHD.out.1).1 E2.out).mono ?_
        intro e w5 h5
        obtain ⟨rfl, O5, t5, h51, h52, h53⟩ := h5.some'
        have H51 := Lib.hid h51
        have H52 := Lib.hid h52
        have H53 : Hid (Ext O O5 w w5) := H43.out.trans h53
        clear h5 h51 h52 h53 H41 H42 H43
        go_wp2_with fail
        have hwf : (⟨v, lo, hi⟩ : T3).wf := ⟨WalkArith.wf_i64 (n := v) (by omega), is_wf (G2.out.is K1.out.1).1 H51.out.len, is_wf K2.out.1 H51.out.len⟩
        refine (node_any b O5 s2 t5 v lo hi w5 H51.out hwf).mono ?_
        clear hwf
        intro e w6 h6
        rw [← HXX.out] at h6
        have hgr : ∃ m, X.1.nodes = s2.nodes ++ m := by rw [HXX.out]; exact node1_grows _ _
        have HT5 : Hid (ToldOk X.1.nodes t5) := by
          obtain ⟨m, em⟩ := hgr
          show ToldOk _ _
          rw [em]
          exact H52.out.mono G2.out.ord
        clear hgr
        rcases h6 with ⟨i, hi1, rfl, O6, s6, t6, h61, h62, h63, h64⟩ | ⟨hi1, rfl, O6, s6, t6, h61, h62, h63, h64⟩
        · subst h63 h64
          obtain ⟨u1, u2⟩ := told_upd (k := ⟨c, a, d⟩) hf HO.out HC.out HA.out HD.out HX.out hi1 HT5.out
          obtain ⟨m2', c3', hm', hset⟩ := h61.told
          obtain ⟨w7, hrun, him7, hg7⟩ := hm'.store (P := Try.prog) (T := 106) (k := 162) (e := 3) keyedThree (fun t ht => keyOf_three ht) Try.underlying106 (t := ⟨c, a, d⟩) HWF.out i u1
          obtain ⟨p1, p2⟩ := hset w7 _ him7 hg7
          have FIN : Hid (GivesT b O w X (.returned (.int .i64 i)) w7) := .inl ⟨i, hi1, rfl, O6, X.1, _, p1, (H53.out.trans h62).trans ⟨p2, fun _ h => .inl h⟩, rfl, u2⟩
          simp only [kv3] at hrun
          clear hi1 u1 u2 him7 hg7 p1 p2 hset hm' h61 h62
          go_wp2_with fail
          go_ret
          exact FIN.out
        · subst h63 h64
          have FIN : Hid (GivesT b O w X (.panicked [{ v := overV, recovered := false }]) w6) := .inr ⟨hi1, rfl, O6, X.1, _, h61, H53.out.trans h62, rfl, HT5.out⟩
          clear hi1 h61 h62
          go_wp2_with fail
          exact ⟨rfl, FIN.out⟩

theorem ite_at : ∀ f, f ≤ 65 → IteAt f := by
  intro f
  induction f with
  | zero => intro _ b O s told c a d X w _ _ _ _ _ _ h; simp [iteP] at h
  | succ f ih =>
    intro hf b O s told c a d X w hs ho hT hc ha hd hX
    by_cases h1 : c = 1 ∨ a = d
    · rw [iteP, if_pos h1] at hX
      cases hX
      exact (ite_plain b c a d a w (.inl ⟨h1, rfl⟩)).mono fun e w' ⟨p1, p2⟩ => .inl ⟨a, rfl, p1, O, s, told, hs.below p2, Ext.of_below p2, rfl, hT⟩
    · by_cases h2 : c = 0
      · rw [iteP, if_neg h1, if_pos h2] at hX
        cases hX
        exact (ite_plain b c a d d w (.inr (.inl ⟨h1, h2, rfl⟩))).mono fun e w' ⟨p1, p2⟩ => .inl ⟨d, rfl, p1, O, s, told, hs.below p2, Ext.of_below p2, rfl, hT⟩
      · by_cases h3 : a = 1 ∧ d = 0
        · rw [iteP, if_neg h1, if_neg h2, if_pos h3] at hX
          cases hX
          exact (ite_plain b c a d c w (.inr (.inr ⟨h1, h2, h3, rfl⟩))).mono fun e w' ⟨p1, p2⟩ => .inl ⟨c, rfl, p1, O, s, told, hs.below p2, Ext.of_below p2, rfl, hT⟩
        · cases ht : told ⟨c, a, d⟩ with
          | none => exact ite_step f hf (Lib.hid (ih (by omega))) b O s told c a d X w hs ho hT hc ha hd hX ht h1 h2 h3
          | some r =>
            obtain ⟨-, -, -, hl⟩ := hT _ _ ht
            have := iteP_of_look (f + 1) 65 s c a d r X hl hX
            subst this
            exact (ite_told b O s told c a d r w hs ⟨is_wf hc hs.len, is_wf ha hs.len, is_wf hd hs.len⟩ ht (by rw [beq_eq_false_iff_ne]; omega) (by rw [beq_eq_false_iff_ne]; omega) (by rw [beq_eq_false_iff_ne]; omega) h3).mono
              fun e w' ⟨p1, p2⟩ => .inl ⟨r, rfl, p1, O, s, told, hs.below p2, Ext.of_below p2, rfl, hT⟩

end Go.Proofs.Ytlnkflmnjkmhkaa

/-
  The contracts of Ite, Not, And, Or, Xor, Var, Full, Len of a store that is there, by their plain laws.
-/
namespace Go.Proofs.Ytlnkflmnjkmhkaa
open Go.RowKit Go.Maps

/-- At block b lies the store s, whose blocks are O. -/
def Sto (w : World) (b : Nat) (O : Nat → Prop) (s : BS) : Prop := ∃ told, IsBdd w b O s told ∧ Ord s.nodes ∧ ToldOk s.nodes told
/-- Behind a call the store is s'; beside its blocks nothing that was has changed. -/
def ToSto (b : Nat) (O : Nat → Prop) (w : World) (s' : BS) (w' : World) : Prop := ∃ O', Sto w' b O' s' ∧ Ext O O' w w'

theorem Sto.below {w w' : World} {b : Nat} {O : Nat → Prop} {s : BS} (h : Sto w b O s) (hb : Below w.heap.size w w') : Sto w' b O s := by
  obtain ⟨t, h1, h2, h3⟩ := h
  exact ⟨t, h1.below hb, h2, h3⟩
/-- Ite of a store. -/
def iteF (s : BS) (c a d : Int) : BS × Int :=
  if s.full then (s, 0) else match iteP 65 s (rightP s.nodes c) (rightP s.nodes a) (rightP s.nodes d) with
  | none => (s, 0)
  | some X => (X.1, X.2.getD 0)

theorem made_anyT (b : Nat) (O : Nat → Prop) (s : BS) (told : T3 → Option Int) (f : Nat) (fst cp : Array Value) (r : BS × Option Int) (w : World) (hs : IsBdd w b O s told) (hfull : s.full = false)
    (hcall : ∀ (av : Array Value) (W : World), (callFunc f av).run Try.prog W = .ok (.enter f av) W)
    (hf : Calls Try.prog f (fst ++ cp) (w.alloc (.cells #[.int .i64 0] 3)) (GivesT b O (w.alloc (.cells #[.int .i64 0] 3)) r)) :
    Calls Try.prog 65 #[.pointer (some ⟨b, 0, none⟩), .func (.func f) fst cp] w fun e w' => e = .returned (.int .i64 (r.2.getD 0)) ∧ Made b O w (fun s' t' => s' = r.1 ∧ ToldOk s'.nodes t') w' := by
  obtain ⟨s1, r2⟩ := r
  cases r2 with
  | some i =>
    refine made_ret b O s told f fst cp i _ w hs hfull hcall (hf.mono fun e w' h => ?_)
    rcases h with ⟨j, h1, h2, h3⟩ | ⟨h1, h2, h3⟩
    · cases h1; exact ⟨h2, h3⟩
    · cases h1
  | none =>
    refine made_over b O s told f fst cp _ w hs hfull hcall (hf.mono fun e w' h => ?_)
    rcases h with ⟨j, h1, h2, h3⟩ | ⟨h1, h2, h3⟩
    · cases h1
    · exact ⟨h2, h3⟩

set_option maxRecDepth 100000 in
set_option maxHeartbeats 1600000 in
theorem ite1_any (b : Nat) (O : Nat → Prop) (s : BS) (told : T3 → Option Int) (p q1 q2 q3 : Addr) (c a d : Int) (X : BS × Option Int) (w : World) (hs : IsBdd w b O s told) (ho : Ord s.nodes) (hT : ToldOk s.nodes told)
    (hX : iteP 65 s (rightP s.nodes c) (rightP s.nodes a) (rightP s.nodes d) = some X)
    (hp : w.cell? p = some (.pointer (some ⟨b, 0, none⟩))) (hq1 : w.cell? q1 = some (.int .i64 c)) (hq2 : w.cell? q2 = some (.int .i64 a)) (hq3 : w.cell? q3 = some (.int .i64 d)) :
    Calls Try.prog 136 #[.pointer (some p), .pointer (some q1), .pointer (some q2), .pointer (some q3)] w (GivesT b O w X) := by
  have HR : Hid (∀ x W, Below w.heap.size w W → Calls Try.prog 138 #[.pointer (some ⟨b, 0, none⟩), .int .i64 x] W fun e w' => e = .returned (.int .i64 (rightP s.nodes x)) ∧ W = w') := fun x W hW => right_any b O s told x W (hs.below hW)
  have HI : Hid (∀ W, Below w.heap.size w W → Calls Try.prog 137 #[.pointer (some ⟨b, 0, none⟩), .int .i64 (rightP s.nodes c), .int .i64 (rightP s.nodes a), .int .i64 (rightP s.nodes d)] W (GivesT b O w X)) := fun W hW =>
    (ite_at 65 (Nat.le_refl _) b O s told _ _ _ X W (hs.below hW) ho hT (rightP_is _ _) (rightP_is _ _) (rightP_is _ _) hX).mono fun e w' h => h.pre (Ext.of_below hW)
  clear hs ho hT hX
  generalize rightP s.nodes = R at *
  go_enter Try.func136, Try.ntmps136
  go_wp2_with fail
  refine wp_region_still_tail 10 (by kernel_rfl) (by kernel_rfl) ?_
  simp only [List.take_succ_cons, List.take_zero, List.drop_succ_cons, List.drop_zero]
  change wpStill _ _ (World.drew _) _ _ _
  repeat (first | still_step | still_call ((HR.out _ _ (below_drewN (Below.refl _ _) 1)).mono (fun _ _ h => ⟨h.1, h.2.symm⟩)))
  refine wpStill_nil ?_
  change wpList _ _ _ _ _ (World.drew _)
  go_wp2_with fail
  refine (HI.out _ (below_drewN (Below.refl _ _) 1)).mono ?_
  intro e w1 h1
  rcases h1 with ⟨i, h1, rfl, h3⟩ | ⟨h1, rfl, h3⟩
  · have H1 := Lib.hid h1
    have H3 := Lib.hid h3
    clear h1 h3
    go_wp2_with fail
    go_ret
    exact .inl ⟨i, H1.out, rfl, H3.out⟩
  · have H1 := Lib.hid h1
    have H3 := Lib.hid h3
    clear h1 h3
    go_wp2_with fail
    exact ⟨rfl, .inr ⟨H1.out, rfl, H3.out⟩⟩

theorem call_ite1s (av : Array Value) (W : World) : (callFunc 136 av).run Try.prog W = .ok (.enter 136 av) W := by kernel_rfl

set_option maxRecDepth 100000 in
set_option maxHeartbeats 1600000 in
theorem ite_sto (b : Nat) (O : Nat → Prop) (s : BS) (c a d : Int) (w : World) (hs : Sto w b O s) :
    Calls Try.prog 87 #[.pointer (some ⟨b, 0, none⟩), .int .i64 c, .int .i64 a, .int .i64 d] w fun e w' => e = .returned (.int .i64 (iteF s c a d).2) ∧ ToSto b O w (iteF s c a d).1 w' := by
  obtain ⟨told, hI, ho, hT⟩ := hs
  have HS := Lib.hid hI
  have HO := Lib.hid ho
  have HT := Lib.hid hT
  have hmf := run_makeFunc
  obtain ⟨W4, hW4⟩ : ∃ W4, W4 = (((w.alloc (.cells #[.pointer (some ⟨b, 0, none⟩)] 23)).alloc (.cells #[.int .i64 c] 3)).alloc (.cells #[.int .i64 a] 3)).alloc (.cells #[.int .i64 d] 3) := ⟨_, rfl⟩
  have hB : Below w.heap.size w W4 := by rw [hW4]; exact (by repeat (first | exact Below.refl _ _ | assumption | refine Below.drew ?_ | refine Below.alloc ?_ (by first | omega | (simp <;> omega)) _ | refine Below.setCell ?_ (by first | omega | (simp <;> omega)) _ | refine Below.trans ?_ (Below.mono (by assumption) (by first | omega | (simp <;> omega)))))
  have HB := Lib.hid hB
  by_cases hf : s.full = true
  · have HE : Hid (iteF s c a d = (s, 0)) := by show _ = _; simp [iteF, hf]
    have HM : Hid (∀ fv, Calls Try.prog 65 #[.pointer (some ⟨b, 0, none⟩), fv] W4 (RetInt W4 0)) := fun fv => made_full b O s told fv _ (hI.below hB) hf
    clear hI ho hT hf hB
    go_enter Try.func87, Try.ntmps87
    go_wp2_with fail
    rw [← hW4]
    clear hW4
    refine (HM.out _).mono ?_
    rintro e w1 ⟨rfl, hb⟩
    go_wp2_with fail
    go_ret
    have hB2 : Below w.heap.size w w1 := HB.out.trans (hb.mono HB.out.size)
    exact ⟨by rw [HE.out]; rfl, O, ⟨told, by rw [HE.out]; exact HS.out.below hB2, by rw [HE.out]; exact HO.out, by rw [HE.out]; exact HT.out⟩, Ext.of_below hB2⟩
  · have hf' : s.full = false := by simpa using hf
    obtain ⟨X, hX⟩ := iteP_some 65 s (rightP s.nodes c) (rightP s.nodes a) (rightP s.nodes d) ho (rightP_is _ _) (rightP_is _ _) (rightP_is _ _) (by
      have h1 := (topP_le ho (rightP s.nodes c)).2
      have h2 := (topP_le ho (rightP s.nodes a)).2
      have h3 := (topP_le ho (rightP s.nodes d)).2
      simp only [min3]
      omega)
    have HE : Hid (iteF s c a d = (X.1, X.2.getD 0)) := by show _ = _; unfold iteF; rw [if_neg hf, hX]
    have HG : Hid (Ord X.1.nodes) := (iteP_ok _ _ _ _ _ _ ho (rightP_is _ _) (rightP_is _ _) (rightP_is _ _) hX).1.ord
    have HM : Hid (Calls Try.prog 65 #[.pointer (some ⟨b, 0, none⟩), .func (.func 136) #[] #[.pointer (some ⟨w.heap.size, 0, none⟩), .pointer (some ⟨w.heap.size + 1, 0, none⟩), .pointer (some ⟨w.heap.size + 2, 0, none⟩), .pointer (some ⟨w.heap.size + 3, 0, none⟩)]] W4
        fun e w' => e = .returned (.int .i64 (X.2.getD 0)) ∧ Made b O W4 (fun s' t' => s' = X.1 ∧ ToldOk s'.nodes t') w') := by
      refine made_anyT b O s told 136 #[] _ X _ (hI.below hB) hf' call_ite1s ?_
      refine ite1_any b O s told _ _ _ _ c a d X _ ((hI.below hB).below (by repeat (first | exact Below.refl _ _ | assumption | refine Below.drew ?_ | refine Below.alloc ?_ (by first | omega | (simp <;> omega)) _ | refine Below.setCell ?_ (by first | omega | (simp <;> omega)) _ | refine Below.trans ?_ (Below.mono (by assumption) (by first | omega | (simp <;> omega)))))) ho hT hX ?_ ?_ ?_ ?_
      · rw [hW4]; simp [go_sem]
      · rw [hW4]; simp [go_sem]
      · rw [hW4]; simp [go_sem]
      · rw [hW4]; simp [go_sem]
    clear hI ho hT hf hf' hB hX
    go_enter Try.func87, Try.ntmps87
    go_wp2_with fail
    rw [← hW4]
    clear hW4
    refine HM.out.mono ?_
    rintro e w1 ⟨rfl, O', s', told', h1, h2, h3, h4⟩
    have H1 := Lib.hid h1
    have H3 := Lib.hid h3
    have H4 := Lib.hid h4
    clear h1 h3 h4
    go_wp2_with fail
    go_ret
    exact ⟨by rw [HE.out]; rfl, O', ⟨told', by rw [HE.out, ← H3.out]; exact H1.out, by rw [HE.out]; exact HG.out, by rw [HE.out, ← H3.out]; exact H4.out⟩, (Ext.of_below HB.out).trans h2⟩

end Go.Proofs.Ytlnkflmnjkmhkaa

/-
  The contracts of the store's methods at a store that is there, by their plain laws.
-/
namespace Go.Proofs.Ytlnkflmnjkmhkaa
open Go.RowKit Go.Maps

def notF (s : BS) (a : Int) : BS × Int := iteF s a 0 1
def andF (s : BS) (a b : Int) : BS × Int := iteF s a b 0
def orF (s : BS) (a b : Int) : BS × Int := iteF s a 1 b
/-- How a call ends that hands back an integer and turns the store. -/
def RetS (b : Nat) (O : Nat → Prop) (w : World) (r : BS × Int) (e : Ending) (w' : World) : Prop := e = .returned (.int .i64 r.2) ∧ ToSto b O w r.1 w'

theorem Sto.kept {w w' : World} {b : Nat} {O : Nat → Prop} {s : BS} (h : Sto w b O s) (hk : ∀ k, O k → w'.heap[k]? = w.heap[k]?) : Sto w' b O s := by
  obtain ⟨t, h1, h2, h3⟩ := h
  exact ⟨t, h1.kept hk, h2, h3⟩
theorem Sto.lt {w : World} {b : Nat} {O : Nat → Prop} {s : BS} (h : Sto w b O s) : ∀ k, O k → k < w.heap.size := by
  obtain ⟨t, h1, h2, h3⟩ := h
  exact h1.lt
set_option maxRecDepth 100000 in
set_option maxHeartbeats 400000 in
theorem not_sto (b : Nat) (O : Nat → Prop) (s : BS) (a : Int) (w : World) (hs : Sto w b O s) :
    Calls Try.prog 85 #[.pointer (some ⟨b, 0, none⟩), .int .i64 a] w (RetS b O w (notF s a)) := by
  have HM := Lib.hid (ite_sto b O s a 0 1 w hs)
  clear hs
  go_enter Try.func85, Try.ntmps85
  go_wp2_with fail
  refine HM.out.mono ?_
  rintro e w1 ⟨rfl, h⟩
  have H := Lib.hid h
  clear h
  go_wp2_with fail
  go_ret
  exact ⟨rfl, H.out⟩

set_option maxRecDepth 100000 in
set_option maxHeartbeats 400000 in
theorem and_sto (b : Nat) (O : Nat → Prop) (s : BS) (a d : Int) (w : World) (hs : Sto w b O s) :
    Calls Try.prog 82 #[.pointer (some ⟨b, 0, none⟩), .int .i64 a, .int .i64 d] w (RetS b O w (andF s a d)) := by
  have HM := Lib.hid (ite_sto b O s a d 0 w hs)
  clear hs
  go_enter Try.func82, Try.ntmps82
  go_wp2_with fail
  refine HM.out.mono ?_
  rintro e w1 ⟨rfl, h⟩
  have H := Lib.hid h
  clear h
  go_wp2_with fail
  go_ret
  exact ⟨rfl, H.out⟩

set_option maxRecDepth 100000 in
set_option maxHeartbeats 400000 in
theorem or_sto (b : Nat) (O : Nat → Prop) (s : BS) (a d : Int) (w : World) (hs : Sto w b O s) :
    Calls Try.prog 83 #[.pointer (some ⟨b, 0, none⟩), .int .i64 a, .int .i64 d] w (RetS b O w (orF s a d)) := by
  have HM := Lib.hid (ite_sto b O s a 1 d w hs)
  clear hs
  go_enter Try.func83, Try.ntmps83
  go_wp2_with fail
  refine HM.out.mono ?_
  rintro e w1 ⟨rfl, h⟩
  have H := Lib.hid h
  clear h
  go_wp2_with fail
  go_ret
  exact ⟨rfl, H.out⟩

theorem var_sto (b : Nat) (O : Nat → Prop) (s : BS) (v : Int) (w : World) (hs : Sto w b O s) :
    Calls Try.prog 10 #[.pointer (some ⟨b, 0, none⟩), .int .i64 v] w (RetS b O w (varF s v)) := by
  obtain ⟨told, hI, ho, hT⟩ := hs
  refine (var_any b O s told v w hI).mono ?_
  rintro e w' ⟨h0, O', s', t', h1, h2, rfl, rfl⟩
  have key : Ord (varF s v).1.nodes ∧ ToldOk (varF s v).1.nodes t' := by
    unfold varF
    split
    · exact ⟨ho, hT⟩
    · rename_i hn
      have hv0 : 0 ≤ v := by omega
      have hv1 : v < 64 := by omega
      have h01 : Is s.nodes 0 ∧ Is s.nodes 1 := ⟨by unfold Is; omega, by unfold Is; omega⟩
      have t0 : topP s.nodes 0 = 64 := by unfold topP; simp
      have t1 : topP s.nodes 1 = 64 := by unfold topP; simp
      obtain ⟨⟨m, hm⟩, g2, -, -⟩ := node1_ok (t := ⟨v, 0, 1⟩) ho ⟨hv0, hv1⟩ h01.1 h01.2 (by show v < topP s.nodes 0; omega) (by show v < topP s.nodes 1; omega)
      refine ⟨g2, ?_⟩
      show ToldOk (node1 s ⟨v, 0, 1⟩).1.nodes t'
      rw [hm]
      exact hT.mono ho
  exact ⟨h0, O', ⟨t', h1, key.1, key.2⟩, h2⟩

/-- A slice without an address has no room. -/
def NilOk (v : Value) : Prop := ∀ n c, v = .slice none n c → c = 0
theorem NilOk.some (a : Addr) (n c : Nat) : NilOk (.slice (some a) n c) := fun _ _ h => by cases h
theorem NilOk.nil : NilOk (.slice none 0 0) := fun _ _ h => by cases h; rfl
/-- A vector that reads as xs, beside the blocks O. -/
def IVecX (w : World) (O : Nat → Prop) (v : Value) (xs : List Int) : Prop := IVec w v xs ∧ (∀ k, v.ownBlock = some k → 0 < xs.length → ¬ O k) ∧ NilOk v

theorem IVecX.ext {w w' : World} {O O' : Nat → Prop} {v : Value} {xs : List Int} (h : IVecX w O v xs) (he : Ext O O' w w') : IVecX w' O' v xs := by
  obtain ⟨⟨pa, cap, h1, h2, h3, h4⟩, h5, h6⟩ := h
  subst h1
  by_cases h0 : 0 < xs.length
  · obtain ⟨b, off, e, hlt, hc⟩ := h4 h0
    subst e
    have hb := h5 b rfl h0
    refine ⟨⟨_, cap, rfl, h2, h3, fun _ => ⟨b, off, rfl, Nat.lt_of_lt_of_le hlt he.1.size, fun i hi => ?_⟩⟩, fun k hk _ => ?_, h6⟩
    · rw [(he.cell (p := ⟨b, off + i, none⟩) hlt hb).1]
      exact hc i hi
    · cases hk
      exact (he.cell (p := ⟨b, off, none⟩) hlt hb).2.2
  · exact ⟨⟨pa, cap, rfl, h2, h3, fun h => absurd h h0⟩, fun k hk h => absurd h h0, h6⟩

end Go.Proofs.Ytlnkflmnjkmhkaa

/-
  Regions that draw their order and make memory beside calls: what holds whatever has been done.
-/
namespace Go.Proofs.Ytlnkflmnjkmhkaa
open Go.RowKit Go.Maps

def nth (l : List Value) (i : Nat) : Value := l.getD i undef
theorem nth_set {l : List Value} {i j : Nat} {v : Value} : nth (l.set i v) j = if i = j ∧ i < l.length then v else nth l j := by
  unfold nth
  rw [List.getD_eq_getElem?_getD, List.getD_eq_getElem?_getD, List.getElem?_set]
  by_cases h : i = j
  · subst h
    rw [if_pos rfl]
    by_cases h2 : i < l.length
    · rw [if_pos h2, if_pos ⟨rfl, h2⟩]; rfl
    · rw [if_neg h2, if_neg (by omega), List.getElem?_eq_none (by omega)]
  · rw [if_neg h, if_neg (by omega)]
theorem nth_same {l : List Value} {i : Nat} {v : Value} (h : i < l.length) : nth (l.set i v) i = v := by rw [nth_set, if_pos ⟨rfl, h⟩]
theorem nth_other {l : List Value} {i j : Nat} {v : Value} (h : i ≠ j) : nth (l.set i v) j = nth l j := by rw [nth_set, if_neg (by omega)]

theorem did_other {L : Array Bool} {i j : Nat} (h : j ≠ i) : did (L.setIfInBounds i true) j = did L j := by
  by_cases hi : i < L.size
  · rw [did_set hi, decide_eq_false h, Bool.false_or]
  · rw [show L.setIfInBounds i true = L by rw [Array.setIfInBounds_eq_of_size_le (by omega)]]
theorem did_same {L : Array Bool} {i : Nat} (hi : i < L.size) : did (L.setIfInBounds i true) i = true := by rw [did_set hi]; simp

end Go.Proofs.Ytlnkflmnjkmhkaa
