/-
  Lemmas, joined: RefB2, RefB3.
-/
import Derived.Test.YtlnkflmnjkmhkaaJR05
import Derived.Test.YtlnkflmnjkmhkaaJR09
import Derived.Test.YtlnkflmnjkmhkaaJR06
import Derived.Deep.DeepCutAuto
/-
  Contract of the reference's node.
-/
namespace Go.Proofs.Ytlnkflmnjkmhkaa
open Go.RowKit Go.Maps

/-- Behind a call the reference's store is s'; beside its blocks nothing that was has changed. -/
def ToRef (b : Nat) (O : Nat → Prop) (w : World) (s' : BS) (w' : World) : Prop := ∃ O', IsRef w' b O' s' ∧ Ext O O' w w'
def RetR (b : Nat) (O : Nat → Prop) (w : World) (r : BS × Int) (e : Ending) (w' : World) : Prop := e = .returned (.int .i64 r.2) ∧ ToRef b O w r.1 w'

def nodeR (s : BS) (t : T3) : BS × Int := if t.b = t.c ∨ s.full = true then (s, t.b) else ((node1 s t).1, (node1 s t).2.getD 0)

variable {w w' : World} {b : Nat} {O : Nat → Prop} {s : BS}

theorem IsRef.setFull (h : IsRef w b O s) : IsRef (w.setCell ⟨b, 2, none⟩ (.bool true)) b O { s with full := true } := by
  obtain ⟨v, c0, c1, c2, f, own, hnb, hO, rest⟩ := h
  have e : ∀ j, j ≠ 2 → (w.setCell ⟨b, 2, none⟩ (.bool true)).cell? ⟨b, j, none⟩ = w.cell? ⟨b, j, none⟩ := fun j hj => World.cell?_setCell_other _ _ _ _ (by intro h; cases h; exact hj rfl)
  exact ⟨v, (e 0 (by omega)).trans c0, (e 1 (by omega)).trans c1, World.cell?_setCell_same _ _ _ c2, fun j => by rw [World.frozen?_setCell]; exact f j, own_setCell own hnb _, hnb, hO, rest⟩

theorem IsRef.push {w3 : World} {v' : Value} {t : T3} (h : IsRef w b O s) (hB : Below w.heap.size w w3) (hown : w3.ownsRow w.heap.size 149 3 v' (s.nodes.length + 1) (flat3 s.nodes ++ [.int .i64 t.a, .int .i64 t.b, .int .i64 t.c])) (hw : t.wf) (hcap : s.nodes.length < s.cap) :
    ∃ O', IsRef (w3.setCell ⟨b, 1, none⟩ v') b O' { s with nodes := s.nodes ++ [t] } ∧ Ext O O' w (w3.setCell ⟨b, 1, none⟩ v') := by
  have hlt := h.lt
  obtain ⟨v, c0, c1, c2, f, own, hnb, hO, hc1, hc2, hc3⟩ := h
  have hbl : b < w.heap.size := (cell_there c0).1
  have hvb : v'.ownBlock ≠ some b := fun e => by have := (hown.lt b e).1; omega
  have e : ∀ j, j ≠ 1 → (w3.setCell ⟨b, 1, none⟩ v').cell? ⟨b, j, none⟩ = w.cell? ⟨b, j, none⟩ := fun j hj => (World.cell?_setCell_other _ _ _ _ (by intro h; cases h; exact hj rfl)).trans (hB.cell (p := ⟨b, j, none⟩) hbl)
  have hk : ∀ k, k < w.heap.size → ¬ O k → (w3.setCell ⟨b, 1, none⟩ v').heap[k]? = w.heap[k]? := fun k hk hO' => by
    rw [Below.heap_setCell w3 ⟨b, 1, none⟩ v' k (fun e => hO' ((hO k).2 (.inl e)))]
    exact hB.block k hk
  refine ⟨fun k => k = b ∨ v'.ownBlock = some k, ⟨v', (e 0 (by omega)).trans c0, World.cell?_setCell_same _ _ _ ((hB.cell (p := ⟨b, 1, none⟩) hbl).trans c1), (e 2 (by omega)).trans c2, fun j => by rw [World.frozen?_setCell]; exact (hB.frozen (p := ⟨b, j, none⟩) hbl).trans (f j), ?_, hvb, fun k => Iff.rfl, hc1, ?_, ?_⟩, ⟨⟨hB.os, hB.tape, hB.output, by simpa [World.setCell] using hB.size, hk⟩, ?_⟩⟩
  · show World.ownsRow _ _ _ _ _ (s.nodes ++ [t]).length (flat3 (s.nodes ++ [t]))
    rw [flat3_append, List.length_append]
    exact own_setCell (ownsRow_mono hown (Nat.zero_le _)) hvb v'
  · simp; omega
  · intro u hu
    rcases List.mem_append.1 hu with h1 | h1
    · exact hc3 u h1
    · simp at h1; subst h1; exact hw
  · rintro k (rfl | hk')
    · exact .inl ((hO _).2 (.inl rfl))
    · exact .inr (hown.lt k hk').1

/-- append of a row of nodes to a row of the call's own. -/
theorem append_nodes {w : World} {ops : Array Oper} {rest : List Oper} {o : Oper} {a : Act} {Q : Exit → Act → World → Prop} (hgd : o.guard = none) (s x : Operand)
    (ho : o.op = .call { callee := .builtin .append, args := #[s, x], argTypes := #[29, 29] })
    (base : Nat) (v : Value) (n : Nat) (zs : List Value) (hs : a.eval s = v) (hown : w.ownsRow base 149 3 v n zs)
    (vx : Value) (b0 m : Nat) (xs : List T3) (hx : a.eval x = vx) (hv : w.ownsRow b0 149 3 vx m (flat3 xs)) (hl : n + m ≤ 2000000) (hbase : base ≤ w.heap.size)
    (h : ∀ v' w', w'.ownsRow base 149 3 v' (n + m) (zs ++ flat3 xs) → w.grownBy w' v.ownBlock → wpList Try.prog ops Q rest (a.put o.dst v') w') : wpList Try.prog ops Q (o :: rest) a w := by
  obtain ⟨i0, hi, hz0, hz1, hz2⟩ := info_parts Try.infoBranchy
  have hv' := hv
  obtain ⟨hlen, ⟨h1, h2⟩ | ⟨g, cap, cur, h1, h2, h3, h4, h5, h6, h7⟩⟩ := hv
  · subst h2
    have hxs : flat3 xs = [] := List.eq_nil_of_length_eq_zero (by simpa using hlen)
    rw [h1] at hx
    refine wpList_append_own_none hgd s x _ ho base 149 i0 3 Try.underlying29 hi v _ _ hs hown hx ?_
    exact h v w (by rw [hxs]; simpa using hown) (grownBy_none ⟨rfl, rfl, rfl, Nat.le_refl _, fun _ _ _ => rfl⟩ _)
  · subst h1
    have hc := hv'.cells (g := g) rfl
    refine wpList_append_own _ hgd s x _ ho base 149 i0 (.agg #[.int .i64 0, .int .i64 0, .int .i64 0]) 3 24 Try.underlying29 hi hz0 hz1 hz2 rfl (by decide) v _ _ hs hown ⟨g, 0, none⟩ m cap (flat3 xs) hx (by simpa using hlen) hc ?_ (by unfold maxLen; omega) (by omega) hbase ?_
    · intro u hu
      simp only [flat3, List.mem_flatMap] at hu
      obtain ⟨t, -, ht⟩ := hu
      simp at ht
      rcases ht with rfl | rfl | rfl <;> rfl
    · intro v' w' h1 h2 _
      exact h v' w' h1 h2

theorem own_empty3 (w : World) : (w.alloc (.cells #[] 149)).ownsRow w.heap.size 149 3 (.slice (some ⟨w.heap.size, 0, none⟩) 0 0) 0 [] := by
  refine ⟨rfl, .inr ⟨w.heap.size, 0, #[], rfl, Nat.le_refl _, ?_, Nat.le_refl _, Nat.zero_le _, rfl, rfl⟩⟩
  show (w.heap.push _)[w.heap.size]? = _
  simp

theorem byOf_at {l : List T3} {t : T3} {k : Nat} (h : l[k]? = some t) (hn : ∀ j u, j < k → l[j]? = some u → u ≠ t) : byOf l t = some ((k : Int) + 2) := by
  unfold byOf
  have : l.idxOf? t = some k := by
    rw [List.idxOf?, List.findIdx?_eq_some_iff_getElem]
    obtain ⟨h1, h2⟩ := List.getElem?_eq_some_iff.1 h
    refine ⟨h1, by rw [h2]; simp, fun j hj => ?_⟩
    have := hn j l[j] hj (List.getElem?_eq_getElem (by omega))
    simpa using this
  rw [this]
  simp
theorem byOf_not {l : List T3} {t : T3} (hn : ∀ j u, j < l.length → l[j]? = some u → u ≠ t) : byOf l t = none := by
  unfold byOf
  have : l.idxOf? t = none := by
    rw [List.idxOf?, List.findIdx?_eq_none_iff]
    intro x hx
    obtain ⟨j, hj, rfl⟩ := List.getElem_of_mem hx
    have := hn j _ hj (List.getElem?_eq_getElem hj)
    simpa using this
  rw [this]
  rfl

theorem t3_ne {u t : T3} (h : (u.a == t.a && (u.b == t.b && u.c == t.c)) = false) : u ≠ t := by
  rintro rfl
  simp at h

set_option maxRecDepth 100000 in
set_option maxHeartbeats 400000 in
theorem node_ref0 (b : Nat) (O : Nat → Prop) (s : BS) (v lo hi : Int) (w : World) (hs : IsRef w b O s) (h0 : lo = hi ∨ s.full = true) :
    Calls Try.prog 126 #[.pointer (some ⟨b, 0, none⟩), .int .i64 v, .int .i64 lo, .int .i64 hi] w fun e w' => e = .returned (.int .i64 lo) ∧ w = w' := by
  obtain ⟨vn, c0, c1, c2, fz, own, hnb, hO, hcp1, hcp2, -⟩ := hs
  clear c0 c1 fz own hnb hO hcp1 hcp2
  by_cases he : lo = hi
  · subst he
    clear h0
    go_enter Try.func126, Try.ntmps126
    go_wp2
    go_ret
    exact ⟨rfl, rfl⟩
  · have hf : s.full = true := by rcases h0 with h | h; exact absurd h he; exact h
    rw [hf] at c2
    have hb : (lo == hi) = false := by rw [beq_eq_false_iff_ne]; exact he
    clear h0 hf he
    go_enter Try.func126, Try.ntmps126
    go_wp2
    go_ret
    exact ⟨rfl, rfl⟩

set_option maxRecDepth 100000 in
set_option maxHeartbeats 1600000 in
theorem node_ref1 (b : Nat) (O : Nat → Prop) (s : BS) (v lo hi : Int) (w : World) (hs : IsRef w b O s) (hne : ¬ lo = hi) (hf : s.full = false) (hw : (⟨v, lo, hi⟩ : T3).wf) :
    Calls Try.prog 126 #[.pointer (some ⟨b, 0, none⟩), .int .i64 v, .int .i64 lo, .int .i64 hi] w (RetR b O w ((node1 s ⟨v, lo, hi⟩).1, (node1 s ⟨v, lo, hi⟩).2.getD 0)) := by
  have HS := Lib.hid hs
  have HW := Lib.hid hw
  have hb : (lo == hi) = false := by rw [beq_eq_false_iff_ne]; exact hne
  have HNE := Lib.hid hne
  obtain ⟨vn, c0, c1, c2, fz, own, hnb, hO, hcp1, hcp2, -⟩ := hs
  rw [hf] at c2
  have HF := Lib.hid hf
  have HOWN := Lib.hid own
  obtain ⟨pn, cn, rfl, hln⟩ := own_shape own
  have fz1 := fz 1
  have fz2 := fz 2
  have hl : s.nodes.length ≤ 1048576 := by omega
  have hbl := (cell_there c0).1
  clear own hnb hO hf hw hne fz hln
  go_enter Try.func126, Try.ntmps126
  go_wp2_with fail
  go_loop [9] (fun i => ∃ k : Nat, k ≤ s.nodes.length ∧ i = .int .i64 k ∧ Hid (∀ j u, j < k → s.nodes[j]? = some u → u ≠ ⟨v, lo, hi⟩)) (fun i => s.nodes.length - (intOf i).toNat)
  case atStart => exact ⟨0, Nat.zero_le _, rfl, fun j u hj => by omega⟩
  case round =>
    obtain ⟨k, hk, rfl, HN⟩ := hrel
    by_cases hlt : k < s.nodes.length
    · obtain ⟨g, cn', t, ht, c1', hcn, hle, n0, n1, n2⟩ := HS.out.node k hlt
      have HT := Lib.hid ht
      rw [c1] at c1'
      simp only [Option.some.injEq, Value.slice.injEq, true_and] at c1'
      obtain ⟨rfl, rfl⟩ := c1'
      clear ht
      obtain ⟨ta, tb, tc⟩ := t
      simp only at n0 n1 n2
      have HNX : Hid ((ta == v && (tb == lo && tc == hi)) = false → ∀ j u, j < k + 1 → s.nodes[j]? = some u → u ≠ ⟨v, lo, hi⟩) := fun hh j u hj hu => by
        by_cases e : j = k
        · subst e; rw [HT.out] at hu; cases hu; exact t3_ne hh
        · exact HN.out j u (by omega) hu
      by_cases q0 : ta = v
      · by_cases q1 : tb = lo
        · by_cases q2 : tc = hi
          · subst q0 q1 q2
            have HE : Hid (node1 s ⟨ta, tb, tc⟩ = (s, some ((k : Int) + 2))) := by
              show _ = _
              unfold node1
              rw [if_neg HNE.out, byOf_at HT.out HN.out]
            clear HN HNX HT hb
            go_wp2
            go_ret
            exact ⟨by rw [HE.out]; rfl, O, by rw [HE.out]; exact HS.out, Ext.refl _ _⟩
          · have z2 : (tc == hi) = false := by rw [beq_eq_false_iff_ne]; exact q2
            subst q0 q1
            have HX : Hid (∀ j u, j < k + 1 → s.nodes[j]? = some u → u ≠ ⟨ta, tb, hi⟩) := HNX.out (by rw [z2]; simp)
            clear HN HNX HT q2 hb
            go_wp2
            go_round
            case rel => exact ⟨k + 1, by omega, by go_num, HX⟩
            case measure => simp [intOf]; omega
        · have z1 : (tb == lo) = false := by rw [beq_eq_false_iff_ne]; exact q1
          subst q0
          have HX : Hid (∀ j u, j < k + 1 → s.nodes[j]? = some u → u ≠ ⟨ta, lo, hi⟩) := HNX.out (by rw [z1]; simp)
          clear HN HNX HT q1 hb
          go_wp2
          go_round
          case rel => exact ⟨k + 1, by omega, by go_num, HX⟩
          case measure => simp [intOf]; omega
      · have z0 : (ta == v) = false := by rw [beq_eq_false_iff_ne]; exact q0
        have HX : Hid (∀ j u, j < k + 1 → s.nodes[j]? = some u → u ≠ ⟨v, lo, hi⟩) := HNX.out (by rw [z0]; simp)
        clear HN HNX HT q0 hb
        go_wp2
        go_round
        case rel => exact ⟨k + 1, by omega, by go_num, HX⟩
        case measure => simp [intOf]; omega
    · obtain rfl : k = s.nodes.length := by omega
      have HBY : Hid (byOf s.nodes ⟨v, lo, hi⟩ = none) := byOf_not HN.out
      clear HN
      by_cases hcap : s.nodes.length = s.cap
      · have HE : Hid (node1 s ⟨v, lo, hi⟩ = ({ s with full := true }, none)) := by
          show _ = _
          unfold node1
          rw [if_neg HNE.out, HBY.out]
          simp only
          rw [if_pos hcap]
        rw [hcap] at c1
        go_wp2_with fail
        go_quiet (fail)
        go_wp2_with fail
        go_ret
        exact ⟨by rw [HE.out]; rfl, O, by rw [HE.out]; exact (HS.out.below (below_drewN (Below.refl _ _) _)).setFull, (Keeps.of_below (below_drewN (Below.refl _ _) _)).setCell HS.out.hasB _, fun _ h => .inl h⟩
      · have hlc : s.nodes.length < s.cap := by omega
        have HE : Hid (node1 s ⟨v, lo, hi⟩ = ({ s with nodes := s.nodes ++ [⟨v, lo, hi⟩] }, some ((s.nodes.length + 2 : Nat) : Int))) := by
          show _ = _
          unfold node1
          rw [if_neg HNE.out, HBY.out]
          simp only
          rw [if_neg hcap]
        obtain ⟨i0, hi0, hz0, hz1, hz2⟩ := info_parts Try.infoBranchy
        clear hcap c2 fz2
        go_wp2_with fail
        go_quiet (fail)
        have hownE := own_empty3 (w.drewN nq)
        have hownS : ((w.drewN nq).alloc (.cells #[] 149)).ownsRow 0 149 3 (.slice pn s.nodes.length cn) s.nodes.length (flat3 s.nodes) := own_below HOWN.out ((below_drewN (Below.refl w.heap.size w) nq).alloc (Nat.le_refl _) _)
        have yE : ((w.drewN nq).alloc (.cells #[] 149)).cell? ⟨b, 1, none⟩ = some (.slice pn s.nodes.length cn) := (World.cell?_alloc_lt (w.drewN nq) _ ⟨b, 1, none⟩ hbl).trans c1
        go_wp2_with (first
          | (at_builtin; refine append_nodes rfl (.tmp 79) (.tmp 83) rfl w.heap.size _ 0 [] rfl hownE _ 0 s.nodes.length s.nodes rfl hownS (by omega) (by simp) ?_; intro v1 w1 hown1 hgrow1; have hb1 : Below w.heap.size w w1 := ((below_drewN (Below.refl w.heap.size w) nq).alloc (Nat.le_refl _) _).grown hgrow1 (by simp) (fun k h => by cases h; exact Nat.le_refl _); have hs1 := hb1.size)
          | (at_builtin; refine wpList_append_own _ rfl (.tmp 84) (.tmp 89) 29 rfl w.heap.size 149 i0 (.agg #[.int .i64 0, .int .i64 0, .int .i64 0]) 3 24 Try.underlying29 hi0 hz0 hz1 hz2 rfl (by decide) _ _ _ rfl (hown1.alloc _) ⟨w1.heap.size, 0, none⟩ 1 1 [.int .i64 v, .int .i64 lo, .int .i64 hi] rfl rfl (cell_three_new _ _ _ _ _) (ints_oneCell .i64 [v, lo, hi]) (by unfold maxLen; omega) (by omega) (by simp; omega) ?_; intro v2 w2 hown2 hgrow2 _; obtain ⟨p2, cn2, rfl, hln2⟩ := own_shape hown2; have hb2 : Below w.heap.size w w2 := (hb1.alloc hs1 _).grown hgrow2 (by simp; omega) (fun k h => (hown1.lt k h).1); have y1 : ∃ x, w2.cell? ⟨b, 1, none⟩ = some x := ⟨_, (hb2.cell (p := ⟨b, 1, none⟩) hbl).trans c1⟩; obtain ⟨y1x, y1⟩ := y1; have y2 : w2.frozen? ⟨b, 1, none⟩ = false := (hb2.frozen (p := ⟨b, 1, none⟩) hbl).trans fz1; have HPU := Lib.hid (HS.out.push (t := ⟨v, lo, hi⟩) hb2 (by simpa using hown2) HW.out hlc)))
        obtain ⟨O', hp1, hp2⟩ := HPU.out
        have HP1 := Lib.hid hp1
        have HP2 := Lib.hid hp2
        clear hp1 hp2
        go_ret
        exact ⟨by rw [HE.out]; rfl, O', by rw [HE.out]; exact HP1.out, HP2.out⟩

end Go.Proofs.Ytlnkflmnjkmhkaa

/-
  Contract of the reference's ite: Ite's plain law.
-/
namespace Go.Proofs.Ytlnkflmnjkmhkaa
open Go.RowKit Go.Maps

theorem ToRef.pre {b : Nat} {O O' : Nat → Prop} {w w1 w' : World} {s : BS} (h : ToRef b O' w1 s w') (he : Ext O O' w w1) : ToRef b O w s w' := by
  obtain ⟨O'', h1, h2⟩ := h
  exact ⟨O'', h1, he.trans h2⟩

/-- How a call of ite ends: what is told counts only if the store is not full. -/
def GivesR (b : Nat) (O : Nat → Prop) (w : World) (X : BS × Option Int) (e : Ending) (w' : World) : Prop := ∃ r, e = .returned (.int .i64 r) ∧ (∀ i, X.2 = some i → r = i) ∧ ToRef b O w X.1 w'
theorem GivesR.pre {b : Nat} {O O' : Nat → Prop} {w w1 w' : World} {X : BS × Option Int} {e : Ending} (h : GivesR b O' w1 X e w') (he : Ext O O' w w1) : GivesR b O w X e w' := by
  obtain ⟨r, h1, h2, h3⟩ := h
  exact ⟨r, h1, h2, h3.pre he⟩

theorem node1_none {s : BS} {t : T3} (h : (node1 s t).2 = none) : (node1 s t).1.full = true := by
  unfold node1 at *
  split at h
  · cases h
  · rename_i e
    rw [if_neg e]
    split at h
    · cases h
    · rename_i e2
      split at h
      · rename_i e3
        rw [if_pos e3]
      · cases h
theorem iteP_none : ∀ (f : Nat) (s : BS) (c a b : Int) (X : BS × Option Int), iteP f s c a b = some X → X.2 = none → X.1.full = true := by
  intro f
  induction f with
  | zero => intro s c a b X h; simp [iteP] at h
  | succ f ih =>
    intro s c a b X h hn
    rw [iteP] at h
    split at h
    · cases h; cases hn
    split at h
    · cases h; cases hn
    split at h
    · cases h; cases hn
    split at h
    · cases h
    · rename_i s1 e1
      cases h
      exact ih _ _ _ _ _ e1 rfl
    · split at h
      · cases h
      · rename_i s2 e2
        cases h
        exact ih _ _ _ _ _ e2 rfl
      · cases h
        exact node1_none hn

def IteRAt (f : Nat) : Prop := ∀ (b : Nat) (O : Nat → Prop) (s : BS) (c a d : Int) (X : BS × Option Int) (w : World), IsRef w b O s → s.full = false → Ord s.nodes → Is s.nodes c → Is s.nodes a → Is s.nodes d → iteP f s c a d = some X →
  Calls Try.prog 150 #[.pointer (some ⟨b, 0, none⟩), .int .i64 c, .int .i64 a, .int .i64 d] w (GivesR b O w X)

set_option maxRecDepth 100000 in
set_option maxHeartbeats 400000 in
theorem iteR_full (b : Nat) (O : Nat → Prop) (s : BS) (c a d : Int) (w : World) (hs : IsRef w b O s) (hf : s.full = true) :
    Calls Try.prog 150 #[.pointer (some ⟨b, 0, none⟩), .int .i64 c, .int .i64 a, .int .i64 d] w fun e w' => e = .returned (.int .i64 0) ∧ w = w' := by
  obtain ⟨vn, c0, c1, c2, fz, own, hnb, hO, hcp1, hcp2, -⟩ := hs
  rw [hf] at c2
  clear c0 c1 fz own hnb hO hcp1 hcp2 hf
  go_enter Try.func150, Try.ntmps150
  go_wp2
  go_ret
  exact ⟨rfl, rfl⟩

set_option maxRecDepth 100000 in
set_option maxHeartbeats 800000 in
theorem iteR_plain (b : Nat) (O : Nat → Prop) (s : BS) (c a d r : Int) (w : World) (hs : IsRef w b O s) (hf : s.full = false) (h : ((c = 1 ∨ a = d) ∧ r = a) ∨ (¬ (c = 1 ∨ a = d) ∧ c = 0 ∧ r = d) ∨ (¬ (c = 1 ∨ a = d) ∧ ¬ c = 0 ∧ (a = 1 ∧ d = 0) ∧ r = c)) :
    Calls Try.prog 150 #[.pointer (some ⟨b, 0, none⟩), .int .i64 c, .int .i64 a, .int .i64 d] w fun e w' => e = .returned (.int .i64 r) ∧ w = w' := by
  obtain ⟨vn, c0, c1, c2, fz, own, hnb, hO, hcp1, hcp2, -⟩ := hs
  rw [hf] at c2
  clear c0 c1 fz own hnb hO hcp1 hcp2 hf
  rcases h with ⟨h, rfl⟩ | ⟨h1, rfl, rfl⟩ | ⟨h1, h2, ⟨rfl, rfl⟩, rfl⟩
  · by_cases hc : c = 1
    · subst hc
      clear h
      go_enter Try.func150, Try.ntmps150
      go_wp2
      go_ret
      exact ⟨rfl, rfl⟩
    · have q1 : (c == 1) = false := by rw [beq_eq_false_iff_ne]; exact hc
      have had : r = d := by rcases h with h | h; exact absurd h hc; exact h
      subst had
      clear h hc
      go_enter Try.func150, Try.ntmps150
      go_wp2
      go_ret
      exact ⟨rfl, rfl⟩
  · have q2 : (a == r) = false := by rw [beq_eq_false_iff_ne]; omega
    clear h1
    go_enter Try.func150, Try.ntmps150
    go_wp2
    go_ret
    exact ⟨rfl, rfl⟩
  · have q1 : (r == 1) = false := by rw [beq_eq_false_iff_ne]; omega
    have q2 : (r == 0) = false := by rw [beq_eq_false_iff_ne]; omega
    clear h1 h2
    go_enter Try.func150, Try.ntmps150
    go_wp2
    go_ret
    exact ⟨rfl, rfl⟩

set_option maxRecDepth 100000 in
set_option maxHeartbeats 3000000 in
theorem iteR_step (f : Nat) (ih : Hid (IteRAt f)) (b : Nat) (O : Nat → Prop) (s : BS) (c a d : Int) (X : BS × Option Int) (w : World) (hs : IsRef w b O s) (hf : s.full = false) (ho : Ord s.nodes)
    (hc : Is s.nodes c) (ha : Is s.nodes a) (hd : Is s.nodes d) (hX : iteP (f + 1) s c a d = some X) (h1 : ¬ (c = 1 ∨ a = d)) (h2 : ¬ c = 0) (h3 : ¬ (a = 1 ∧ d = 0)) :
    Calls Try.prog 150 #[.pointer (some ⟨b, 0, none⟩), .int .i64 c, .int .i64 a, .int .i64 d] w (GivesR b O w X) := by
  have q1 : (c == 1) = false := by rw [beq_eq_false_iff_ne]; omega
  have q2 : (a == d) = false := by rw [beq_eq_false_iff_ne]; omega
  have q3 : (c == 0) = false := by rw [beq_eq_false_iff_ne]; omega
  have hmin := min3_lt ho hc h1 h2
  have q5 : ((a == 1) = true ∧ (d == 0) = false) ∨ (a == 1) = false := by
    by_cases e : a = 1
    · exact .inl ⟨by simpa using e, by rw [beq_eq_false_iff_ne]; omega⟩
    · exact .inr (by rw [beq_eq_false_iff_ne]; exact e)
  obtain ⟨tc, htc⟩ : ∃ tc, tc = topP s.nodes c := ⟨_, rfl⟩
  obtain ⟨ta, hta⟩ : ∃ ta, ta = topP s.nodes a := ⟨_, rfl⟩
  obtain ⟨td, htd⟩ : ∃ td, td = topP s.nodes d := ⟨_, rfl⟩
  obtain ⟨v, hv⟩ : ∃ v, v = min3 s.nodes c a d := ⟨_, rfl⟩
  have hvm : v = min (min tc ta) td := by rw [hv, htc, hta, htd]; rfl
  rw [← hv] at hmin
  have hv64 := hmin.1
  have hv0 := hmin.2.2.2.2
  have HTC : Hid (Calls Try.prog 155 #[.pointer (some ⟨b, 0, none⟩), .int .i64 c] w fun e w' => e = .returned (.int .i64 tc) ∧ w = w') := by rw [htc]; exact top_ref b O s c w hs hc
  have HTA : Hid (Calls Try.prog 155 #[.pointer (some ⟨b, 0, none⟩), .int .i64 a] w fun e w' => e = .returned (.int .i64 ta) ∧ w = w') := by rw [hta]; exact top_ref b O s a w hs ha
  have HTD : Hid (Calls Try.prog 155 #[.pointer (some ⟨b, 0, none⟩), .int .i64 d] w fun e w' => e = .returned (.int .i64 td) ∧ w = w') := by rw [htd]; exact top_ref b O s d w hs hd
  have HL : Hid (∀ x, Is s.nodes x → Calls Try.prog 156 #[.pointer (some ⟨b, 0, none⟩), .int .i64 x, .int .i64 v, .bool false] w fun e w' => e = .returned (.int .i64 (loP s.nodes x v)) ∧ w = w') := fun x hx => part_ref b O s x v false w hs hx hv64
  have HC := Lib.hid hc
  have HA := Lib.hid ha
  have HD := Lib.hid hd
  have HO := Lib.hid ho
  have HX := Lib.hid hX
  have HB := Lib.hid hs
  have HV := Lib.hid hv
  have HF := Lib.hid hf
  have HM : Hid (v ≤ topP s.nodes c ∧ v ≤ topP s.nodes a ∧ v ≤ topP s.nodes d) := ⟨hmin.2.1, hmin.2.2.1, hmin.2.2.2.1⟩
  have HN : Hid (¬ (c = 1 ∨ a = d) ∧ ¬ c = 0 ∧ ¬ (a = 1 ∧ d = 0)) := ⟨h1, h2, h3⟩
  have HVM := Lib.hid hvm
  have HLC : Hid (Is s.nodes (loP s.nodes c v) ∧ v < topP s.nodes (loP s.nodes c v)) := loP_is HO.out HC.out hv64 HM.out.1
  have HLA : Hid (Is s.nodes (loP s.nodes a v) ∧ v < topP s.nodes (loP s.nodes a v)) := loP_is HO.out HA.out hv64 HM.out.2.1
  have HLD : Hid (Is s.nodes (loP s.nodes d v) ∧ v < topP s.nodes (loP s.nodes d v)) := loP_is HO.out HD.out hv64 HM.out.2.2
  have HHC : Hid (Is s.nodes (hiP s.nodes c v) ∧ v < topP s.nodes (hiP s.nodes c v)) := hiP_is HO.out HC.out hv64 HM.out.1
  have HHA : Hid (Is s.nodes (hiP s.nodes a v) ∧ v < topP s.nodes (hiP s.nodes a v)) := hiP_is HO.out HA.out hv64 HM.out.2.1
  have HHD : Hid (Is s.nodes (hiP s.nodes d v) ∧ v < topP s.nodes (hiP s.nodes d v)) := hiP_is HO.out HD.out hv64 HM.out.2.2
  have HSTEP : Hid (Steps f s X v (loP s.nodes c v) (loP s.nodes a v) (loP s.nodes d v) (hiP s.nodes c v) (hiP s.nodes a v) (hiP s.nodes d v)) := steps_of HX.out HN.out.1 HN.out.2.1 HN.out.2.2 HV.out
  have HH : Hid (∀ s1 O1 W x, Grew s s1 → IsRef W b O1 s1 → Is s.nodes x → Calls Try.prog 156 #[.pointer (some ⟨b, 0, none⟩), .int .i64 x, .int .i64 v, .bool true] W fun e w' => e = .returned (.int .i64 (hiP s.nodes x v)) ∧ W = w') := fun s1 O1 W x hg hW hx => by
    have h := part_ref b O1 s1 x v true W hW (hg.is hx).1 hv64
    obtain ⟨m, hm⟩ := hg.nodes
    have e : partP s1.nodes x v true = hiP s.nodes x v := by
      show hiP s1.nodes x v = _
      rw [hm, hiP_mono hx hv64]
    rw [e] at h
    exact h
  obtain ⟨vn, c0, c1, c2, fz, own, hnb, hOO, hcp1, hcp2, -⟩ := hs
  rw [hf] at c2
  clear c0 c1 fz own hnb hOO hcp1 hcp2
  clear hc ha hd ho hX h1 h2 h3 hv htc hta htd hvm hf
  go_enter Try.func150, Try.ntmps150
  go_upto_region 7 with fail
  go_cut [32] (fun x wx => x = .bool false ∧ wx = w)
  case first =>
    rcases q5 with ⟨q5, q6⟩ | q5
    all_goals
      go_wp2_with fail
      go_meet
      exact ⟨rfl, rfl⟩
  obtain ⟨rfl, rfl⟩ := hcut
  clear q5
  go_upto_if 41 with (first
    | ((with_reducible refine HTC.out.mono ?_); rintro e w1 ⟨rfl, rfl⟩)
    | ((with_reducible refine HTA.out.mono ?_); rintro e w1 ⟨rfl, rfl⟩))
  go_cut [9] (fun x wx => x = .int .i64 (min tc ta) ∧ wx = wc)
  case first =>
    by_cases p1 : ta < tc
    · go_wp2_with ((with_reducible refine HTA.out.mono ?_); rintro e w1 ⟨rfl, rfl⟩)
      go_meet
      exact ⟨by rw [show min tc ta = ta by omega], rfl⟩
    · go_wp2_with fail
      go_meet
      exact ⟨by rw [show min tc ta = tc by omega], rfl⟩
  obtain ⟨rfl, rfl⟩ := hcut
  have HME : Hid (v = min (min tc ta) td) := HVM.out
  clear hmin
  generalize min tc ta = tm at *
  go_upto_if 49 with ((with_reducible refine HTD.out.mono ?_); rintro e w1 ⟨rfl, rfl⟩)
  go_cut [9] (fun x wx => x = .int .i64 v ∧ wx = wc)
  case first =>
    have hme := HME.out
    by_cases p1 : td < tm
    · have e1 : v = td := by omega
      clear hme
      go_wp2_with ((with_reducible refine HTD.out.mono ?_); rintro e w1 ⟨rfl, rfl⟩)
      go_meet
      exact ⟨by rw [e1], rfl⟩
    · have e1 : v = tm := by omega
      clear hme
      go_wp2_with fail
      go_meet
      exact ⟨by rw [e1], rfl⟩
  obtain ⟨rfl, rfl⟩ := hcut
  clear HTC HTA HTD HME HVM
  go_wp2_with (first
    | ((with_reducible refine (HL.out c HC.out).mono ?_); rintro e w1 ⟨rfl, rfl⟩)
    | ((with_reducible refine (HL.out a HA.out).mono ?_); rintro e w1 ⟨rfl, rfl⟩)
    | ((with_reducible refine (HL.out d HD.out).mono ?_); rintro e w1 ⟨rfl, rfl⟩))
  rcases HSTEP.out with ⟨s1, e1, rfl⟩ | ⟨s1, lo, e1, hrest⟩
  · have E1 := Lib.hid e1
    have G1 := Lib.hid (iteP_ok f s (loP s.nodes c v) (loP s.nodes a v) (loP s.nodes d v) _ HO.out HLC.out.1 HLA.out.1 HLD.out.1 e1).1
    have F1 : Hid (s1.full = true) := iteP_none f s _ _ _ _ e1 rfl
    clear e1 HSTEP
    refine (ih.out b O s (loP s.nodes c v) (loP s.nodes a v) (loP s.nodes d v) (s1, none) wc HB.out HF.out HO.out HLC.out.1 HLA.out.1 HLD.out.1 E1.out).mono ?_
    rintro e w4 ⟨r, rfl, -, O4, h41, h42⟩
    have H41 : Hid (IsRef w4 b O4 s1) := h41
    have H42 := Lib.hid h42
    clear h41 h42
    go_wp2_with (first
      | (go_at_call 156; (with_reducible refine (HH.out s1 O4 w4 c G1.out H41.out HC.out).mono ?_); rintro e w1 ⟨rfl, rfl⟩)
      | (go_at_call 156; (with_reducible refine (HH.out s1 O4 w4 a G1.out H41.out HA.out).mono ?_); rintro e w1 ⟨rfl, rfl⟩)
      | (go_at_call 156; (with_reducible refine (HH.out s1 O4 w4 d G1.out H41.out HD.out).mono ?_); rintro e w1 ⟨rfl, rfl⟩)
      | (go_at_call 150; (with_reducible refine (iteR_full b O4 s1 (hiP s.nodes c v) (hiP s.nodes a v) (hiP s.nodes d v) w4 H41.out F1.out).mono ?_); rintro e w1 ⟨rfl, rfl⟩)
      | (go_at_call 126; (with_reducible refine (node_ref0 b O4 s1 v r 0 w4 H41.out (.inr F1.out)).mono ?_); rintro e w1 ⟨rfl, rfl⟩))
    go_ret
    exact ⟨_, rfl, (fun i h => by cases h), O4, H41.out, H42.out⟩
  · have E1 := Lib.hid e1
    obtain ⟨g1, k1⟩ := iteP_ok f s (loP s.nodes c v) (loP s.nodes a v) (loP s.nodes d v) _ HO.out HLC.out.1 HLA.out.1 HLD.out.1 e1
    obtain ⟨k11, k12, k13, k14⟩ := k1 lo rfl
    have G1 : Hid (Grew s s1) := g1
    have K1 : Hid (s1.full = false ∧ Is s1.nodes lo) := ⟨k11.trans HF.out, k12⟩
    have HR := Lib.hid hrest
    clear e1 k1 k11 k12 k13 k14 hrest g1 HSTEP
    refine (ih.out b O s (loP s.nodes c v) (loP s.nodes a v) (loP s.nodes d v) (s1, some lo) wc HB.out HF.out HO.out HLC.out.1 HLA.out.1 HLD.out.1 E1.out).mono ?_
    rintro e w4 ⟨r, rfl, hr, O4, h41, h42⟩
    obtain rfl : r = lo := hr lo rfl
    have H41 : Hid (IsRef w4 b O4 s1) := h41
    have H42 := Lib.hid h42
    clear h41 h42 hr
    go_wp2_with (first
      | (go_at_call 156; (with_reducible refine (HH.out s1 O4 w4 c G1.out H41.out HC.out).mono ?_); rintro e w1 ⟨rfl, rfl⟩)
      | (go_at_call 156; (with_reducible refine (HH.out s1 O4 w4 a G1.out H41.out HA.out).mono ?_); rintro e w1 ⟨rfl, rfl⟩)
      | (go_at_call 156; (with_reducible refine (HH.out s1 O4 w4 d G1.out H41.out HD.out).mono ?_); rintro e w1 ⟨rfl, rfl⟩))
    rcases HR.out with ⟨s2, e2, rfl⟩ | ⟨s2, hi, e2, hx⟩
    · have E2 := Lib.hid e2
      have F2 : Hid (s2.full = true) := iteP_none f s1 _ _ _ _ e2 rfl
      clear e2 HR
      refine (ih.out b O4 s1 (hiP s.nodes c v) (hiP s.nodes a v) (hiP s.nodes d v) (s2, none) w4 H41.out K1.out.1 G1.out.ord (G1.out.is HHC.out.1).1 (G1.out.is HHA.out.1).1 (G1.out.is HHD.out.1).1 E2.out).mono ?_
      rintro e w5 ⟨r', rfl, -, O5, h51, h52⟩
      have H51 : Hid (IsRef w5 b O5 s2) := h51
      have H52 := Lib.hid h52
      clear h51 h52
      go_wp2_with (first
        | (go_at_call 126; (with_reducible refine (node_ref0 b O5 s2 v r r' w5 H51.out (.inr F2.out)).mono ?_); rintro e w1 ⟨rfl, rfl⟩))
      go_ret
      exact ⟨_, rfl, (fun i h => by cases h), O5, H51.out, H42.out.trans H52.out⟩
    · have E2 := Lib.hid e2
      obtain ⟨g2, k2⟩ := iteP_ok f s1 (hiP s.nodes c v) (hiP s.nodes a v) (hiP s.nodes d v) _ G1.out.ord (G1.out.is HHC.out.1).1 (G1.out.is HHA.out.1).1 (G1.out.is HHD.out.1).1 e2
      obtain ⟨k21, k22, k23, k24⟩ := k2 hi rfl
      have G2 : Hid (Grew s1 s2) := g2
      have K2 : Hid (s2.full = false ∧ Is s2.nodes hi) := ⟨k21.trans K1.out.1, k22⟩
      have HXX := Lib.hid hx
      clear e2 k2 k21 k22 k23 k24 g2 hx HR
      refine (ih.out b O4 s1 (hiP s.nodes c v) (hiP s.nodes a v) (hiP s.nodes d v) (s2, some hi) w4 H41.out K1.out.1 G1.out.ord (G1.out.is HHC.out.1).1 (G1.out.is HHA.out.1).1 (G1.out.is HHD.out.1).1 E2.out).mono ?_
      rintro e w5 ⟨r', rfl, hr', O5, h51, h52⟩
      obtain rfl : r' = hi := hr' hi rfl
      have H51 : Hid (IsRef w5 b O5 s2) := h51
      have H5 : Hid (Ext O O5 wc w5) := H42.out.trans h52
      clear h51 h52 hr'
      have hwf : (⟨v, r, r'⟩ : T3).wf := ⟨WalkArith.wf_i64 (n := v) (by omega), is_wf (G2.out.is K1.out.2).1 H51.out.len.1, is_wf K2.out.2 H51.out.len.1⟩
      have HND : Hid (Calls Try.prog 126 #[.pointer (some ⟨b, 0, none⟩), .int .i64 v, .int .i64 r, .int .i64 r'] w5 (GivesR b O5 w5 X)) := by
        show Calls _ _ _ _ _
        rw [HXX.out]
        by_cases e : r = r'
        · refine (node_ref0 b O5 s2 v r r' w5 H51.out (.inl e)).mono ?_
          rintro e' w' ⟨rfl, rfl⟩
          have en : node1 s2 ⟨v, r, r'⟩ = (s2, some r) := by unfold node1; rw [if_pos e]
          rw [en]
          exact ⟨r, rfl, (fun i h => by cases h; rfl), O5, H51.out, Ext.refl _ _⟩
        · refine (node_ref1 b O5 s2 v r r' w5 H51.out e K2.out.1 hwf).mono ?_
          rintro e' w' ⟨h1, h2⟩
          exact ⟨_, h1, (fun i h => by rw [h]; rfl), h2⟩
      clear hwf
      go_wp2_with (first
        | (go_at_call 126; (with_reducible refine HND.out.mono ?_); rintro e w6 ⟨r6, rfl, h6, h7⟩))
      have H6 : Hid (GivesR b O wc X (.returned (.int .i64 r6)) w6) := ⟨r6, rfl, h6, h7.pre H5.out⟩
      clear h6 h7
      go_ret
      exact H6.out


theorem iteR_at : ∀ f, IteRAt f := by
  intro f
  induction f with
  | zero => intro b O s c a d X w _ _ _ _ _ _ h; simp [iteP] at h
  | succ f ih =>
    intro b O s c a d X w hs hf ho hc ha hd hX
    have done : ∀ (r : Int), (Calls Try.prog 150 #[.pointer (some ⟨b, 0, none⟩), .int .i64 c, .int .i64 a, .int .i64 d] w fun e w' => e = .returned (.int .i64 r) ∧ w = w') → X = (s, some r) → Calls Try.prog 150 #[.pointer (some ⟨b, 0, none⟩), .int .i64 c, .int .i64 a, .int .i64 d] w (GivesR b O w X) := by
      rintro r h rfl
      exact h.mono fun e w' ⟨p1, p2⟩ => ⟨r, p1, (fun i h => by cases h; rfl), O, by rw [← p2]; exact hs, by rw [← p2]; exact Ext.refl _ _⟩
    by_cases h1 : c = 1 ∨ a = d
    · rw [iteP, if_pos h1] at hX
      cases hX
      exact done a (iteR_plain b O s c a d a w hs hf (.inl ⟨h1, rfl⟩)) rfl
    · by_cases h2 : c = 0
      · rw [iteP, if_neg h1, if_pos h2] at hX
        cases hX
        exact done d (iteR_plain b O s c a d d w hs hf (.inr (.inl ⟨h1, h2, rfl⟩))) rfl
      · by_cases h3 : a = 1 ∧ d = 0
        · rw [iteP, if_neg h1, if_neg h2, if_pos h3] at hX
          cases hX
          exact done c (iteR_plain b O s c a d c w hs hf (.inr (.inr ⟨h1, h2, h3, rfl⟩))) rfl
        · exact iteR_step f (Lib.hid ih) b O s c a d X w hs hf ho hc ha hd hX h1 h2 h3

end Go.Proofs.Ytlnkflmnjkmhkaa
