/-
  slices.Clone of code and of instructions; flow.own.
-/
import Derived.Test.YtfhleldmkhllaaaFlowC
import Derived.Lib.AppendStr
namespace Go.Proofs.Ytfhleldmkhllaaa
open Go.RowKit Flow

theorem wpList_copy {P : Program} {w : World} {ops : Array Oper} {rest : List Oper} {oo : Oper} {a : Act} {Q : Exit → Act → World → Prop} (hgd : oo.guard = none) (s x : Operand) (t : TypeId)
    (ho : oo.op = .call { callee := .builtin .append, args := #[s, x], argTypes := #[t, t] })
    (base : Nat) (e : TypeId) (i : TypeInfo) (z : Value) (size bytes : Nat) (ht : P.underlying t = some (.slice e)) (hi : P.info? e = some i) (hz : i.zero = some z)
    (hsize : i.size = size) (hby : i.bytes = bytes) (hzs : z.cells.size = size) (hsz : 0 < size)
    (v : Value) (hs : a.eval s = v) (hown : w.ownsRow base e size v 0 []) (hv : v ≠ .slice none 0 0)
    (ad : Addr) (b o m c : Nat) (had : 0 < m → ad = ⟨b, o, none⟩) (hx : a.eval x = .slice (some ad) m c) (hcells : ∀ i, i < m * size → ∃ u, w.cell? ⟨b, o + i, none⟩ = some u ∧ u.oneCell' = true)
    (h63 : m ≤ maxLen) (hbytes : m * bytes ≤ 140737488355328) (hbase : base ≤ w.heap.size)
    (h : ∀ g cap w', base ≤ g → g < w'.heap.size → m ≤ cap → cap ≤ maxLen → (∃ cur, w'.heap[g]? = some (.cells cur e (0, 0)) ∧ cur.size = cap * size) → (∀ i, i < m * size → w'.cell? ⟨g, i, none⟩ = w.cell? ⟨b, o + i, none⟩) → w.grownBy w' v.ownBlock → wpList P ops Q rest (a.put oo.dst (.slice (some ⟨g, 0, none⟩) m cap)) w') : wpList P ops Q (oo :: rest) a w := by
  refine wpList_append_own w hgd s x t ho base e i z size bytes ht hi hz hsize hby hzs hsz v 0 [] hs hown ad m c (cellsAt w b o (m * size)) hx (cellsAt_len _ _ _ _) ?_ ?_ (by omega) (by rw [Nat.zero_add]; exact hbytes) hbase ?_
  · intro j u hu
    have hj : j < m * size := by
      have := (List.getElem?_eq_some_iff.1 hu).1
      rwa [cellsAt_len] at this
    obtain ⟨u', h1, -⟩ := hcells j hj
    rw [cellsAt_at hj h1] at hu
    cases hu
    have hm : 0 < m := by
      rcases Nat.eq_zero_or_pos m with q | q
      · rw [q, Nat.zero_mul] at hj; omega
      · exact q
    rw [had hm]
    have hadd : (⟨b, o, none⟩ : Addr).add j = ⟨b, o + j, none⟩ := by unfold Addr.add; split <;> simp_all
    rw [hadd]; exact h1
  · intro u hu
    obtain ⟨j, hj, rfl⟩ := List.mem_iff_getElem.1 hu
    have hj' : j < m * size := by rwa [cellsAt_len] at hj
    obtain ⟨u', h1, h2⟩ := hcells j hj'
    have := cellsAt_at hj' h1
    rw [List.getElem?_eq_getElem hj] at this
    rw [Option.some.inj this]; exact h2
  · intro v' w' h1 h2 h3
    rw [Nat.zero_add, List.nil_append] at h1
    rcases h1.2 with ⟨q, -⟩ | ⟨g, cap, cur, rfl, q2, q3, q4, q5, q6, q7⟩
    · exact absurd (h3.1 q).1 hv
    · obtain ⟨c1, c2, c3, c4, c5⟩ := copied h1
      refine h g cap w' c1 c2 c3 c4 ⟨cur, q3, q6⟩ (fun i hi => ?_) h2
      obtain ⟨u, e1, -⟩ := hcells i hi
      rw [c5 i hi, cellsAt_at hi e1, e1]

theorem own_none (w : World) (e : TypeId) (size : Nat) : (w.alloc (.cells #[] e)).ownsRow w.heap.size e size (.slice (some ⟨w.heap.size, 0, none⟩) 0 0) 0 [] := by
  refine ⟨by simp, .inr ⟨w.heap.size, 0, #[], rfl, Nat.le_refl _, ?_, Nat.le_refl _, Nat.zero_le _, by simp, by simp⟩⟩
  show (w.heap.push _)[w.heap.size]? = _
  simp

theorem NodAt.cells {w : World} {b o : Nat} {n : Nod} (h : NodAt w b o n) : ∀ i, i < 6 → ∃ u, w.cell? ⟨b, o + i, none⟩ = some u ∧ u.oneCell' = true := by
  obtain ⟨h1, h2, h3, h4, h5, h6⟩ := h
  intro i hi
  match i, hi with
  | 0, _ => exact ⟨_, h1, rfl⟩
  | 1, _ => exact ⟨_, h2, rfl⟩
  | 2, _ => exact ⟨_, h3, rfl⟩
  | 3, _ => exact ⟨_, h4, rfl⟩
  | 4, _ => exact ⟨_, h5, rfl⟩
  | 5, _ => exact ⟨_, h6, rfl⟩
theorem NodAt.move {w w' : World} {b o g p : Nat} {n : Nod} (h : NodAt w b o n) (hk : ∀ i, i < 6 → w'.cell? ⟨g, p + i, none⟩ = w.cell? ⟨b, o + i, none⟩) : NodAt w' g p n := by
  obtain ⟨h1, h2, h3, h4, h5, h6⟩ := h
  exact ⟨(hk 0 (by omega)).trans h1, (hk 1 (by omega)).trans h2, (hk 2 (by omega)).trans h3, (hk 3 (by omega)).trans h4, (hk 4 (by omega)).trans h5, (hk 5 (by omega)).trans h6⟩
theorem InsAt.cells {w : World} {X : Nat → Prop} {b o : Nat} {x : Ins} (h : InsAt w X b o x) : ∀ i, i < 5 → ∃ u, w.cell? ⟨b, o + i, none⟩ = some u ∧ u.oneCell' = true := by
  obtain ⟨h1, h2, h3, ⟨ev, h4, h5⟩, h6⟩ := h
  intro i hi
  match i, hi with
  | 0, _ => exact ⟨_, h1, rfl⟩
  | 1, _ => exact ⟨_, h2, rfl⟩
  | 2, _ => exact ⟨_, h3, rfl⟩
  | 3, _ =>
    obtain ⟨pa, ca, rfl⟩ := h5.shape
    exact ⟨_, h4, rfl⟩
  | 4, _ => exact ⟨_, h6, rfl⟩
theorem InsAt.move {w w' : World} {X Y : Nat → Prop} {b o g p : Nat} {x : Ins} (h : InsAt w X b o x) (hk : ∀ i, i < 5 → w'.cell? ⟨g, p + i, none⟩ = w.cell? ⟨b, o + i, none⟩) (hc : ∀ ev, CodeAt w X ev x.e → CodeAt w' Y ev x.e) : InsAt w' Y g p x := by
  obtain ⟨h1, h2, h3, ⟨ev, h4, h5⟩, h6⟩ := h
  exact ⟨(hk 0 (by omega)).trans h1, (hk 1 (by omega)).trans h2, (hk 2 (by omega)).trans h3, ⟨ev, (hk 3 (by omega)).trans h4, hc ev h5⟩, (hk 4 (by omega)).trans h6⟩

set_option maxRecDepth 100000 in
set_option maxHeartbeats 2000000 in
theorem cloneC_any (ev : Value) (X : Nat → Prop) (e : List Nod) (w : World) (hc : CodeAt w X ev e) (hl : e.length * 48 ≤ 140737488355328) : Calls Try.prog 12 #[ev] w fun r w' => ∃ v, r = .returned v ∧ CodeAt w' (fun b => w.heap.size ≤ b) v e ∧ Below w.heap.size w w' := by
  obtain ⟨i0, hi, hz0, hz1, hz2⟩ := info_parts infoNod
  obtain ⟨pa, ca, h1, h2, h3, h4, h5⟩ := hc
  subst h1
  cases pa with
  | none =>
    have e0 : e = [] := by
      apply Classical.byContradiction
      intro hne
      obtain ⟨b, o, q, -⟩ := h5 (List.length_pos_iff.2 hne)
      cases q
    obtain rfl := e0
    obtain rfl := h4 rfl
    have q : (Go.binOp .eql 28 (.slice none 0 0) (.slice none 0 0)).run Try.prog w = .ok (.bool true) w := Lib.run_eql_slice_nil w _ _ none 0 0 0 0 Try.underlying28
    go_enter Try.func12, Try.ntmps12
    go_wp2_with fail
    go_ret
    exact ⟨_, rfl, CodeAt.nil _ _, Below.refl _ _⟩
  | some ad =>
    obtain ⟨b, o, hsrc⟩ : ∃ b o, (0 < e.length → ad = ⟨b, o, none⟩ ∧ b < w.heap.size ∧ ∀ j, j < e.length → NodAt w b (o + j * 6) (e.getD j dN)) := by
      by_cases h0 : 0 < e.length
      · obtain ⟨b, o, q1, q2, -, q3⟩ := h5 h0
        exact ⟨b, o, fun _ => ⟨Option.some.inj q1, q2, q3⟩⟩
      · exact ⟨0, 0, fun h => absurd h h0⟩
    have q : (Go.binOp .eql 28 (.slice (some ad) e.length ca) (.slice none 0 0)).run Try.prog w = .ok (.bool false) w := Lib.run_eql_slice_nil w _ _ (some ad) _ ca 0 0 Try.underlying28
    have hB := (Below.refl w.heap.size w).alloc (Nat.le_refl _) (.cells #[] 37)
    have hcells : ∀ i, i < e.length * 6 → ∃ u, (w.alloc (.cells #[] 37)).cell? ⟨b, o + i, none⟩ = some u ∧ u.oneCell' = true := by
      intro i hi
      obtain ⟨-, g2, g3⟩ := hsrc (by omega)
      obtain ⟨u, u1, u2⟩ := (g3 (i / 6) (by omega)).cells (i % 6) (Nat.mod_lt _ (by decide))
      rw [show o + i / 6 * 6 + i % 6 = o + i by omega] at u1
      exact ⟨u, (hB.cell (p := ⟨b, o + i, none⟩) g2).trans u1, u2⟩
    have HS := Lib.hid hsrc
    have HL := Lib.hid hl
    have HCE := Lib.hid hcells
    have HCA := Lib.hid (And.intro h2 h3)
    clear hsrc h5 hl hcells h2 h3 h4
    go_enter Try.func12, Try.ntmps12
    go_wp2_with (refine wpList_copy rfl (.tmp 5) (.tmp 6) 28 rfl w.heap.size 37 i0 _ 6 48 Try.underlying28 hi hz0 hz1 hz2 rfl (by decide) (.slice (some ⟨w.heap.size, 0, none⟩) 0 0) rfl (own_none w _ _) (by simp) ad b o e.length ca (fun h => (HS.out h).1) rfl HCE.out (Nat.le_trans HCA.out.1 HCA.out.2) HL.out (by simp) ?_; intro g cap w2 k1 k2 k3 k4 k5 k6 k7; have HK := Lib.hid (And.intro k1 (And.intro k2 (And.intro k3 (And.intro k4 (And.intro k6 k7))))); clear k1 k2 k3 k4 k5 k6 k7)
    go_ret
    obtain ⟨k1, k2, k3, k4, k6, k7⟩ := HK.out
    refine ⟨_, rfl, ⟨some ⟨g, 0, none⟩, cap, rfl, k3, k4, fun h => (by cases h), fun h0 => ⟨g, 0, rfl, k2, k1, fun j hj => ?_⟩⟩, hB.grown k7 (by simp) (fun k h => by cases h; exact Nat.le_refl _)⟩
    obtain ⟨-, g2, g3⟩ := HS.out h0
    refine (g3 j hj).move fun i hi => ?_
    rw [Nat.zero_add, k6 (j * 6 + i) (by omega), ← Nat.add_assoc]
    exact hB.cell (p := ⟨b, o + j * 6 + i, none⟩) g2

/-- A row of instructions that the call owns, in block g; no code lies there. -/
def OwnG (w : World) (base g cap : Nat) (l : List Ins) : Prop :=
  base ≤ g ∧ (∃ cur, w.heap[g]? = some (.cells cur 30 (0, 0)) ∧ cur.size = cap * 5) ∧ l.length ≤ cap ∧ cap ≤ maxLen ∧ ∀ j, j < l.length → InsAt w (fun b => b ≠ g) g (j * 5) (at' l j)
theorem OwnG.lt {w : World} {base g cap : Nat} {l : List Ins} (h : OwnG w base g cap l) : g < w.heap.size := by
  obtain ⟨-, ⟨cur, h2, -⟩, -⟩ := h
  exact (Array.getElem?_eq_some_iff.1 h2).1
theorem OwnG.row {w : World} {base g cap : Nat} {l : List Ins} (h : OwnG w base g cap l) (X : Nat → Prop) (hX : ∀ b, b < w.heap.size → b ≠ g → X b) : InsRow w X (.slice (some ⟨g, 0, none⟩) l.length cap) l := by
  have hlt := h.lt
  obtain ⟨h1, -, h3, h4, h5⟩ := h
  refine ⟨_, cap, rfl, h3, h4, fun q => (by cases q), fun _ => ⟨g, 0, rfl, hlt, fun j hj => ?_⟩⟩
  rw [Nat.zero_add]
  exact (h5 j hj).keep (fun _ => rfl) (Nat.le_refl _) fun b hb hx => ⟨hX b hb hx, fun _ => rfl⟩
theorem OwnG.below {w w' : World} {base g cap : Nat} {l : List Ins} (h : OwnG w base g cap l) (hb : Below w.heap.size w w') : OwnG w' base g cap l := by
  have hlt := h.lt
  obtain ⟨h1, ⟨cur, h2, h2'⟩, h3, h4, h5⟩ := h
  exact ⟨h1, ⟨cur, (hb.block g hlt).trans h2, h2'⟩, h3, h4, fun j hj => (h5 j hj).keep (fun i => hb.cell (p := ⟨g, i, none⟩) hlt) hb.size fun b hb1 hx => ⟨hx, fun i => hb.cell (p := ⟨b, i, none⟩) hb1⟩⟩
/-- Another code in its place. -/
theorem OwnG.setE {w : World} {base g cap k : Nat} {l : List Ins} (h : OwnG w base g cap l) (hk : k < l.length) {v : Value} (hc : CodeAt w (fun b => b ≠ g) v (at' l k).e) : OwnG (w.setCell ⟨g, k * 5 + 3, none⟩ v) base g cap l := by
  have hlt := h.lt
  obtain ⟨h1, ⟨cur, h2, h2'⟩, h3, h4, h5⟩ := h
  have hother : ∀ b, b ≠ g → ∀ i, (w.setCell ⟨g, k * 5 + 3, none⟩ v).cell? ⟨b, i, none⟩ = w.cell? ⟨b, i, none⟩ := fun b hb i => World.cell?_setCell_other _ _ _ _ (fun q => hb (congrArg Addr.block q).symm)
  have hcode : ∀ ev e, CodeAt w (fun b => b ≠ g) ev e → CodeAt (w.setCell ⟨g, k * 5 + 3, none⟩ v) (fun b => b ≠ g) ev e := fun ev e he => he.keep (by simp) fun b _ hx => ⟨hx, hother b hx⟩
  refine ⟨h1, ⟨_, heap_setCell_same _ _ _ _ _ _ h2, by simpa using h2'⟩, h3, h4, fun j hj => ?_⟩
  obtain ⟨q1, q2, q3, ⟨ev, q4, q5⟩, q6⟩ := h5 j hj
  have hne : ∀ i, k * 5 + 3 ≠ i → (w.setCell ⟨g, k * 5 + 3, none⟩ v).cell? ⟨g, i, none⟩ = w.cell? ⟨g, i, none⟩ := fun i hi => World.cell?_setCell_other _ _ _ _ (fun q => hi (congrArg Addr.off q))
  refine ⟨(hne _ (by omega)).trans q1, (hne _ (by omega)).trans q2, (hne _ (by omega)).trans q3, ?_, (hne _ (by omega)).trans q6⟩
  by_cases e : j = k
  · subst e
    exact ⟨v, World.cell?_setCell_same _ _ _ q4, hcode _ _ hc⟩
  · exact ⟨ev, (hne _ (by omega)).trans q4, hcode _ _ q5⟩

def OwnI (w : World) (base : Nat) (v : Value) (l : List Ins) : Prop := (v = .slice none 0 0 ∧ l = []) ∨ ∃ g cap, v = .slice (some ⟨g, 0, none⟩) l.length cap ∧ OwnG w base g cap l

set_option maxRecDepth 100000 in
set_option maxHeartbeats 2000000 in
theorem cloneI_any (v : Value) (X : Nat → Prop) (l : List Ins) (w : World) (hc : InsRow w X v l) (hl : l.length * 56 ≤ 140737488355328) : Calls Try.prog 15 #[v] w fun r w' => ∃ v', r = .returned v' ∧ OwnI w' w.heap.size v' l ∧ Below w.heap.size w w' := by
  obtain ⟨i0, hi, hz0, hz1, hz2⟩ := info_parts infoIns
  obtain ⟨pa, ca, h1, h2, h3, h4, h5⟩ := hc
  subst h1
  cases pa with
  | none =>
    have e0 : l = [] := by
      apply Classical.byContradiction
      intro hne
      obtain ⟨b, o, q, -⟩ := h5 (List.length_pos_iff.2 hne)
      cases q
    obtain rfl := e0
    obtain rfl := h4 rfl
    have q : (Go.binOp .eql 22 (.slice none 0 0) (.slice none 0 0)).run Try.prog w = .ok (.bool true) w := Lib.run_eql_slice_nil w _ _ none 0 0 0 0 Try.underlying22
    go_enter Try.func15, Try.ntmps15
    go_wp2_with fail
    go_ret
    exact ⟨_, rfl, .inl ⟨rfl, rfl⟩, Below.refl _ _⟩
  | some ad =>
    obtain ⟨b, o, hsrc⟩ : ∃ b o, (0 < l.length → ad = ⟨b, o, none⟩ ∧ b < w.heap.size ∧ ∀ j, j < l.length → InsAt w X b (o + j * 5) (at' l j)) := by
      by_cases h0 : 0 < l.length
      · obtain ⟨b, o, q1, q2, q3⟩ := h5 h0
        exact ⟨b, o, fun _ => ⟨Option.some.inj q1, q2, q3⟩⟩
      · exact ⟨0, 0, fun h => absurd h h0⟩
    have q : (Go.binOp .eql 22 (.slice (some ad) l.length ca) (.slice none 0 0)).run Try.prog w = .ok (.bool false) w := Lib.run_eql_slice_nil w _ _ (some ad) _ ca 0 0 Try.underlying22
    have hB := (Below.refl w.heap.size w).alloc (Nat.le_refl _) (.cells #[] 30)
    have hcells : ∀ i, i < l.length * 5 → ∃ u, (w.alloc (.cells #[] 30)).cell? ⟨b, o + i, none⟩ = some u ∧ u.oneCell' = true := by
      intro i hi
      obtain ⟨-, g2, g3⟩ := hsrc (by omega)
      obtain ⟨u, u1, u2⟩ := (g3 (i / 5) (by omega)).cells (i % 5) (Nat.mod_lt _ (by decide))
      rw [show o + i / 5 * 5 + i % 5 = o + i by omega] at u1
      exact ⟨u, (hB.cell (p := ⟨b, o + i, none⟩) g2).trans u1, u2⟩
    have HS := Lib.hid hsrc
    have HL := Lib.hid hl
    have HCE := Lib.hid hcells
    have HCA := Lib.hid (And.intro h2 h3)
    clear hsrc h5 hl hcells h2 h3 h4
    go_enter Try.func15, Try.ntmps15
    go_wp2_with (refine wpList_copy rfl (.tmp 5) (.tmp 6) 22 rfl w.heap.size 30 i0 _ 5 56 Try.underlying22 hi hz0 hz1 hz2 rfl (by decide) (.slice (some ⟨w.heap.size, 0, none⟩) 0 0) rfl (own_none w _ _) (by simp) ad b o l.length ca (fun h => (HS.out h).1) rfl HCE.out (Nat.le_trans HCA.out.1 HCA.out.2) HL.out (by simp) ?_; intro g cap w2 k1 k2 k3 k4 k5 k6 k7; have HK := Lib.hid (And.intro k1 (And.intro k5 (And.intro k3 (And.intro k4 (And.intro k6 k7))))); clear k1 k2 k3 k4 k5 k6 k7)
    go_ret
    obtain ⟨k1, k2, k3, k4, k6, k7⟩ := HK.out
    have hB2 : Below w.heap.size w w2 := hB.grown k7 (by simp) (fun k h => by cases h; exact Nat.le_refl _)
    refine ⟨_, rfl, .inr ⟨g, cap, rfl, k1, k2, k3, k4, fun j hj => ?_⟩, hB2⟩
    obtain ⟨-, g2, g3⟩ := HS.out (by omega)
    refine (g3 j hj).move (fun i hi => ?_) (fun ev he => he.keep hB2.size fun b hb _ => ⟨by omega, fun i => hB2.cell (p := ⟨b, i, none⟩) hb⟩)
    rw [k6 (j * 5 + i) (by omega), ← Nat.add_assoc]
    exact hB.cell (p := ⟨b, o + j * 5 + i, none⟩) g2

set_option maxRecDepth 100000 in
set_option maxHeartbeats 4000000 in
theorem own_any (v : Value) (X : Nat → Prop) (l : List Ins) (w : World) (hc : InsRow w X v l) (hl : l.length * 56 ≤ 140737488355328) (hcl : ∀ j, j < l.length → (at' l j).e.length * 48 ≤ 140737488355328) : Calls Try.prog 9 #[v] w fun r w' => ∃ v', r = .returned v' ∧ OwnI w' w.heap.size v' l ∧ Below w.heap.size w w' := by
  have H1 := Lib.hid (cloneI_any v X l w hc hl)
  have H2 := Lib.hid cloneC_any
  have HCL := Lib.hid hcl
  clear hc hcl
  go_enter Try.func9, Try.ntmps9
  go_wp2_with fail
  refine H1.out.mono ?_
  rintro e w1 ⟨v', rfl, hO, hb1⟩
  have HB1 := Lib.hid hb1
  rcases hO with ⟨rfl, rfl⟩ | ⟨g, cap, rfl, hO⟩
  · clear hb1
    go_wp2_with fail
    go_loopw [9] (fun i wr => i = .int .i64 0 ∧ Hid (Below w.heap.size w wr)) (fun _ _ => 0)
    case atStart => exact ⟨rfl, HB1.out⟩
    case round =>
      obtain ⟨rfl, HB⟩ := hrel
      go_wp2_with fail
      go_ret
      exact ⟨_, rfl, .inl ⟨rfl, rfl⟩, HB.out⟩
  · have HO := Lib.hid hO
    clear hb1 hO
    go_wp2_with fail
    go_loopw [9] (fun i wr => ∃ k : Nat, k ≤ l.length ∧ i = .int .i64 (k : Int) ∧ Hid (OwnG wr w.heap.size g cap l) ∧ Hid (Below w.heap.size w wr)) (fun i _ => l.length - (RowKit.intOf i).toNat)
    case atStart => exact ⟨0, Nat.zero_le _, rfl, HO.out, HB1.out⟩
    case round =>
      obtain ⟨k, hk, rfl, HG, HB⟩ := hrel
      by_cases hlt : k < l.length
      · have hgl := HG.out.lt
        have HC2 := Lib.hid (HCL.out k hlt)
        obtain ⟨g1, ⟨cur, g2, g2'⟩, g3, g4, g5⟩ := HG.out
        obtain ⟨c0, c1, c2, ⟨ev, c3, c4⟩, c5⟩ := g5 k hlt
        have HCE := Lib.hid (H2.out ev _ _ wr c4 HC2.out)
        obtain ⟨pe, ce, rfl⟩ := c4.shape
        have hki : (k : Int) < (l.length : Int) := by omega
        have hfz : wr.frozen? ⟨g, k * 5 + 3, none⟩ = false := by simp [World.frozen?, g2]
        clear c4 g5 g1 g3 g4 g2' c0 c1 c2 c5
        go_wp2_with (first | (go_at_call 12; (with_reducible refine HCE.out.mono ?_); rintro e1 w2 ⟨v2, rfl, hc2, hb2⟩; obtain ⟨p2, ca2, rfl⟩ := hc2.shape; have y2 := (hb2.block g hgl).trans g2; have d3 : w2.cell? ⟨g, k * 5 + 3, none⟩ = some (.slice pe (at' l k).e.length ce) := ((hb2.cell (p := ⟨g, k * 5 + 3, none⟩) hgl).trans c3); have dz : w2.frozen? ⟨g, k * 5 + 3, none⟩ = false := (by simp [World.frozen?, y2]); have HC := Lib.hid hc2; have HB2 := Lib.hid hb2; clear hc2 hb2 y2))
        refine ⟨⟨k + 1, hlt, rfl, ?_, ?_⟩, by simp only [RowKit.intOf]; omega⟩
        · exact (HG.out.below HB2.out).setE hlt (HC.out.weak fun b _ hx => by omega)
        · exact (HB.out.trans (HB2.out.mono HB.out.size)).setCell (by show w.heap.size ≤ g; exact HG.out.1) _
      · obtain rfl : k = l.length := by omega
        go_wp2_with fail
        go_ret
        exact ⟨_, rfl, .inr ⟨g, cap, rfl, HG.out⟩, HB.out⟩

end Go.Proofs.Ytfhleldmkhllaaa
