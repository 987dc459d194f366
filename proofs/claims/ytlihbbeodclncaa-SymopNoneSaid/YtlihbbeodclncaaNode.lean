/-
  Contracts of (*Store).node.
-/
import Derived.Test.YtlihbbeodclncaaBdd
import Derived.Deep.RegionLaw
namespace Go.Proofs.Ytlihbbeodclncaa
open Go.RowKit Go.Maps

theorem own_shape {w : World} {base e size n : Nat} {v : Value} {xs : List Value} (h : w.ownsRow base e size v n xs) : ∃ p c, v = .slice p n c ∧ n ≤ maxLen := by
  obtain ⟨-, h | ⟨g, cap, cur, h1, h2, h3, h4, h5, h6⟩⟩ := h
  · exact ⟨none, 0, by rw [h.1, h.2], by rw [h.2]; exact Nat.zero_le _⟩
  · exact ⟨_, _, h1, by omega⟩

theorem step_append_own {P : Program} {ops : Array Oper} {o : Oper} {a : Act} {w : World} {K : Act → World → Prop} {Q : Exit → Act → World → Prop} {E : Prop}
    (hgd : o.guard = none) (s x : Operand) (t : TypeId)
    (ho : o.op = .call { callee := .builtin .append, args := #[s, x], argTypes := #[t, t] })
    (base : Nat) (e : TypeId) (i : TypeInfo) (z : Value) (size bytes : Nat) (ht : P.underlying t = some (.slice e)) (hi : P.info? e = some i) (hz : i.zero = some z)
    (hsize : i.size = size) (hby : i.bytes = bytes) (hzs : z.cells.size = size) (hsz : 0 < size)
    (v : Value) (n : Nat) (xs : List Value) (hs : a.eval s = v) (hown : w.ownsRow base e size v n xs)
    (ad : Addr) (m c : Nat) (news : List Value) (hx : a.eval x = .slice (some ad) m c) (hl : news.length = m * size) (hnews : ∀ j u, news[j]? = some u → w.cell? (ad.add j) = some u) (h1 : ∀ u ∈ news, u.oneCell' = true)
    (h63 : n + m ≤ maxLen) (hbytes : (n + m) * bytes ≤ 140737488355328) (hbase : base ≤ w.heap.size)
    (h : ∀ v' w', w'.ownsRow base e size v' (n + m) (xs ++ news) → w.grownBy w' v.ownBlock → (v' = .slice none 0 0 ↔ v = .slice none 0 0 ∧ m = 0) → K (a.put o.dst v') w') :
    if Region.wanted o (yielded ops a.tmps) = true then Oper.wp P o a w K Q else E := by
  have hw : Region.wanted o (yielded ops a.tmps) = true := by simp [Region.wanted, hgd]
  rw [if_pos hw]
  exact wp_append_own w s x t ho base e i z size bytes ht hi hz hsize hby hzs hsz v n xs hs hown ad m c news hx hl hnews h1 h63 hbytes hbase h

theorem ownsRow_mono {w : World} {base base' e size n : Nat} {v : Value} {xs : List Value} (h : w.ownsRow base e size v n xs) (hb : base' ≤ base) : w.ownsRow base' e size v n xs := by
  obtain ⟨hl, h⟩ := h
  refine ⟨hl, ?_⟩
  rcases h with h | ⟨g, cap, cur, h1, h2, h3⟩
  · exact .inl h
  · exact .inr ⟨g, cap, cur, h1, by omega, h3⟩
theorem grownBy_none {w w' : World} (h : w.grownBy w' none) (row : Option Nat) : w.grownBy w' row := ⟨h.os, h.tape, h.output, h.size, fun i hi _ => h.block i hi (by simp)⟩

/-- append to a row of the call's own: where the new row lies: in the old block, or in a new one. -/
theorem step_append_two {P : Program} {ops : Array Oper} {o : Oper} {a : Act} {w : World} {K : Act → World → Prop} {Q : Exit → Act → World → Prop} {E : Prop}
    (hgd : o.guard = none) (s x : Operand) (t : TypeId)
    (ho : o.op = Op.call { callee := Callee.builtin Builtin.append, args := #[s, x], argTypes := #[t, t] })
    (e : TypeId) (i : TypeInfo) (z : Value) (size bytes : Nat) (ht : P.underlying t = some (.slice e)) (hi : P.info? e = some i) (hz : i.zero = some z)
    (hsize : i.size = size) (hby : i.bytes = bytes) (hzs : z.cells.size = size) (hsz : 0 < size)
    (v : Value) (n : Nat) (xs : List Value) (hs : a.eval s = v) (hown : w.ownsRow 0 e size v n xs)
    (ad : Addr) (m c : Nat) (news : List Value) (hx : a.eval x = .slice (some ad) m c) (hl : news.length = m * size) (hnews : ∀ j u, news[j]? = some u → w.cell? (ad.add j) = some u) (h1 : ∀ u ∈ news, u.oneCell' = true)
    (h63 : n + m ≤ maxLen) (hbytes : (n + m) * bytes ≤ 140737488355328)
    (h : ∀ v' w', w'.ownsRow 0 e size v' (n + m) (xs ++ news) → w.grownBy w' v.ownBlock → (v'.ownBlock = v.ownBlock ∨ ∀ k, v'.ownBlock = some k → w.heap.size ≤ k) → K (a.put o.dst v') w') :
    if Region.wanted o (yielded ops a.tmps) = true then Oper.wp P o a w K Q else E := by
  have hw : Region.wanted o (yielded ops a.tmps) = true := by simp [Region.wanted, hgd]
  rw [if_pos hw]
  have hown' := hown
  obtain ⟨hlx, hsh⟩ := hown
  rcases hsh with ⟨rfl, rfl⟩ | ⟨g, cap, cur, rfl, hg0, hg1, hg2, hg3, hg4, hg5⟩
  · have hxs : xs = [] := List.eq_nil_of_length_eq_zero (by simpa using hlx)
    subst hxs
    obtain ⟨v', w', hrun, r1, r2, _⟩ := run_append_own (P := P) w w.heap.size t o.type e i z size bytes ht hi hz hsize hby hzs hsz (.slice none 0 0) 0 [] (World.ownsRow_nil w _ e size) ad m c news hl hnews h1 h63 hbytes (Nat.le_refl _)
    unfold Oper.wp
    simp [execOp, ho, resolve, invoke, builtin, hs, hx, hrun, Result.andThen]
    exact h v' w' (ownsRow_mono r1 (Nat.zero_le _)) r2 (.inr fun k hk => (r1.lt k hk).1)
  · by_cases hroom : n + m ≤ cap
    · obtain ⟨w', hrun, r1, r2⟩ := run_append_fits (P := P) w 0 t o.type e i size ht hi hsize g n cap xs hown' ad m c news hl hnews h1 hroom
      unfold Oper.wp
      simp [execOp, ho, resolve, invoke, builtin, hs, hx, hrun, Result.andThen]
      exact h _ w' r1 r2 (.inl rfl)
    · obtain ⟨v', w', hrun, r1, r2⟩ := run_append_arg_grows (P := P) w t o.type e i z size bytes ht hi hz hsize hby hzs hsz ⟨g, 0, none⟩ n cap xs (by simpa using hlx) (hown'.cells rfl) ad m c news hl hnews (by omega) h63 hbytes
      unfold Oper.wp
      simp [execOp, ho, resolve, invoke, builtin, hs, hx, hrun, Result.andThen]
      exact h v' w' (ownsRow_mono r1 (Nat.zero_le _)) (grownBy_none r2 _) (.inr fun k hk => (r1.lt k hk).1)

theorem cell_three_new (w : World) (a b c : Value) (t : TypeId) : ∀ j u, [a, b, c][j]? = some u → (w.alloc (.cells #[a, b, c] t)).cell? ((⟨w.heap.size, 0, none⟩ : Addr).add j) = some u := by
  intro j u h
  match j, h with
  | 0, h => simp at h; subst h; simp [Addr.add, go_sem]
  | 1, h => simp at h; subst h; simp [Addr.add, go_sem]
  | 2, h => simp at h; subst h; simp [Addr.add, go_sem]

set_option maxHeartbeats 400000 in
theorem node_same (b : Nat) (v lo : Int) (w : World) :
    Calls Try.prog 28 #[.pointer (some ⟨b, 0, none⟩), .int .i64 v, .int .i64 lo, .int .i64 lo] w (RetInt w lo) := by
  go_enter Try.func28, Try.ntmps28
  go_wp2
  go_ret
  exact ⟨rfl, (by repeat (first | exact Below.refl _ _ | assumption | refine Below.drew ?_ | refine Below.alloc ?_ (by first | omega | (simp <;> omega)) _ | refine Below.setCell ?_ (by first | omega | (simp <;> omega)) _ | refine Below.trans ?_ (Below.mono (by assumption) (by first | omega | (simp <;> omega)))))⟩

set_option maxHeartbeats 400000 in
theorem node_found (b : Nat) (O : Nat → Prop) (s : BS) (told : T3 → Option Int) (v lo hi i : Int) (w : World) (hs : IsBdd w b O s told) (hne : (lo == hi) = false) (hw : (⟨v, lo, hi⟩ : T3).wf) (hby : byOf s.nodes ⟨v, lo, hi⟩ = some i) :
    Calls Try.prog 28 #[.pointer (some ⟨b, 0, none⟩), .int .i64 v, .int .i64 lo, .int .i64 hi] w (RetInt w i) := by
  have hX := hs.below (w' := w.alloc (.cells #[.int .i64 v, .int .i64 lo, .int .i64 hi] 80)) (by repeat (first | exact Below.refl _ _ | assumption | refine Below.drew ?_ | refine Below.alloc ?_ (by first | omega | (simp <;> omega)) _ | refine Below.setCell ?_ (by first | omega | (simp <;> omega)) _ | refine Below.trans ?_ (Below.mono (by assumption) (by first | omega | (simp <;> omega)))))
  obtain ⟨vn, m1, m2, c0, c1, c2, c3, c4, f, own, hm12, hnb, hm1, hm2, hO, -⟩ := hX
  have hlk : ∀ nq, (Instr.lookup 50 (.map (some m1)) (.agg #[.int .i64 v, .int .i64 lo, .int .i64 hi]) true).run Try.prog ((w.alloc (.cells #[.int .i64 v, .int .i64 lo, .int .i64 hi] 80)).drewN nq) = .ok (.tuple #[.int .i64 i, .bool true]) ((w.alloc (.cells #[.int .i64 v, .int .i64 lo, .int .i64 hi] 80)).drewN nq) := by
    intro nq
    have h := IMap.look (P := Try.prog) (T := 50) (k := 80) (e := 3) (w := (w.alloc (.cells #[.int .i64 v, .int .i64 lo, .int .i64 hi] 80)).drewN nq) (m := m1) (hm1.kept rfl) keyedBranchy (fun t ht => keyOf_branchy ht) Try.underlying50 (zeroInt _) (t := ⟨v, lo, hi⟩) hw
    rw [hby] at h
    exact h
  clear f own hm12 hnb hm1 hm2 hO c0 c1 c3 c4 hs hby hw
  go_enter Try.func28, Try.ntmps28
  go_wp2_with fail
  go_quiet (fail)
  go_wp2_with fail
  go_ret
  exact ⟨rfl, below_drewN (by repeat (first | exact Below.refl _ _ | assumption | refine Below.drew ?_ | refine Below.alloc ?_ (by first | omega | (simp <;> omega)) _ | refine Below.setCell ?_ (by first | omega | (simp <;> omega)) _ | refine Below.trans ?_ (Below.mono (by assumption) (by first | omega | (simp <;> omega))))) _⟩

theorem IsBdd.setFull {w : World} {b : Nat} {O : Nat → Prop} {s : BS} {told : T3 → Option Int} (h : IsBdd w b O s told) : IsBdd (w.setCell ⟨b, 4, none⟩ (.bool true)) b O { s with full := true } told := by
  obtain ⟨v, m1, m2, c0, c1, c2, c3, c4, f, own, hne, hnb, hm1, hm2, hO, rest⟩ := h
  have hk : ∀ k, k ≠ b → (w.setCell ⟨b, 4, none⟩ (.bool true)).heap[k]? = w.heap[k]? := fun k hk => Below.heap_setCell w ⟨b, 4, none⟩ _ k hk
  have e : ∀ j, j ≠ 4 → (w.setCell ⟨b, 4, none⟩ (.bool true)).cell? ⟨b, j, none⟩ = w.cell? ⟨b, j, none⟩ := fun j hj => World.cell?_setCell_other _ _ _ _ (by intro h; cases h; exact hj rfl)
  have hb1 : m1 ≠ b := fun e => by
    obtain ⟨es, clock, h1, -⟩ := hm1
    rw [e] at h1
    simp [World.cell?, h1] at c0
  have hb2 : m2 ≠ b := fun e => by
    obtain ⟨es, clock, h1, -⟩ := hm2
    rw [e] at h1
    simp [World.cell?, h1] at c0
  refine ⟨v, m1, m2, (e 0 (by omega)).trans c0, (e 1 (by omega)).trans c1, (e 2 (by omega)).trans c2, (e 3 (by omega)).trans c3, World.cell?_setCell_same _ _ _ c4, fun j => by rw [World.frozen?_setCell]; exact f j, ?_, hne, hnb,
    hm1.kept (hk m1 hb1), hm2.kept (hk m2 hb2), hO, rest⟩
  obtain ⟨hl, h⟩ := own
  refine ⟨hl, ?_⟩
  rcases h with h | ⟨g, cap, cur, h1, h2, h3, h4⟩
  · exact .inl h
  · exact .inr ⟨g, cap, cur, h1, h2, (hk g (fun e => hnb (by rw [h1, e]; rfl))).trans h3, h4⟩

theorem Keeps.setCell {O : Nat → Prop} {w w' : World} (h : Keeps O w w') {b j : Nat} (hb : O b) (x : Value) : Keeps O w (w'.setCell ⟨b, j, none⟩ x) :=
  ⟨h.os, h.tape, h.output, by simpa [World.setCell] using h.size, fun k hk hO => (Below.heap_setCell w' ⟨b, j, none⟩ x k (fun e => hO (by rw [e]; exact hb))).trans (h.block k hk hO)⟩

/-- The panic of a store that is full. -/
def overV : Value := .iface 77 (.agg #[])

set_option maxHeartbeats 400000 in
theorem node_over (b : Nat) (O : Nat → Prop) (s : BS) (told : T3 → Option Int) (v lo hi : Int) (w : World) (hs : IsBdd w b O s told) (hne : (lo == hi) = false) (hw : (⟨v, lo, hi⟩ : T3).wf) (hby : byOf s.nodes ⟨v, lo, hi⟩ = none) (hcap : s.nodes.length = s.cap) :
    Calls Try.prog 28 #[.pointer (some ⟨b, 0, none⟩), .int .i64 v, .int .i64 lo, .int .i64 hi] w fun e w' => e = .panicked [{ v := overV, recovered := false }] ∧ IsBdd w' b O { s with full := true } told ∧ Keeps O w w' := by
  have hX := hs.below (w' := w.alloc (.cells #[.int .i64 v, .int .i64 lo, .int .i64 hi] 80)) (by repeat (first | exact Below.refl _ _ | assumption | refine Below.drew ?_ | refine Below.alloc ?_ (by first | omega | (simp <;> omega)) _ | refine Below.setCell ?_ (by first | omega | (simp <;> omega)) _ | refine Below.trans ?_ (Below.mono (by assumption) (by first | omega | (simp <;> omega)))))
  have HX := Lib.hid hX
  have hbO : Hid (O b) := (by obtain ⟨vn, m1, m2, c0, c1, c2, c3, c4, f, own, hm12, hnb, hm1, hm2, hO, -⟩ := hs; exact (hO b).2 (.inl rfl))
  obtain ⟨vn, m1, m2, c0, c1, c2, c3, c4, f, own, hm12, hnb, hm1, hm2, hO, hcp1, hcp2, -⟩ := hX
  have hlk : ∀ nq, (Instr.lookup 50 (.map (some m1)) (.agg #[.int .i64 v, .int .i64 lo, .int .i64 hi]) true).run Try.prog ((w.alloc (.cells #[.int .i64 v, .int .i64 lo, .int .i64 hi] 80)).drewN nq) = .ok (.tuple #[.int .i64 0, .bool false]) ((w.alloc (.cells #[.int .i64 v, .int .i64 lo, .int .i64 hi] 80)).drewN nq) := by
    intro nq
    have h := IMap.look (P := Try.prog) (T := 50) (k := 80) (e := 3) (w := (w.alloc (.cells #[.int .i64 v, .int .i64 lo, .int .i64 hi] 80)).drewN nq) (m := m1) (hm1.kept rfl) keyedBranchy (fun t ht => keyOf_branchy ht) Try.underlying50 (zeroInt _) (t := ⟨v, lo, hi⟩) hw
    rw [hby] at h
    exact h
  obtain ⟨pn, cn, rfl, hln⟩ := own_shape own
  rw [hcap] at c1
  clear own hm12 hnb hm1 hm2 hO c3 hs hby hw
  have f4 := f 4
  clear f hcap
  go_enter Try.func28, Try.ntmps28
  go_wp2_with fail
  go_quiet (fail)
  go_wp2_with fail
  go_quiet (fail)
  go_wp2_with fail
  exact ⟨rfl, rfl, (HX.out.below (below_drewN (Below.refl _ _) _)).setFull, (Keeps.of_below (below_drewN (by repeat (first | exact Below.refl _ _ | assumption | refine Below.drew ?_ | refine Below.alloc ?_ (by first | omega | (simp <;> omega)) _ | refine Below.setCell ?_ (by first | omega | (simp <;> omega)) _ | refine Below.trans ?_ (Below.mono (by assumption) (by first | omega | (simp <;> omega))))) _)).setCell hbO.out _⟩

end Go.Proofs.Ytlihbbeodclncaa
