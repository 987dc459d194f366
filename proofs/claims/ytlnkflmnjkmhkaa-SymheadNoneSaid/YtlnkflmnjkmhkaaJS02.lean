/-
  Lemmas, joined: Node2, Made.
-/
import Derived.Test.YtlnkflmnjkmhkaaJS01
/-
  Contract of (*Store).node where a node is new.
-/
namespace Go.Proofs.Ytlnkflmnjkmhkaa
open Go.RowKit Go.Maps

theorem IsBdd.unfrozen {w : World} {b : Nat} {O : Nat → Prop} {s : BS} {told : T3 → Option Int} (h : IsBdd w b O s told) (j : Nat) : w.frozen? ⟨b, j, none⟩ = false ∧ b < w.heap.size := by
  have hl := h.lt
  obtain ⟨v, m1, m2, c0, c1, c2, c3, c4, f, own, hne, hnb, hm1, hm2, hO, rest⟩ := h
  exact ⟨f j, hl b ((hO b).2 (.inl rfl))⟩
theorem fz1 {w w1 : World} {b : Nat} {O : Nat → Prop} {s : BS} {told : T3 → Option Int} {row : Option Nat} {o : Obj} (hg : (w.alloc o).drew.grownBy w1 row) (h : IsBdd w b O s told) (hne : some b ≠ row) : w1.frozen? ⟨b, 1, none⟩ = false := by
  obtain ⟨h1, h2⟩ := h.unfrozen 1
  have e : w1.heap[b]? = w.heap[b]? := (hg.block b (by show b < (w.alloc o).heap.size; simp; omega) hne).trans (Below.heap_alloc w o b h2)
  exact (World.frozen?_of_block (a := ⟨b, 1, none⟩) e).trans h1

theorem byOf_append {l : List T3} {t : T3} (h : byOf l t = none) : byOf (l ++ [t]) = upd3 (byOf l) t ((l.length + 2 : Nat) : Int) := by
  have hn : t ∉ l := by
    unfold byOf at h
    simpa [List.idxOf?_eq_none_iff] using h
  have h0 : l.findIdx? (· == t) = none := by
    rw [List.findIdx?_eq_none_iff]
    intro x hx
    simp only [beq_eq_false_iff_ne]
    exact fun e => hn (e ▸ hx)
  funext s
  unfold byOf upd3
  by_cases e : s = t
  · subst e
    rw [if_pos rfl]
    have : (l ++ [s]).idxOf? s = some l.length := by
      simp only [List.idxOf?, List.findIdx?_append, h0]
      simp [List.findIdx?_cons]
    rw [this]
    rfl
  · rw [if_neg e]
    have : (l ++ [t]).idxOf? s = l.idxOf? s := by
      have e2 : ¬ t = s := fun h => e h.symm
      simp only [List.idxOf?, List.findIdx?_append]
      simp [List.findIdx?_cons, e2]
    rw [this]

/-- Behind the append and the map's store the store holds one node more. -/
theorem push_world {X w1 w2 : World} {b : Nat} {O : Nat → Prop} {s : BS} {told : T3 → Option Int} {vn v' : Value} {m1 : Nat} {o : Obj} {t : T3} (hX : IsBdd X b O s told)
    (e1 : X.cell? ⟨b, 1, none⟩ = some vn) (e2 : X.cell? ⟨b, 2, none⟩ = some (.map (some m1)))
    (hg1 : (X.alloc o).drew.grownBy w1 vn.ownBlock) (hwh : v'.ownBlock = vn.ownBlock ∨ ∀ k, v'.ownBlock = some k → (X.alloc o).drew.heap.size ≤ k)
    (hown : w1.ownsRow 0 149 3 v' (s.nodes.length + 1) (flat3 s.nodes ++ [.int .i64 t.a, .int .i64 t.b, .int .i64 t.c]))
    (hg2 : (w1.setCell ⟨b, 1, none⟩ v').drew.grownBy w2 (some m1)) (him : IMap w2 m1 (upd3 (byOf s.nodes) t ((s.nodes.length + 2 : Nat) : Int)))
    (hby : byOf s.nodes t = none) (hw : t.wf) (hcap : s.nodes.length < s.cap) :
    ∃ O', IsBdd w2 b O' { s with nodes := s.nodes ++ [t] } told ∧ Ext O O' X w2 := by
  have hlt := hX.lt
  obtain ⟨vx, m1x, m2, c0, c1, c2, c3, c4, f, own, hm12, hnb, hm1, hm2, hO, hc1, hc2, hc3, hc4⟩ := hX
  rw [e1] at c1
  cases c1
  rw [e2] at c2
  cases c2
  have hbO : O b := (hO b).2 (.inl rfl)
  have hbX := hlt b hbO
  have hm1X := hm1.lt
  have hm2X := hm2.lt
  have hAs : (X.alloc o).drew.heap.size = X.heap.size + 1 := by show (X.alloc o).heap.size = _; simp
  have hA : ∀ k, k < X.heap.size → (X.alloc o).drew.heap[k]? = X.heap[k]? := fun k hk => Below.heap_alloc X o k hk
  have h1 : ∀ k, k < X.heap.size → vn.ownBlock ≠ some k → w1.heap[k]? = X.heap[k]? := fun k hk hne => (hg1.block k (by omega) (fun e => hne e.symm)).trans (hA k hk)
  have hs1 : X.heap.size + 1 ≤ w1.heap.size := by have := hg1.size; omega
  have hs2 : w1.heap.size ≤ w2.heap.size := by have := hg2.size; simpa [World.setCell] using this
  have h2 : ∀ k, k < w1.heap.size → k ≠ b → k ≠ m1 → w2.heap[k]? = w1.heap[k]? := fun k hk hb hm => by
    have e := hg2.block k (by simpa [World.setCell] using hk) (fun e => hm (Option.some.inj e))
    rw [e]
    exact Below.heap_setCell w1 ⟨b, 1, none⟩ v' k hb
  have hbm : b ≠ m1 := fun e => by
    obtain ⟨es, clock, q1, -⟩ := hm1
    rw [← e] at q1
    simp [World.cell?, q1] at c0
  have hbm2 : b ≠ m2 := fun e => by
    obtain ⟨es, clock, q1, -⟩ := hm2
    rw [← e] at q1
    simp [World.cell?, q1] at c0
  have hcells : ∀ j, j ≠ 1 → w2.cell? ⟨b, j, none⟩ = X.cell? ⟨b, j, none⟩ := fun j hj => by
    have q1 : w2.cell? ⟨b, j, none⟩ = (w1.setCell ⟨b, 1, none⟩ v').cell? ⟨b, j, none⟩ := World.cell?_of_block (a := ⟨b, j, none⟩) (hg2.block b (by simpa [World.setCell] using (by omega : b < w1.heap.size)) (fun e => hbm (Option.some.inj e)))
    rw [q1, World.cell?_setCell_other _ _ _ _ (by intro h; cases h; exact hj rfl)]
    exact World.cell?_of_block (a := ⟨b, j, none⟩) (h1 b hbX hnb)
  have hcell1 : w2.cell? ⟨b, 1, none⟩ = some v' := by
    have q1 : w2.cell? ⟨b, 1, none⟩ = (w1.setCell ⟨b, 1, none⟩ v').cell? ⟨b, 1, none⟩ := World.cell?_of_block (a := ⟨b, 1, none⟩) (hg2.block b (by simpa [World.setCell] using (by omega : b < w1.heap.size)) (fun e => hbm (Option.some.inj e)))
    rw [q1]
    exact World.cell?_setCell_same _ _ _ ((World.cell?_of_block (a := ⟨b, 1, none⟩) (h1 b hbX hnb)).trans e1)
  have hfz : ∀ j, w2.frozen? ⟨b, j, none⟩ = false := fun j => by
    have q1 : w2.frozen? ⟨b, j, none⟩ = (w1.setCell ⟨b, 1, none⟩ v').frozen? ⟨b, j, none⟩ := World.frozen?_of_block (a := ⟨b, j, none⟩) (hg2.block b (by simpa [World.setCell] using (by omega : b < w1.heap.size)) (fun e => hbm (Option.some.inj e)))
    rw [q1, World.frozen?_setCell]
    exact (World.frozen?_of_block (a := ⟨b, j, none⟩) (h1 b hbX hnb)).trans (f j)
  have hvb : v'.ownBlock ≠ some b := fun e => by
    rcases hwh with h | h
    · exact hnb (h ▸ e)
    · have := h b e; omega
  have hvm : v'.ownBlock ≠ some m1 := fun e => by
    obtain ⟨-, hh⟩ := hown
    rcases hh with ⟨hh, -⟩ | ⟨g, cap, cur, hh1, -, hh2, -⟩
    · rw [hh] at e; cases e
    · rw [hh1] at e
      simp [Value.ownBlock] at e
      subst e
      have hne : vn.ownBlock ≠ some g := fun e => by
        obtain ⟨-, hv⟩ := own
        rcases hv with ⟨hv, -⟩ | ⟨g', cap', cur', hv1, -, hv2, -⟩
        · rw [hv] at e; cases e
        · rw [hv1] at e
          simp [Value.ownBlock] at e
          subst e
          obtain ⟨es, clock, q1, -⟩ := hm1
          rw [hv2] at q1; cases q1
      have q2 := h1 g hm1X hne
      obtain ⟨es, clock, q1, -⟩ := hm1
      rw [hh2, q1] at q2
      cases q2
  have hmap2 : IMap w2 m2 told := hm2.kept ((h2 m2 (by omega) (fun e => hbm2 e.symm) (fun e => hm12 e.symm)).trans (h1 m2 hm2X (fun e => by
        obtain ⟨-, hv⟩ := own
        rcases hv with ⟨hv, -⟩ | ⟨g', cap', cur', hv1, -, hv2, -⟩
        · rw [hv] at e; cases e
        · rw [hv1] at e
          simp [Value.ownBlock] at e
          subst e
          obtain ⟨es, clock, q1, -⟩ := hm2
          rw [hv2] at q1; cases q1)))
  have hown2 : w2.ownsRow 0 149 3 v' (s.nodes.length + 1) (flat3 s.nodes ++ [.int .i64 t.a, .int .i64 t.b, .int .i64 t.c]) := by
    have hlt1 := hown.lt
    obtain ⟨hl, hh⟩ := hown
    refine ⟨hl, ?_⟩
    rcases hh with hh | ⟨g, cap, cur, hh1, hh0, hh2, hh3⟩
    · exact .inl hh
    · have hg : v'.ownBlock = some g := by rw [hh1]; rfl
      refine .inr ⟨g, cap, cur, hh1, hh0, ?_, hh3⟩
      rw [h2 g (hlt1 g hg).2 (fun e => hvb (e ▸ hg)) (fun e => hvm (e ▸ hg))]
      exact hh2
  refine ⟨Blk b m1 m2 v', ⟨v', m1, m2, (hcells 0 (by omega)).trans c0, hcell1, (hcells 2 (by omega)).trans e2, (hcells 3 (by omega)).trans c3, (hcells 4 (by omega)).trans c4, hfz, ?_, hm12, hvb,
    by rw [byOf_append hby]; exact him, hmap2, fun k => Iff.rfl, hc1, hc2, by simp; omega, ?_⟩, ⟨⟨?_, ?_, ?_, by omega, ?_⟩, ?_⟩⟩
  · simp only [List.length_append, List.length_cons, List.length_nil]
    rw [flat3_append]
    exact hown2
  · intro x hx
    rcases List.mem_append.1 hx with h | h
    · exact hc4 x h
    · simp at h; subst h; exact hw
  · exact hg2.os.trans hg1.os
  · exact hg2.tape.trans hg1.tape
  · exact hg2.output.trans hg1.output
  · intro k hk hOk
    have hk' : ¬ Blk b m1 m2 vn k := fun h => hOk ((hO k).2 h)
    have k1 : k ≠ b := fun e => hk' (.inl e)
    have k2 : k ≠ m1 := fun e => hk' (.inr (.inl e))
    have k3 : vn.ownBlock ≠ some k := fun e => hk' (.inr (.inr (.inr e)))
    exact (h2 k (by omega) k1 k2).trans (h1 k hk k3)
  · rintro k (rfl | rfl | rfl | h)
    · exact .inl hbO
    · exact .inl ((hO _).2 (.inr (.inl rfl)))
    · exact .inl ((hO _).2 (.inr (.inr (.inl rfl))))
    · rcases hwh with h1 | h1
      · rw [h1] at h
        exact .inl ((hO _).2 (.inr (.inr (.inr h))))
      · exact .inr (by have := h1 k h; omega)

theorem IsBdd.map1 {X : World} {b m1 : Nat} {O : Nat → Prop} {s : BS} {told : T3 → Option Int} (hX : IsBdd X b O s told) (e2 : X.cell? ⟨b, 2, none⟩ = some (.map (some m1))) : IMap X m1 (byOf s.nodes) ∧ b ≠ m1 := by
  obtain ⟨vx, m1x, m2, c0, c1, c2, c3, c4, f, own, hm12, hnb, hm1, hm2, hO, hc1, hc2, hc3, hc4⟩ := hX
  rw [e2] at c2
  cases c2
  refine ⟨hm1, fun e => ?_⟩
  obtain ⟨es, clock, q1, -⟩ := hm1
  rw [← e] at q1
  simp [World.cell?, q1] at c0
theorem row_not_map {X : World} {m1 e n : Nat} {v : Value} {f : T3 → Option Int} {xs : List Value} (own : X.ownsRow 0 e 3 v n xs) (hm : IMap X m1 f) : v.ownBlock ≠ some m1 := fun e => by
  obtain ⟨-, hv⟩ := own
  rcases hv with ⟨hv, -⟩ | ⟨g', cap', cur', hv1, -, hv2, -⟩
  · rw [hv] at e; cases e
  · rw [hv1] at e
    simp [Value.ownBlock] at e
    subst e
    obtain ⟨es, clock, q1, -⟩ := hm
    rw [hv2] at q1; cases q1

set_option maxRecDepth 100000 in
set_option maxHeartbeats 1600000 in
theorem node_new (b : Nat) (O : Nat → Prop) (s : BS) (told : T3 → Option Int) (v lo hi : Int) (w : World) (hs : IsBdd w b O s told) (hne : (lo == hi) = false) (hw : (⟨v, lo, hi⟩ : T3).wf) (hby : byOf s.nodes ⟨v, lo, hi⟩ = none) (hcap : s.nodes.length < s.cap) :
    Calls Try.prog 67 #[.pointer (some ⟨b, 0, none⟩), .int .i64 v, .int .i64 lo, .int .i64 hi] w fun e w' => e = .returned (.int .i64 ((s.nodes.length + 2 : Nat) : Int)) ∧ ∃ O', IsBdd w' b O' { s with nodes := s.nodes ++ [⟨v, lo, hi⟩] } told ∧ Ext O O' w w' := by
  obtain ⟨i0, hi0, hz0, hz1, hz2⟩ := info_parts Try.infoBranchy
  have hX := hs.below (w' := w.alloc (.cells #[.int .i64 v, .int .i64 lo, .int .i64 hi] 149)) (by repeat (first | exact Below.refl _ _ | assumption | refine Below.drew ?_ | refine Below.alloc ?_ (by first | omega | (simp <;> omega)) _ | refine Below.setCell ?_ (by first | omega | (simp <;> omega)) _ | refine Below.trans ?_ (Below.mono (by assumption) (by first | omega | (simp <;> omega)))))
  have HX := Lib.hid hX
  obtain ⟨vn, m1, m2, c0, c1, c2, c3, c4, f, own, hm12, hnb, hm1, hm2, hO, hcp1, hcp2, -⟩ := hX
  have hlk : ∀ nq, (Instr.lookup 105 (.map (some m1)) (.agg #[.int .i64 v, .int .i64 lo, .int .i64 hi]) true).run Try.prog ((w.alloc (.cells #[.int .i64 v, .int .i64 lo, .int .i64 hi] 149)).drewN nq) = .ok (.tuple #[.int .i64 0, .bool false]) ((w.alloc (.cells #[.int .i64 v, .int .i64 lo, .int .i64 hi] 149)).drewN nq) := by
    intro nq
    have h := IMap.look (P := Try.prog) (T := 105) (k := 149) (e := 3) (w := (w.alloc (.cells #[.int .i64 v, .int .i64 lo, .int .i64 hi] 149)).drewN nq) (m := m1) (hm1.kept rfl) keyedBranchy (fun t ht => keyOf_branchy ht) Try.underlying105 (zeroInt _) (t := ⟨v, lo, hi⟩) hw
    rw [hby] at h
    exact h
  obtain ⟨pn, cn, rfl, hln⟩ := own_shape own
  have HLT : Hid ((∀ k, (Value.slice pn s.nodes.length cn).ownBlock = some k → k < w.heap.size) ∧ m1 < w.heap.size ∧ m2 < w.heap.size) :=
    ⟨fun k hk => hs.lt k ((hO k).2 (.inr (.inr (.inr hk)))), hs.lt m1 ((hO m1).2 (.inr (.inl rfl))), hs.lt m2 ((hO m2).2 (.inr (.inr (.inl rfl))))⟩
  have hbl : b < w.heap.size := hs.lt b ((hO b).2 (.inl rfl))
  have HNB : Hid ((Value.slice pn s.nodes.length cn).ownBlock ≠ some b ∧ m1 ≠ m2) := ⟨hnb, hm12⟩
  clear hnb hm12
  have HOWN := Lib.hid own
  have HM1 := Lib.hid hm1
  have HM2 := Lib.hid hm2
  have HW := Lib.hid hw
  have HBY := Lib.hid hby
  have HO := Lib.hid hO
  have HF := Lib.hid f
  clear own hm1 hm2 hO c3 c4 hs hby hw f
  go_enter Try.func67, Try.ntmps67
  go_wp2_with fail
  go_quiet (fail)
  clear hlk
  generalize hE1 : (w.alloc (.cells #[.int .i64 v, .int .i64 lo, .int .i64 hi] 149)).drewN nq = W1
  have hB1 : Below w.heap.size w W1 := by rw [← hE1]; exact below_drewN (by repeat (first | exact Below.refl _ _ | assumption | refine Below.drew ?_ | refine Below.alloc ?_ (by first | omega | (simp <;> omega)) _ | refine Below.setCell ?_ (by first | omega | (simp <;> omega)) _ | refine Below.trans ?_ (Below.mono (by assumption) (by first | omega | (simp <;> omega))))) _
  have hs1 : w.heap.size < W1.heap.size := by rw [← hE1]; show _ < (w.alloc (.cells #[.int .i64 v, .int .i64 lo, .int .i64 hi] 149)).heap.size; simp
  have x0 : W1.cell? ⟨w.heap.size, 0, none⟩ = some (.int .i64 v) := by rw [← hE1]; simp [go_sem]
  have x1 : W1.cell? ⟨w.heap.size, 1, none⟩ = some (.int .i64 lo) := by rw [← hE1]; simp [go_sem]
  have x2 : W1.cell? ⟨w.heap.size, 2, none⟩ = some (.int .i64 hi) := by rw [← hE1]; simp [go_sem]
  have d0 : W1.cell? ⟨b, 0, none⟩ = some (.int .i64 (s.cap : Int)) := by rw [← hE1]; exact c0
  have d1 : W1.cell? ⟨b, 1, none⟩ = some (.slice pn s.nodes.length cn) := by rw [← hE1]; exact c1
  have d2 : W1.cell? ⟨b, 2, none⟩ = some (.map (some m1)) := by rw [← hE1]; exact c2
  have HX1 : Hid (IsBdd W1 b O s told) := by show IsBdd _ _ _ _ _; rw [← hE1]; exact HX.out.below (below_drewN (Below.refl _ _) _)
  have HOWN1 : Hid (W1.ownsRow 0 149 3 (.slice pn s.nodes.length cn) s.nodes.length (flat3 s.nodes)) := by show World.ownsRow _ _ _ _ _ _ _; rw [← hE1]; exact HOWN.out
  clear hE1 c0 c1 c2 HX HOWN HM1 HM2
  go_wp2_with fail
  go_quiet (fail)
  generalize hE2 : W1.drewN nq = X
  have hB2 : Below w.heap.size w X := by rw [← hE2]; exact below_drewN hB1 _
  have hs2 : w.heap.size < X.heap.size := by rw [← hE2]; exact hs1
  have y0 : X.cell? ⟨w.heap.size, 0, none⟩ = some (.int .i64 v) := by rw [← hE2]; exact x0
  have y1 : X.cell? ⟨w.heap.size, 1, none⟩ = some (.int .i64 lo) := by rw [← hE2]; exact x1
  have y2 : X.cell? ⟨w.heap.size, 2, none⟩ = some (.int .i64 hi) := by rw [← hE2]; exact x2
  have e1 : X.cell? ⟨b, 1, none⟩ = some (.slice pn s.nodes.length cn) := by rw [← hE2]; exact d1
  have e2 : X.cell? ⟨b, 2, none⟩ = some (.map (some m1)) := by rw [← hE2]; exact d2
  have HX2 : Hid (IsBdd X b O s told) := by show IsBdd _ _ _ _ _; rw [← hE2]; exact HX1.out.below (below_drewN (Below.refl _ _) _)
  have hown2 : X.ownsRow 0 149 3 (.slice pn s.nodes.length cn) s.nodes.length (flat3 s.nodes) := by rw [← hE2]; exact HOWN1.out
  clear hE2 x0 x1 x2 d0 d1 d2 HX1 HOWN1 hB1 hs1
  have hbX : b < X.heap.size := by omega
  have hbX' : b ≠ X.heap.size := by omega
  have hbX2 : ¬ b = X.heap.size := by omega
  go_wp2_with fail
  go_region_law (first | (refine step_append_two rfl (.tmp 50) (.tmp 52) 29 rfl 149 i0 (.agg #[.int .i64 0, .int .i64 0, .int .i64 0]) 3 24 Try.underlying29 hi0 hz0 hz1 hz2 rfl (by decide) _ _ _ rfl (hown2.drew.alloc _) ⟨X.heap.size, 0, none⟩ 1 1 [.int .i64 v, .int .i64 lo, .int .i64 hi] rfl rfl (cell_three_new _ _ _ _ _) (ints_oneCell .i64 [v, lo, hi]) (by unfold maxLen; omega) (by omega) ?_; intro v' w1 hown1 hgrow1 hwhere; obtain ⟨pv, cv, rfl, hlv⟩ := own_shape hown1; have k1 : w1.cell? ⟨b, 1, none⟩ = some (.slice pn s.nodes.length cn) := hgrow1.cell (a := ⟨b, 1, none⟩) ((World.cell?_alloc_lt _ _ _ hbX).trans e1) (fun h => HNB.out.1 h.symm); have k1f : w1.frozen? ⟨b, 1, none⟩ = false := fz1 hgrow1 HX2.out (fun h => HNB.out.1 h.symm)))
  all_goals
    have e2A : w1.cell? ⟨b, 2, none⟩ = some (.map (some m1)) := hgrow1.cell (a := ⟨b, 2, none⟩) ((World.cell?_alloc_lt _ _ _ hbX).trans e2) (fun h => HNB.out.1 h.symm)
    have hwr : some w.heap.size ≠ (Value.slice pn s.nodes.length cn).ownBlock := fun h => by have := HLT.out.1 _ h.symm; omega
    have z0 : w1.cell? ⟨w.heap.size, 0, none⟩ = some (.int .i64 v) := hgrow1.cell (a := ⟨w.heap.size, 0, none⟩) ((World.cell?_alloc_lt _ _ _ hs2).trans y0) hwr
    have z1 : w1.cell? ⟨w.heap.size, 1, none⟩ = some (.int .i64 lo) := hgrow1.cell (a := ⟨w.heap.size, 1, none⟩) ((World.cell?_alloc_lt _ _ _ hs2).trans y1) hwr
    have z2 : w1.cell? ⟨w.heap.size, 2, none⟩ = some (.int .i64 hi) := hgrow1.cell (a := ⟨w.heap.size, 2, none⟩) ((World.cell?_alloc_lt _ _ _ hs2).trans y2) hwr
    obtain ⟨hmX, hbm⟩ := HX2.out.map1 e2
    have hrm := row_not_map hown2 hmX
    have hmA : IMap w1 m1 (byOf s.nodes) := hmX.kept ((hgrow1.block m1 (by have := hmX.lt; show m1 < (X.alloc _).heap.size; simp; omega) (fun e => hrm e.symm)).trans (Below.heap_alloc X _ m1 hmX.lt))
    have hmY : IMap (w1.setCell ⟨b, 1, none⟩ (.slice pv (s.nodes.length + 1) cv)).drew m1 (byOf s.nodes) := hmA.kept (Below.heap_setCell w1 ⟨b, 1, none⟩ _ m1 (fun e => hbm e.symm))
    obtain ⟨w2, hrun, him2, hgrow2⟩ := hmY.store (P := Try.prog) (T := 105) (k := 149) (e := 3) keyedBranchy (fun t ht => keyOf_branchy ht) Try.underlying105 (t := ⟨v, lo, hi⟩) HW.out ((s.nodes.length + 2 : Nat) : Int) (.inl HBY.out)
    have hr : ((s.nodes.length + 2 : Nat) : Int) = (s.nodes.length : Int) + 1 + 1 := by omega
    have HR := Lib.hid hr
    simp only [kv3, hr] at hrun
    have hP := push_world HX2.out e1 e2 hgrow1 hwhere hown1 hgrow2 him2 HBY.out HW.out hcap
    have HP := Lib.hid hP
    have f1 : (w1.setCell ⟨b, 1, none⟩ (.slice pv (s.nodes.length + 1) cv)).cell? ⟨b, 1, none⟩ = some (.slice pv (s.nodes.length + 1) cv) := World.cell?_setCell_same _ _ _ k1
    have f2 : (w1.setCell ⟨b, 1, none⟩ (.slice pv (s.nodes.length + 1) cv)).cell? ⟨b, 2, none⟩ = some (.map (some m1)) := (World.cell?_setCell_other _ _ _ _ (by simp)).trans e2A
    have hwb : ¬ b = w.heap.size := by omega
    have g0 : (w1.setCell ⟨b, 1, none⟩ (.slice pv (s.nodes.length + 1) cv)).cell? ⟨w.heap.size, 0, none⟩ = some (.int .i64 v) := (World.cell?_setCell_other _ _ _ _ (by simp [hwb])).trans z0
    have g1 : (w1.setCell ⟨b, 1, none⟩ (.slice pv (s.nodes.length + 1) cv)).cell? ⟨w.heap.size, 1, none⟩ = some (.int .i64 lo) := (World.cell?_setCell_other _ _ _ _ (by simp [hwb])).trans z1
    have g2 : (w1.setCell ⟨b, 1, none⟩ (.slice pv (s.nodes.length + 1) cv)).cell? ⟨w.heap.size, 2, none⟩ = some (.int .i64 hi) := (World.cell?_setCell_other _ _ _ _ (by simp [hwb])).trans z2
    have f1' : w2.cell? ⟨b, 1, none⟩ = some (.slice pv (s.nodes.length + 1) cv) := hgrow2.cell (a := ⟨b, 1, none⟩) f1 (fun e => hbm (Option.some.inj e))
    clear hP hmX hrm hmA hmY him2 hgrow2 hr hgrow1 hwhere hown1 hown2 k1 k1f e2A z0 z1 z2 hwr y0 y1 y2 e1 e2
    generalize w1.setCell ⟨b, 1, none⟩ (.slice pv (s.nodes.length + 1) cv) = Y at *
    go_wp2_with fail
    refine wp_region_still_tail 11 (by kernel_rfl) (by kernel_rfl) ?_
    simp only [List.take_succ_cons, List.take_zero, List.drop_succ_cons, List.drop_zero]
    change wpStill _ _ (World.drew _) _ _ _
    repeat still_step
    refine wpStill_nil ?_
    change wpList _ _ _ _ _ (World.drew _)
    go_wp2_with fail
    rw [hrun]
    clear hrun
    go_wp2_with fail
    go_ret
    obtain ⟨O', q1, q2⟩ := HP.out
    exact ⟨by rw [HR.out]; rfl, O', q1, (Ext.of_below hB2).trans q2⟩

end Go.Proofs.Ytlnkflmnjkmhkaa

/-
  Contracts of (*Store).made: the deferred closure's two, and made's own where what it is handed returns, and where it gives up.
-/
namespace Go.Proofs.Ytlnkflmnjkmhkaa
open Go.RowKit Go.Maps

theorem assert_over (W : World) : (Instr.typeAssert (.iface 146 (.agg #[])) 20 146 true).run Try.prog W = .ok (.tuple #[.agg #[], .bool true]) W := by kernel_rfl

set_option maxRecDepth 100000 in
set_option maxHeartbeats 800000 in
theorem catch_over (p : Addr) (x : Int) (w : World) (hc : w.cell? p = some (.int .i64 x)) (hz : w.frozen? p = false) :
    CallsD Try.prog 124 #[.pointer (some p)] (.panicking [{ v := overV, recovered := false }]) w fun e u' w' =>
      e = .returned (.tuple #[]) ∧ u' = .panicking [{ v := overV, recovered := true }] ∧ w' = (w.alloc (.cells #[] 146)).setCell p (.int .i64 0) := by
  unfold overV
  have hta := assert_over
  have hpl := (cell_there hc).1
  have hc' : ∀ o, (w.alloc o).cell? p = some (.int .i64 x) := fun o => (((Below.refl w.heap.size w).alloc (Nat.le_refl _) o).cell hpl).trans hc
  have hz' : ∀ o, (w.alloc o).frozen? p = false := fun o => (((Below.refl w.heap.size w).alloc (Nat.le_refl _) o).frozen hpl).trans hz
  clear hc hz hpl
  refine callsD_of_wpS Try.func124 rfl fun c₀ cs hu => ?_
  simp only [Try.ntmps124, List.size_toArray, List.length_cons, List.length_nil, Nat.reduceAdd, Nat.reduceSub, Array.replicate_succ, Array.replicate_zero, List.push_toArray, List.append_toArray, List.nil_append, List.cons_append]
  apply wpS_seq
  apply wpS_region
  simp [wpOpsS, go_sem, recoverD, hu, Exit.thenS]
  refine wpS_of_wp ?_
  go_wp2
  simp [bodyPostS, results, Try.results124, go_sem, hu]

set_option maxRecDepth 100000 in
set_option maxHeartbeats 800000 in
theorem catch_idle (p : Addr) (w : World) :
    CallsD Try.prog 124 #[.pointer (some p)] .returning w fun e u' w' => e = .returned (.tuple #[]) ∧ u' = .returning ∧ w' = w := by
  refine callsD_of_wpS Try.func124 rfl fun c₀ cs hu => ?_
  simp only [Try.ntmps124, List.size_toArray, List.length_cons, List.length_nil, Nat.reduceAdd, Nat.reduceSub, Array.replicate_succ, Array.replicate_zero, List.push_toArray, List.append_toArray, List.nil_append, List.cons_append]
  apply wpS_seq
  apply wpS_region
  simp [wpOpsS, go_sem, recoverD, hu, Exit.thenS]
  refine wpS_of_wp ?_
  go_wp2
  cases c₀
  simp_all [bodyPostS, results, Try.results124]

/-- What a call that made something has done to the store at b: what is said of it is Φ. -/
def Made (b : Nat) (O : Nat → Prop) (w : World) (Φ : BS → (T3 → Option Int) → Prop) (w' : World) : Prop :=
  ∃ O' s' told', IsBdd w' b O' s' told' ∧ Ext O O' w w' ∧ Φ s' told'

theorem run_makeFunc (fn : Fn) (first cap : Array Value) (w : World) : (Instr.makeFunc fn first cap).run Try.prog w = .ok (.func fn first cap) w := rfl

theorem Made.box {b : Nat} {O : Nat → Prop} {w w' : World} {o : Obj} {Φ : BS → (T3 → Option Int) → Prop} (hlt : ∀ k, O k → k < w.heap.size) (h : Made b O (w.alloc o) Φ w') :
    w.heap.size < w'.heap.size ∧ (∀ j, w'.cell? ⟨w.heap.size, j, none⟩ = (w.alloc o).cell? ⟨w.heap.size, j, none⟩) ∧ (∀ j, w'.frozen? ⟨w.heap.size, j, none⟩ = (w.alloc o).frozen? ⟨w.heap.size, j, none⟩) ∧
      ∀ w'', (∀ k, k < w'.heap.size → k ≠ w.heap.size → w''.heap[k]? = w'.heap[k]?) → w''.os = w'.os → w''.tape = w'.tape → w''.output = w'.output → w'.heap.size ≤ w''.heap.size → Made b O w Φ w'' := by
  obtain ⟨O', s', told', h1, h2, h3⟩ := h
  have hs : (w.alloc o).heap.size = w.heap.size + 1 := by simp
  have hO : ¬ O w.heap.size := fun h => by have := hlt _ h; omega
  have hc := fun j => h2.cell (p := ⟨w.heap.size, j, none⟩) (by show w.heap.size < (w.alloc o).heap.size; omega) hO
  refine ⟨by have := h2.1.size; omega, fun j => (hc j).1, fun j => (hc j).2.1, fun w'' e1 e2 e3 e4 e5 => ⟨O', s', told', h1.kept fun k hk => e1 k (h1.lt k hk) (fun e => (hc 0).2.2 (by show O' w.heap.size; rw [← e]; exact hk)), ⟨⟨?_, ?_, ?_, ?_, fun k hk hOk => ?_⟩, fun k hk => ?_⟩, h3⟩⟩
  · exact e2.trans h2.1.os
  · exact e3.trans h2.1.tape
  · exact e4.trans h2.1.output
  · have := h2.1.size; omega
  · rw [e1 k (by have := h2.1.size; omega) (by omega), h2.1.block k (by omega) hOk]
    exact Below.heap_alloc w o k hk
  · rcases h2.2 k hk with h | h
    · exact .inl h
    · exact .inr (by omega)

set_option maxRecDepth 100000 in
set_option maxHeartbeats 800000 in
theorem made_ret (b : Nat) (O : Nat → Prop) (s : BS) (told : T3 → Option Int) (f : Nat) (fst cp : Array Value) (r : Int) (Φ : BS → (T3 → Option Int) → Prop) (w : World) (hs : IsBdd w b O s told) (hfull : s.full = false)
    (hcall : ∀ (av : Array Value) (W : World), (callFunc f av).run Try.prog W = .ok (.enter f av) W)
    (hf : Calls Try.prog f (fst ++ cp) (w.alloc (.cells #[.int .i64 0] 3)) fun e w' => e = .returned (.int .i64 r) ∧ Made b O (w.alloc (.cells #[.int .i64 0] 3)) Φ w') :
    Calls Try.prog 65 #[.pointer (some ⟨b, 0, none⟩), .func (.func f) fst cp] w fun e w' => e = .returned (.int .i64 r) ∧ Made b O w Φ w' := by
  have hmf := run_makeFunc
  have HS := Lib.hid hs
  have HF := Lib.hid hf; clear hf
  obtain ⟨vn, m1, m2, c0, c1, c2, c3, c4, fz, own, hm12, hnb, hm1, hm2, hO, hcp1, hcp2, -⟩ := hs
  rw [hfull] at c4
  clear c1 c2 c3 fz own hm12 hnb hm1 hm2 hO hfull
  have hcap : ((s.cap : Int) == 0) = false := by rw [beq_eq_false_iff_ne]; omega
  have hbl := (cell_there c0).1
  have c0' : ∀ o, (w.alloc o).cell? ⟨b, 0, none⟩ = some (.int .i64 (s.cap : Int)) := fun o => (World.cell?_alloc_lt w o ⟨b, 0, none⟩ hbl).trans c0
  have c4' : ∀ o, (w.alloc o).cell? ⟨b, 4, none⟩ = some (.bool false) := fun o => (World.cell?_alloc_lt w o ⟨b, 4, none⟩ hbl).trans c4
  clear c0 c4
  have hlt := HS.out.lt
  go_enter_defers Try.func65, Try.ntmps65
  go_wp2
  refine HF.out.mono ?_
  rintro e w1 ⟨rfl, hm⟩
  obtain ⟨q1, q2, q3, q4⟩ := hm.box hlt
  have r0 : w1.cell? ⟨w.heap.size, 0, none⟩ = some (.int .i64 0) := (q2 0).trans (by simp [go_sem])
  have r1 : w1.frozen? ⟨w.heap.size, 0, none⟩ = false := (q3 0).trans (by simp [go_sem])
  have Q4 := Lib.hid q4
  clear q2 q3 q4 hm c0' c4' hmf hcall
  go_wp2
  have r2 : (w1.setCell ⟨w.heap.size, 0, none⟩ (.int .i64 r)).cell? ⟨w.heap.size, 0, none⟩ = some (.int .i64 r) := World.cell?_setCell_same _ _ _ r0
  have HM : Made b O w Φ (w1.setCell ⟨w.heap.size, 0, none⟩ (.int .i64 r)) := Q4.out _ (fun k _ hk => Below.heap_setCell w1 ⟨w.heap.size, 0, none⟩ _ k hk) rfl rfl rfl (by simp [World.setCell])
  refine leaves_cons (f := 124) (args := #[.pointer (some ⟨w.heap.size, 0, none⟩)]) (by simp) (by simp [go_sem]) ?_
  refine (catch_idle ⟨w.heap.size, 0, none⟩ _).mono ?_
  rintro e u' w'' ⟨rfl, rfl, rfl⟩
  simp [Leaves, settle, results, Try.results65, go_sem, r2]
  exact HM

set_option maxRecDepth 100000 in
set_option maxHeartbeats 800000 in
theorem made_over (b : Nat) (O : Nat → Prop) (s : BS) (told : T3 → Option Int) (f : Nat) (fst cp : Array Value) (Φ : BS → (T3 → Option Int) → Prop) (w : World) (hs : IsBdd w b O s told) (hfull : s.full = false)
    (hcall : ∀ (av : Array Value) (W : World), (callFunc f av).run Try.prog W = .ok (.enter f av) W)
    (hf : Calls Try.prog f (fst ++ cp) (w.alloc (.cells #[.int .i64 0] 3)) fun e w' => e = .panicked [{ v := overV, recovered := false }] ∧ Made b O (w.alloc (.cells #[.int .i64 0] 3)) Φ w') :
    Calls Try.prog 65 #[.pointer (some ⟨b, 0, none⟩), .func (.func f) fst cp] w fun e w' => e = .returned (.int .i64 0) ∧ Made b O w Φ w' := by
  have hmf := run_makeFunc
  have HS := Lib.hid hs
  have HF := Lib.hid hf; clear hf
  obtain ⟨vn, m1, m2, c0, c1, c2, c3, c4, fz, own, hm12, hnb, hm1, hm2, hO, hcp1, hcp2, -⟩ := hs
  rw [hfull] at c4
  clear c1 c2 c3 fz own hm12 hnb hm1 hm2 hO hfull
  have hcap : ((s.cap : Int) == 0) = false := by rw [beq_eq_false_iff_ne]; omega
  have hbl := (cell_there c0).1
  have c0' : ∀ o, (w.alloc o).cell? ⟨b, 0, none⟩ = some (.int .i64 (s.cap : Int)) := fun o => (World.cell?_alloc_lt w o ⟨b, 0, none⟩ hbl).trans c0
  have c4' : ∀ o, (w.alloc o).cell? ⟨b, 4, none⟩ = some (.bool false) := fun o => (World.cell?_alloc_lt w o ⟨b, 4, none⟩ hbl).trans c4
  clear c0 c4
  have hlt := HS.out.lt
  go_enter_defers Try.func65, Try.ntmps65
  go_wp2
  refine HF.out.mono ?_
  rintro e w1 ⟨rfl, hm⟩
  obtain ⟨q1, q2, q3, q4⟩ := hm.box hlt
  have r0 : w1.cell? ⟨w.heap.size, 0, none⟩ = some (.int .i64 0) := (q2 0).trans (by simp [go_sem])
  have r1 : w1.frozen? ⟨w.heap.size, 0, none⟩ = false := (q3 0).trans (by simp [go_sem])
  have Q4 := Lib.hid q4
  clear q2 q3 q4 hm c0' c4' hmf hcall
  go_wp2
  have e1 : (w1.alloc (.cells #[] 146)).cell? ⟨w.heap.size, 0, none⟩ = some (.int .i64 0) := (World.cell?_alloc_lt w1 _ ⟨w.heap.size, 0, none⟩ q1).trans r0
  have r2 : ((w1.alloc (.cells #[] 146)).setCell ⟨w.heap.size, 0, none⟩ (.int .i64 0)).cell? ⟨w.heap.size, 0, none⟩ = some (.int .i64 0) := World.cell?_setCell_same _ _ _ e1
  have HM : Made b O w Φ ((w1.alloc (.cells #[] 146)).setCell ⟨w.heap.size, 0, none⟩ (.int .i64 0)) :=
    Q4.out _ (fun k hk1 hk => (Below.heap_setCell (w1.alloc (.cells #[] 146)) ⟨w.heap.size, 0, none⟩ _ k hk).trans (Below.heap_alloc w1 _ k hk1)) rfl rfl rfl (by simp [World.setCell])
  refine leaves_cons (f := 124) (args := #[.pointer (some ⟨w.heap.size, 0, none⟩)]) (by simp) (by simp [go_sem]) ?_
  refine (catch_over ⟨w.heap.size, 0, none⟩ 0 _ r0 r1).mono ?_
  rintro e u' w'' ⟨rfl, rfl, rfl⟩
  simp [Leaves, settle, results, Try.results65, go_sem, r2]
  exact HM

end Go.Proofs.Ytlnkflmnjkmhkaa
