/-
  Layer 35's code, walked: last, inner.
-/
import Derived.Test.YtehcclcokgmplaaJA14
import Derived.BigRegion

namespace Go.Proofs.Ytehcclcokgmplaa
open Go.RowKit Go.Maps

theorem drew_heap (W : World) : W.drew.heap = W.heap := rfl
theorem heap_drew6 {W : World} {G : Nat} {t : TypeId} {z0 z1 z2 z3 z4 z5 : Value} (h : W.heap[G]? = some (.cells #[z0, z1, z2, z3, z4, z5] t (0, 0))) (a0 a1 a2 a3 a4 a5 : Value) : (((((((W.setCell ⟨G, 0, none⟩ a0).setCell ⟨G, 1, none⟩ a1).setCell ⟨G, 2, none⟩ a2).setCell ⟨G, 3, none⟩ a3).setCell ⟨G, 4, none⟩ a4).setCell ⟨G, 5, none⟩ a5).drew).heap[G]? = some (.cells #[a0, a1, a2, a3, a4, a5] t (0, 0)) := by
  have h0 : (W.setCell ⟨G, 0, none⟩ a0).heap[G]? = some (.cells #[a0, z1, z2, z3, z4, z5] t (0, 0)) := heap_setCell_same _ G 0 _ t a0 h
  have h1 : ((W.setCell ⟨G, 0, none⟩ a0).setCell ⟨G, 1, none⟩ a1).heap[G]? = some (.cells #[a0, a1, z2, z3, z4, z5] t (0, 0)) := heap_setCell_same _ G 1 _ t a1 h0
  have h2 : (((W.setCell ⟨G, 0, none⟩ a0).setCell ⟨G, 1, none⟩ a1).setCell ⟨G, 2, none⟩ a2).heap[G]? = some (.cells #[a0, a1, a2, z3, z4, z5] t (0, 0)) := heap_setCell_same _ G 2 _ t a2 h1
  have h3 : ((((W.setCell ⟨G, 0, none⟩ a0).setCell ⟨G, 1, none⟩ a1).setCell ⟨G, 2, none⟩ a2).setCell ⟨G, 3, none⟩ a3).heap[G]? = some (.cells #[a0, a1, a2, a3, z4, z5] t (0, 0)) := heap_setCell_same _ G 3 _ t a3 h2
  have h4 : (((((W.setCell ⟨G, 0, none⟩ a0).setCell ⟨G, 1, none⟩ a1).setCell ⟨G, 2, none⟩ a2).setCell ⟨G, 3, none⟩ a3).setCell ⟨G, 4, none⟩ a4).heap[G]? = some (.cells #[a0, a1, a2, a3, a4, z5] t (0, 0)) := heap_setCell_same _ G 4 _ t a4 h3
  have h5 : ((((((W.setCell ⟨G, 0, none⟩ a0).setCell ⟨G, 1, none⟩ a1).setCell ⟨G, 2, none⟩ a2).setCell ⟨G, 3, none⟩ a3).setCell ⟨G, 4, none⟩ a4).setCell ⟨G, 5, none⟩ a5).heap[G]? = some (.cells #[a0, a1, a2, a3, a4, a5] t (0, 0)) := heap_setCell_same _ G 5 _ t a5 h4
  rw [drew_heap]
  exact h5
theorem below_drew6 {w W : World} {b G : Nat} (h : Below b w W) (hb : b ≤ G) (a0 a1 a2 a3 a4 a5 : Value) : Below b w (((((((W.setCell ⟨G, 0, none⟩ a0).setCell ⟨G, 1, none⟩ a1).setCell ⟨G, 2, none⟩ a2).setCell ⟨G, 3, none⟩ a3).setCell ⟨G, 4, none⟩ a4).setCell ⟨G, 5, none⟩ a5).drew) :=
  ((((((h.setCell hb _).setCell hb _).setCell hb _).setCell hb _).setCell hb _).setCell hb _).drew
set_option maxRecDepth 100000 in
set_option maxHeartbeats 3200000 in
theorem last_any (base : Nat) (n : Nod) (ls : List (List Nod)) (l0 : List Nod) (m : Nod) (pp : Option Addr) (pn pc : Nat) (w : World) (hp : Prt base w (.slice pp pn pc) ls) (h0 : ls[0]? = some (l0 ++ [m])) (hl : l0.length ≤ 6000) :
    Calls Try.prog 34 #[fndV n (.slice pp pn pc)] w fun e w' => e = .returned (ndV m) ∧ Below w.heap.size w w' := by
  obtain ⟨op, k, a, b, v⟩ := n
  unfold fndV
  dsimp only
  generalize ((v / B : Nat) : Int) = x
  generalize ((v % B : Nat) : Int) = y
  have hpn : (0 : Int) < (pn : Int) := by
    have h1 := hp.len
    have h2 := (List.getElem?_eq_some_iff.1 h0).1
    omega
  obtain ⟨bb, oo, p1, n1, c1, rfl, hb, hc, hco⟩ := hp.el h0
  obtain ⟨M, hM⟩ : ∃ M, M = l0.length := ⟨_, rfl⟩
  obtain rfl : n1 = M + 1 := by have := hco.row.ln.1; simp at this; omega
  obtain ⟨nb, no, rfl, hnb, d0, d1, d2, d3, -, d4, d5⟩ := hco.row.get (j := M) (x := m) (by rw [hM]; simp)
  obtain ⟨mop, mk, ma, mb, mv⟩ := m
  unfold ndV
  dsimp only at d0 d1 d2 d3 d4 d5 ⊢
  obtain ⟨mx, hmx⟩ : ∃ x : Nat, x = mv / B := ⟨_, rfl⟩
  obtain ⟨my, hmy⟩ : ∃ y : Nat, y = mv % B := ⟨_, rfl⟩
  rw [← hmx] at d4 ⊢
  rw [← hmy] at d5 ⊢
  rw [← hM] at hl
  have hw1 : wrap64 (((M + 1 : Nat) : Int) - 1) = (M : Int) := by unfold wrap64; omega
  have hi1 : (M : Int) < ((M + 1 : Nat) : Int) := by omega
  clear hp h0 hco hM hmx hmy
  simp only [Nat.add_zero] at hc
  have d6 : w.cell? ⟨nb, no + M * 6 + 5, none⟩ = some (.int .u64 (my : Int)) := d5
  clear d5
  go_enter Try.func34, Try.ntmps34
  go_upto_region 1 with fail
  obtain ⟨W1, hW1⟩ : ∃ W1, W1 = (w.alloc (.cells #[.int .u8 op, .int .i64 k, .int .i64 a, .int .i64 b, .int .u64 x, .int .u64 y, .slice (some ⟨bb, oo, none⟩) pn pc] 77)).alloc (.cells #[.int .u8 0, .int .i64 0, .int .i64 0, .int .i64 0, .int .u64 0, .int .u64 0] 61) := ⟨_, rfl⟩
  have HQ1 : Hid (Below w.heap.size w W1) := by show Below _ _ _; rw [hW1]; exact (by repeat (first | exact Below.refl _ _ | assumption | refine Below.drew ?_ | refine Below.alloc ?_ (by first | omega | (simp <;> omega)) _ | refine Below.setCell ?_ (by first | omega | (simp <;> omega)) _ | refine Below.trans ?_ (Below.mono (by assumption) (by first | omega | (simp <;> omega)))))
  have r6 : W1.cell? ⟨w.heap.size, 6, none⟩ = some (.slice (some ⟨bb, oo, none⟩) pn pc) := by rw [hW1]; go_simp
  have z0 : W1.cell? ⟨w.heap.size + 1, 0, none⟩ = some (.int .u8 0) ∧ W1.cell? ⟨w.heap.size + 1, 1, none⟩ = some (.int .i64 0) ∧ W1.cell? ⟨w.heap.size + 1, 2, none⟩ = some (.int .i64 0) ∧ W1.cell? ⟨w.heap.size + 1, 3, none⟩ = some (.int .i64 0) ∧ W1.cell? ⟨w.heap.size + 1, 4, none⟩ = some (.int .u64 0) ∧ W1.cell? ⟨w.heap.size + 1, 5, none⟩ = some (.int .u64 0) := by
    rw [hW1]
    refine ⟨?_, ?_, ?_, ?_, ?_, ?_⟩ <;> go_simp
  obtain ⟨z0, z1, z2, z3, z4, z5⟩ := z0
  have zf : ∀ i, W1.frozen? ⟨w.heap.size + 1, i, none⟩ = false := fun i => by rw [hW1]; simp [go_sem]
  have hk : ∀ i j, i < w.heap.size → W1.cell? ⟨i, j, none⟩ = w.cell? ⟨i, j, none⟩ := fun i j h => HQ1.out.cell (p := ⟨i, j, none⟩) h
  have hc' := (hk bb oo hb).trans hc
  have d0' := (hk nb _ hnb).trans d0
  have d1' := (hk nb _ hnb).trans d1
  have d2' := (hk nb _ hnb).trans d2
  have d3' := (hk nb _ hnb).trans d3
  have d4' := (hk nb _ hnb).trans d4
  have d6' := (hk nb _ hnb).trans d6
  have hs1 : W1.heap.size = w.heap.size + 2 := by rw [hW1]; simp
  have hg1 : W1.heap[w.heap.size + 1]? = some (.cells #[.int .u8 0, .int .i64 0, .int .i64 0, .int .i64 0, .int .u64 0, .int .u64 0] 61 (0, 0)) := by
    rw [hW1]
    have := heap_new (w.alloc (.cells #[.int .u8 op, .int .i64 k, .int .i64 a, .int .i64 b, .int .u64 x, .int .u64 y, .slice (some ⟨bb, oo, none⟩) pn pc] 77)) (.cells #[.int .u8 0, .int .i64 0, .int .i64 0, .int .i64 0, .int .u64 0, .int .u64 0] 61)
    simp only [World.size_alloc] at this
    exact this
  rw [← hW1]
  clear hW1 hk hc d0 d1 d2 d3 d4 d6
  have HSZ := Lib.hid hs1
  have HG1 := Lib.hid hg1
  clear hg1
  clear hs1
  have hne : nb ≠ w.heap.size + 1 := by omega
  have hne2 : bb ≠ w.heap.size + 1 := by omega
  go_region
  go_wp2_with fail
  have hg := (heap_drew6 HG1.out (.int .u8 mop) (.int .i64 mk) (.int .i64 ma) (.int .i64 mb) (.int .u64 (mx : Int)) (.int .u64 (my : Int)))
  exact bodyPost_ret (v := .agg #[.int .u8 mop, .int .i64 mk, .int .i64 ma, .int .i64 mb, .int .u64 (mx : Int), .int .u64 (my : Int)]) (results_cell_row Try.results34 _ _ (w.heap.size + 1) _ _ _ _ (by simp [go_sem]) hg Try.underlying61 rfl (by kernel_rfl)) rfl ⟨rfl, below_drew6 HQ1.out (Nat.le_succ _) _ _ _ _ _ _⟩

set_option maxRecDepth 100000 in
set_option maxHeartbeats 3200000 in
theorem inner_any (base : Nat) (n : Nod) (ls : List (List Nod)) (l0 : List Nod) (m : Nod) (pp : Option Addr) (pn pc : Nat) (w : World) (hp : Prt base w (.slice pp pn pc) ls) (h0 : ls[0]? = some (l0 ++ [m])) (hl : l0.length ≤ 6000) :
    Calls Try.prog 35 #[fndV n (.slice pp pn pc)] w fun e w' => (∃ v, e = .returned v ∧ CO w.heap.size w' v l0) ∧ Below w.heap.size w w' := by
  obtain ⟨op, k, a, b, v⟩ := n
  unfold fndV
  dsimp only
  generalize ((v / B : Nat) : Int) = x
  generalize ((v % B : Nat) : Int) = y
  have hpn : (0 : Int) < (pn : Int) := by
    have h1 := hp.len
    have h2 := (List.getElem?_eq_some_iff.1 h0).1
    omega
  have hpn2 : 0 < pn := by omega
  obtain ⟨bb, oo, p1, n1, c1, rfl, hb, hc, hco⟩ := hp.el h0
  obtain ⟨M, hM⟩ : ∃ M, M = l0.length := ⟨_, rfl⟩
  obtain rfl : n1 = M + 1 := by have := hco.row.ln.1; simp at this; omega
  have hcap := hco.row.ln.2.1
  have hr1 := RowAt.hi' hco.row (k := M) (by simp; omega)
  rw [hM, List.take_left, ← hM] at hr1
  rw [← hM] at hl
  have HCL : Hid (∀ W, Below w.heap.size w W → Calls Try.prog 11 #[.slice p1 M c1] W fun e w' => ∃ v', e = .returned v' ∧ CO W.heap.size w' v' l0 ∧ Below W.heap.size W w') := fun W h => cloneC_any l0 _ W (hr1.below keepNd h) (by omega)
  have hwM : IntKind.i64.wrap (M : Int) = (M : Int) := by rw [IntKind.wrap_i64]; omega
  have hcap2 : (M : Int) ≤ (c1 : Int) := by omega
  clear hp h0 hco hM hr1
  simp only [Nat.add_zero] at hc
  go_enter Try.func35, Try.ntmps35
  go_upto_region 1 with fail
  obtain ⟨W1, hW1⟩ : ∃ W1, W1 = w.alloc (.cells #[.int .u8 op, .int .i64 k, .int .i64 a, .int .i64 b, .int .u64 x, .int .u64 y, .slice (some ⟨bb, oo, none⟩) pn pc] 77) := ⟨_, rfl⟩
  have HQ1 : Hid (Below w.heap.size w W1) := by show Below _ _ _; rw [hW1]; exact (by repeat (first | exact Below.refl _ _ | assumption | refine Below.drew ?_ | refine Below.alloc ?_ (by first | omega | (simp <;> omega)) _ | refine Below.setCell ?_ (by first | omega | (simp <;> omega)) _ | refine Below.trans ?_ (Below.mono (by assumption) (by first | omega | (simp <;> omega)))))
  have HR : Hid (∀ W, Below W1.heap.size W1 W → W.cell? ⟨w.heap.size, 6, none⟩ = some (.slice (some ⟨bb, oo, none⟩) pn pc) ∧ W.cell? ⟨bb, oo, none⟩ = some (.slice p1 (M + 1) c1)) := fun W h => by
    have hs : w.heap.size < W1.heap.size := by rw [hW1]; simp
    refine ⟨(h.cell (p := ⟨w.heap.size, 6, none⟩) hs).trans ?_, (h.cell (p := ⟨bb, oo, none⟩) (Nat.lt_trans hb hs)).trans ((HQ1.out.cell (p := ⟨bb, oo, none⟩) hb).trans hc)⟩
    rw [hW1]; go_simp
  rw [← hW1]
  clear hW1 hc
  refine region_outS (by kernel_rfl) (fun Wk => Below W1.heap.size W1 Wk) (fun w1 w2 h1 h2 => h1.trans (h2.mono h1.size)) (by kernel_rfl) (Below.drew (Below.refl _ _)) ?_
  refine ⟨.eq ?_, trivial, rfl, fun aa ww ll hh => ?_, ?_⟩
  rotate_left
  · have e1 := (hh.old 1 (by kernel_rfl)).trans (evalO rfl)
    simp only [nthO] at e1
    refine out_val (wanted_none rfl) ?_
    clear hh
    generalize aa.eval = ev at e1 ⊢
    go_simp
    try rfl
  refine ⟨.eq ?_, trivial, rfl, fun aa ww ll hh => ?_, ?_⟩
  rotate_left
  · have e3 := hh.get 0 0 (by kernel_rfl) rfl rfl rfl
    obtain ⟨r6, hc⟩ := HR.out ww hh.inv
    refine out_val (wanted_none rfl) ?_
    clear hh
    generalize aa.eval = ev at e3 ⊢
    go_simp
    try rfl
  refine ⟨.eq ?_, trivial, rfl, fun aa ww ll hh => ?_, ?_⟩
  rotate_left
  · have e4 := hh.get 1 0 (by kernel_rfl) rfl rfl rfl
    have ec : ∀ v, aa.eval (.const v) = v := fun _ => rfl
    refine out_val (wanted_none rfl) ?_
    clear hh
    generalize aa.eval = ev at e4 ec ⊢
    go_simp
    try rfl
  refine ⟨.eq ?_, trivial, rfl, fun aa ww ll hh => ?_, ?_⟩
  rotate_left
  · have e5 := hh.get 2 0 (by kernel_rfl) rfl rfl rfl
    obtain ⟨r6, hc⟩ := HR.out ww hh.inv
    refine out_val (wanted_none rfl) ?_
    clear hh
    generalize aa.eval = ev at e5 ⊢
    go_simp
    try rfl
  refine ⟨.eq ?_, trivial, rfl, fun aa ww ll hh => ?_, ?_⟩
  rotate_left
  · have e1 := (hh.old 1 (by kernel_rfl)).trans (evalO rfl)
    simp only [nthO] at e1
    refine out_val (wanted_none rfl) ?_
    clear hh
    generalize aa.eval = ev at e1 ⊢
    go_simp
    try rfl
  refine ⟨.eq ?_, trivial, rfl, fun aa ww ll hh => ?_, ?_⟩
  rotate_left
  · have e7 := hh.get 4 0 (by kernel_rfl) rfl rfl rfl
    obtain ⟨r6, hc⟩ := HR.out ww hh.inv
    refine out_val (wanted_none rfl) ?_
    clear hh
    generalize aa.eval = ev at e7 ⊢
    go_simp
    try rfl
  refine ⟨.eq ?_, trivial, rfl, fun aa ww ll hh => ?_, ?_⟩
  rotate_left
  · have e8 := hh.get 5 0 (by kernel_rfl) rfl rfl rfl
    have ec : ∀ v, aa.eval (.const v) = v := fun _ => rfl
    refine out_val (wanted_none rfl) ?_
    clear hh
    generalize aa.eval = ev at e8 ec ⊢
    go_simp
    try rfl
  refine ⟨.eq ?_, trivial, rfl, fun aa ww ll hh => ?_, ?_⟩
  rotate_left
  · have e9 := hh.get 6 0 (by kernel_rfl) rfl rfl rfl
    obtain ⟨r6, hc⟩ := HR.out ww hh.inv
    refine out_val (wanted_none rfl) ?_
    clear hh
    generalize aa.eval = ev at e9 ⊢
    go_simp
    try rfl
  refine ⟨.eq ?_, trivial, rfl, fun aa ww ll hh => ?_, ?_⟩
  rotate_left
  · have e10 := hh.get 7 0 (by kernel_rfl) rfl rfl rfl
    obtain ⟨r6, hc⟩ := HR.out ww hh.inv
    refine out_val (wanted_none rfl) ?_
    clear hh
    generalize aa.eval = ev at e10 ⊢
    go_simp
    try rfl
  refine ⟨.eq (.int .i64 (M : Int)), trivial, rfl, fun aa ww ll hh => ?_, ?_⟩
  · have e11 := hh.get 8 0 (by kernel_rfl) rfl rfl rfl
    have ec : ∀ v, aa.eval (.const v) = v := fun _ => rfl
    refine out_val (wanted_none rfl) ?_
    clear hh
    generalize aa.eval = ev at e11 ec ⊢
    go_simp
    try rw [hwM]
    try rfl
  refine ⟨.eq ?_, trivial, rfl, fun aa ww ll hh => ?_, ?_⟩
  rotate_left
  · have e6 := hh.get 3 6 (by kernel_rfl) rfl rfl rfl
    have e12 := hh.get 9 0 (by kernel_rfl) rfl rfl rfl
    refine out_val (wanted_none rfl) ?_
    clear hh
    generalize aa.eval = ev at e6 e12 ⊢
    go_simp
    try rfl
  refine ⟨.rel (fun W v => CO w.heap.size W v l0), (fun W W' v h hb => h.below hb), rfl, fun aa ww ll hh => ?_, ?_⟩
  · have e13 := hh.get 10 0 (by kernel_rfl) rfl rfl rfl
    have ef : ∀ f, aa.eval (.func f) = .func (.func f) #[] #[] := fun _ => rfl
    have HI := hh.inv
    refine out_call (wanted_none rfl) ?_ ((HCL.out ww (HQ1.out.trans (HI.mono HQ1.out.size))).mono fun e w9 ⟨v9, h1, h2, h3⟩ => ⟨v9, h1, h2.mono (Nat.le_trans HQ1.out.size HI.size), h3⟩)
    clear hh HI
    generalize aa.eval = ev at e13 ef ⊢
    go_simp
    try rfl
  refine ⟨.rel (fun W v => CO w.heap.size W v l0), (fun W W' v h hb => h.below hb), rfl, fun aa ww ll hh => ?_, ?_⟩
  · obtain ⟨x14, e14, -, p14⟩ := hh.got 11 0 (by kernel_rfl) rfl rfl rfl
    refine out_new (v := x14) (wanted_none rfl) ?_ (Below.refl _ _) p14
    rw [ex_moveO (by first | exact .inl rfl | exact .inr rfl) e14]
  intro ll w2 hS2 hok
  have p12 := hok 12 _ rfl
  clear hok
  simp only [List.reverse_cons, List.reverse_nil, List.nil_append, List.cons_append, layO, Out.val, Act.put, List.setIfInBounds_toArray, List.set_cons_zero, List.set_cons_succ]
  clear HR HCL
  have HB2 : Hid (Below w.heap.size w w2) := HQ1.out.trans (hS2.mono HQ1.out.size)
  have HO2 := Lib.hid p12
  clear p12 hS2
  go_wp2_with fail
  go_ret
  exact ⟨⟨_, rfl, HO2.out⟩, HB2.out⟩

end Go.Proofs.Ytehcclcokgmplaa
