/-
  Layer 35's code, walked: twice, shift, nought.
-/
import Derived.Test.YtehcclcokgmplaaJA15

namespace Go.Proofs.Ytehcclcokgmplaa
open Go.RowKit Go.Maps

/-- A rule's answer: a code, or none. -/
def RetC (base : Nat) (w : World) (o : Option (List Nod)) (e : Ending) (w' : World) : Prop := (∃ p n c, e = .returned (.tuple #[.slice p n c, .bool o.isSome]) ∧ ∀ l, o = some l → CO base w' (.slice p n c) l) ∧ Below w.heap.size w w'

set_option maxRecDepth 100000 in
set_option maxHeartbeats 6400000 in
theorem twice_any (base : Nat) (n : Nod) (ls : List (List Nod)) (l0 : List Nod) (m : Nod) (pp : Option Addr) (pn pc : Nat) (w : World) (hp : Prt base w (.slice pp pn pc) ls) (h0 : ls[0]? = some (l0 ++ [m])) (hl : l0.length ≤ 6000) (hbase : base ≤ w.heap.size) :
    Calls Try.prog 22 #[fndV n (.slice pp pn pc)] w (RetC base w (if (n.op = 7 ∨ n.op = 8) ∧ m.op = n.op then some l0 else none)) := by
  obtain ⟨op, k, a, b, v⟩ := n
  obtain ⟨mop, mk, ma, mb, mv⟩ := m
  dsimp only
  have HLA : Hid (∀ W, Below w.heap.size w W → Calls Try.prog 34 #[fndV ⟨op, k, a, b, v⟩ (.slice pp pn pc)] W fun e w' => e = .returned (ndV ⟨mop, mk, ma, mb, mv⟩) ∧ Below W.heap.size W w') := fun W h => last_any base _ ls l0 _ pp pn pc W (hp.below h) h0 hl
  have HIN : Hid (∀ W, Below w.heap.size w W → Calls Try.prog 35 #[fndV ⟨op, k, a, b, v⟩ (.slice pp pn pc)] W fun e w' => (∃ v, e = .returned v ∧ CO W.heap.size w' v l0) ∧ Below W.heap.size W w') := fun W h => inner_any base _ ls l0 _ pp pn pc W (hp.below h) h0 hl
  obtain ⟨O, hO⟩ : ∃ O, O = (if (op = 7 ∨ op = 8) ∧ mop = op then some l0 else none) := ⟨_, rfl⟩
  rw [← hO]
  unfold fndV ndV at HLA
  unfold fndV at HIN ⊢
  dsimp only at HLA HIN ⊢
  generalize ((v / B : Nat) : Int) = x at *
  generalize ((v % B : Nat) : Int) = y at *
  generalize ((mv / B : Nat) : Int) = mx at *
  generalize ((mv % B : Nat) : Int) = my at *
  obtain ⟨bb, oo, p1, n1, c1, rfl, hb, hc, -⟩ := hp.el h0
  simp only [Nat.add_zero] at hc
  clear hp h0
  obtain ⟨RB, hRB⟩ : ∃ RB, RB = !decide (mop = op) := ⟨_, rfl⟩
  have HO := Lib.hid hO
  clear hO
  have HBS := Lib.hid hbase
  clear hbase
  have hops : op = 7 ∨ op = 8 ∨ (¬ op = 7 ∧ ¬ op = 8) := by omega
  go_enter Try.func22, Try.ntmps22
  go_upto_region 1 with fail
  obtain ⟨W1, hW1⟩ : ∃ W1, W1 = w.alloc (.cells #[.int .u8 op, .int .i64 k, .int .i64 a, .int .i64 b, .int .u64 x, .int .u64 y, .slice (some ⟨bb, oo, none⟩) pn pc] 77) := ⟨_, rfl⟩
  have HQ1 : Hid (Below w.heap.size w W1) := by show Below _ _ _; rw [hW1]; exact (by repeat (first | exact Below.refl _ _ | assumption | refine Below.drew ?_ | refine Below.alloc ?_ (by first | omega | (simp <;> omega)) _ | refine Below.setCell ?_ (by first | omega | (simp <;> omega)) _ | refine Below.trans ?_ (Below.mono (by assumption) (by first | omega | (simp <;> omega)))))
  have hs : w.heap.size < W1.heap.size := by rw [hW1]; simp
  have HR : Hid (∀ W, Below W1.heap.size W1 W → W.cell? ⟨w.heap.size, 0, none⟩ = some (.int .u8 op) ∧ W.cell? ⟨w.heap.size, 1, none⟩ = some (.int .i64 k) ∧ W.cell? ⟨w.heap.size, 2, none⟩ = some (.int .i64 a) ∧ W.cell? ⟨w.heap.size, 3, none⟩ = some (.int .i64 b) ∧ W.cell? ⟨w.heap.size, 4, none⟩ = some (.int .u64 x) ∧ W.cell? ⟨w.heap.size, 5, none⟩ = some (.int .u64 y) ∧ W.cell? ⟨w.heap.size, 6, none⟩ = some (.slice (some ⟨bb, oo, none⟩) pn pc) ∧ W.cell? ⟨bb, oo, none⟩ = some (.slice p1 n1 c1)) := fun W h => by
    refine ⟨(h.cell (p := ⟨w.heap.size, 0, none⟩) hs).trans ?_, (h.cell (p := ⟨w.heap.size, 1, none⟩) hs).trans ?_, (h.cell (p := ⟨w.heap.size, 2, none⟩) hs).trans ?_, (h.cell (p := ⟨w.heap.size, 3, none⟩) hs).trans ?_, (h.cell (p := ⟨w.heap.size, 4, none⟩) hs).trans ?_, (h.cell (p := ⟨w.heap.size, 5, none⟩) hs).trans ?_, (h.cell (p := ⟨w.heap.size, 6, none⟩) hs).trans ?_, (h.cell (p := ⟨bb, oo, none⟩) (Nat.lt_trans hb hs)).trans ((HQ1.out.cell (p := ⟨bb, oo, none⟩) hb).trans hc)⟩
    all_goals (rw [hW1]; go_simp)
  rw [← hW1]
  clear hW1 hc
  rcases hops with rfl | rfl | ⟨h7, h8⟩
  · have HE : Hid (O = if mop = 7 then some l0 else none) := by show O = _; rw [HO.out]; simp
    refine region_outS (by kernel_rfl) (fun Wk => Below W1.heap.size W1 Wk) (fun w1 w2 h1 h2 => h1.trans (h2.mono h1.size)) (by kernel_rfl) (Below.drew (Below.refl _ _)) ?_
    refine ⟨.eq ?_, trivial, rfl, fun aa ww ll hh => ?_, ?_⟩
    rotate_left
    · have e1 := (hh.old 1 (by kernel_rfl)).trans (evalO rfl)
      simp only [nthO] at e1
      refine out_val (wanted_none rfl) ?_
      clear hh
      generalize aa.eval = ev at e1 ⊢
      go_simp
      try rfl
    refine ⟨.eq ?_, trivial, rfl, fun aa ww ll hh => ?_, ?_⟩
    rotate_left
    · have e4 := hh.get 0 0 (by kernel_rfl) rfl rfl rfl
      refine out_val (wanted_none rfl) ?_
      clear hh
      generalize aa.eval = ev at e4 ⊢
      go_simp
      try rfl
    refine ⟨.eq ?_, trivial, rfl, fun aa ww ll hh => ?_, ?_⟩
    rotate_left
    · have e5 := hh.get 1 0 (by kernel_rfl) rfl rfl rfl
      obtain ⟨r0, r1, r2, r3, r4, r5, r6, r7⟩ := HR.out ww hh.inv
      refine out_val (wanted_none rfl) ?_
      clear hh
      generalize aa.eval = ev at e5 ⊢
      go_simp
      try rfl
    refine ⟨.eq (.bool false), trivial, rfl, fun aa ww ll hh => ?_, ?_⟩
    · have e6 := hh.get 2 0 (by kernel_rfl) rfl rfl rfl
      have ec : ∀ v, aa.eval (.const v) = v := fun _ => rfl
      obtain ⟨r0, r1, r2, r3, r4, r5, r6, r7⟩ := HR.out ww hh.inv
      refine out_val (wanted_none rfl) ?_
      clear hh
      generalize aa.eval = ev at e6 ec ⊢
      go_simp
      try simp [*]
    refine ⟨.eq ?_, trivial, rfl, fun aa ww ll hh => ?_, ?_⟩
    rotate_left
    · have e7 := hh.get 3 0 (by kernel_rfl) rfl rfl rfl
      refine out_val (wanted_none rfl) ?_
      rw [ex_moveO (by first | exact .inl rfl | exact .inr rfl) e7]
    refine ⟨.eq ?_, trivial, rfl, fun aa ww ll hh => ?_, ?_⟩
    rotate_left
    · exact out_skip (hh.stop 0 rfl (by kernel_rfl) rfl rfl (.inl rfl))
    refine ⟨.eq ?_, trivial, rfl, fun aa ww ll hh => ?_, ?_⟩
    rotate_left
    · exact out_skip (hh.stop 1 rfl (by kernel_rfl) rfl rfl (.inl rfl))
    refine ⟨.eq ?_, trivial, rfl, fun aa ww ll hh => ?_, ?_⟩
    rotate_left
    · exact out_skip (hh.stop 2 rfl (by kernel_rfl) rfl rfl (.inl rfl))
    refine ⟨.eq ?_, trivial, rfl, fun aa ww ll hh => ?_, ?_⟩
    rotate_left
    · exact out_skip (hh.stop 3 rfl (by kernel_rfl) rfl rfl (.inl rfl))
    refine ⟨.eq ?_, trivial, rfl, fun aa ww ll hh => ?_, ?_⟩
    rotate_left
    · have e8 := hh.get 4 4 (by kernel_rfl) rfl rfl rfl
      have e12 := hh.get 8 0 (by kernel_rfl) rfl rfl rfl
      have ec : ∀ v, aa.eval (.const v) = v := fun _ => rfl
      refine out_val (wanted_none rfl) ?_
      clear hh
      generalize aa.eval = ev at e8 e12 ec ⊢
      go_simp
      try rfl
    refine ⟨.eq ?_, trivial, rfl, fun aa ww ll hh => ?_, ?_⟩
    rotate_left
    · have e13 := hh.get 9 0 (by kernel_rfl) rfl rfl rfl
      refine out_val (wanted_none rfl) ?_
      rw [ex_moveO (by first | exact .inl rfl | exact .inr rfl) e13]
    refine ⟨.eq ?_, trivial, rfl, fun aa ww ll hh => ?_, ?_⟩
    rotate_left
    · have e1 := (hh.old 1 (by kernel_rfl)).trans (evalO rfl)
      simp only [nthO] at e1
      obtain ⟨r0, r1, r2, r3, r4, r5, r6, r7⟩ := HR.out ww hh.inv
      refine out_val (hh.go 0 rfl (by kernel_rfl) rfl rfl) ?_
      clear hh
      generalize aa.eval = ev at e1 ⊢
      go_simp
      try rfl
    refine ⟨.eq (.agg #[.int .u8 mop, .int .i64 mk, .int .i64 ma, .int .i64 mb, .int .u64 mx, .int .u64 my]), trivial, rfl, fun aa ww ll hh => ?_, ?_⟩
    · have e15 := hh.get 11 0 (by kernel_rfl) rfl rfl rfl
      have ef : ∀ f, aa.eval (.func f) = .func (.func f) #[] #[] := fun _ => rfl
      refine out_call_eq (hh.go 1 rfl (by kernel_rfl) rfl rfl) ?_ (HLA.out ww (HQ1.out.trans (hh.inv.mono HQ1.out.size)))
      clear hh
      generalize aa.eval = ev at e15 ef ⊢
      go_simp
      try rfl
    refine ⟨.eq ?_, trivial, rfl, fun aa ww ll hh => ?_, ?_⟩
    rotate_left
    · have e16 := hh.get 12 0 (by kernel_rfl) rfl rfl rfl
      refine out_val (hh.go 2 rfl (by kernel_rfl) rfl rfl) ?_
      clear hh
      generalize aa.eval = ev at e16 ⊢
      go_simp
      try rfl
    refine ⟨.eq ?_, trivial, rfl, fun aa ww ll hh => ?_, ?_⟩
    rotate_left
    · have e1 := (hh.old 1 (by kernel_rfl)).trans (evalO rfl)
      simp only [nthO] at e1
      refine out_val (hh.go 3 rfl (by kernel_rfl) rfl rfl) ?_
      clear hh
      generalize aa.eval = ev at e1 ⊢
      go_simp
      try rfl
    refine ⟨.eq ?_, trivial, rfl, fun aa ww ll hh => ?_, ?_⟩
    rotate_left
    · have e18 := hh.get 14 0 (by kernel_rfl) rfl rfl rfl
      refine out_val (hh.go 4 rfl (by kernel_rfl) rfl rfl) ?_
      clear hh
      generalize aa.eval = ev at e18 ⊢
      go_simp
      try rfl
    refine ⟨.eq ?_, trivial, rfl, fun aa ww ll hh => ?_, ?_⟩
    rotate_left
    · have e19 := hh.get 15 0 (by kernel_rfl) rfl rfl rfl
      obtain ⟨r0, r1, r2, r3, r4, r5, r6, r7⟩ := HR.out ww hh.inv
      refine out_val (hh.go 5 rfl (by kernel_rfl) rfl rfl) ?_
      clear hh
      generalize aa.eval = ev at e19 ⊢
      go_simp
      try rfl
    refine ⟨.eq (.bool RB), trivial, rfl, fun aa ww ll hh => ?_, ?_⟩
    · have e17 := hh.get 13 3 (by kernel_rfl) rfl rfl rfl
      have e20 := hh.get 16 0 (by kernel_rfl) rfl rfl rfl
      refine out_val (hh.go 6 rfl (by kernel_rfl) rfl rfl) ?_
      clear hh
      generalize aa.eval = ev at e17 e20 ⊢
      go_simp
      try simp [bne]
      try rfl
    refine ⟨.eq (.bool RB), trivial, rfl, fun aa ww ll hh => ?_, ?_⟩
    · have e14 := hh.get 10 7 (by kernel_rfl) rfl rfl rfl
      have e21 := hh.get 17 0 (by kernel_rfl) rfl rfl rfl
      have ec : ∀ v, aa.eval (.const v) = v := fun _ => rfl
      refine out_val (wanted_none rfl) ?_
      clear hh
      generalize aa.eval = ev at e14 e21 ec ⊢
      go_simp
      try simp [*]
    intro ll w2 hS2 hok
    clear hok
    simp only [List.reverse_cons, List.reverse_nil, List.nil_append, List.cons_append, layO, Out.val, Act.put, List.setIfInBounds_toArray, List.set_cons_zero, List.set_cons_succ]
    have HB2 : Hid (Below w.heap.size w w2) := HQ1.out.trans (hS2.mono HQ1.out.size)
    obtain ⟨r0, r1, r2, r3, r4, r5, r6, r7⟩ := HR.out w2 hS2
    clear hS2
    by_cases he : mop = 7
    · have HE2 : Hid (O = some l0) := by show O = _; rw [HE.out, if_pos he]
      obtain rfl : RB = false := by rw [hRB]; simp [he]
      clear hRB he
      go_wp2_with (go_at_call 35; refine (HIN.out _ HB2.out).mono ?_; rintro e w3 ⟨⟨z, rfl, g1⟩, g2⟩; obtain ⟨p3, c3, rfl⟩ := g1.shape; have HO3 := Lib.hid g1; have HB3 := Lib.hid g2; clear g1 g2)
      refine bodyPost_ret (results_tmp2 rfl _ _ _) rfl ?_
      rw [HE2.out]
      exact ⟨⟨_, _, _, rfl, fun l h => by cases h; exact HO3.out.mono (Nat.le_trans HBS.out HB2.out.size)⟩, HB2.out.trans (HB3.out.mono HB2.out.size)⟩
    · have HE2 : Hid (O = none) := by show O = _; rw [HE.out, if_neg he]
      obtain rfl : RB = true := by rw [hRB]; simp [he]
      clear hRB he
      go_wp2_with fail
      refine bodyPost_ret (results_tmp2 rfl _ _ _) rfl ?_
      rw [HE2.out]
      exact ⟨⟨_, _, _, rfl, fun l h => by cases h⟩, HB2.out⟩
  · have HE : Hid (O = if mop = 8 then some l0 else none) := by show O = _; rw [HO.out]; simp
    refine region_outS (by kernel_rfl) (fun Wk => Below W1.heap.size W1 Wk) (fun w1 w2 h1 h2 => h1.trans (h2.mono h1.size)) (by kernel_rfl) (Below.drew (Below.refl _ _)) ?_
    refine ⟨.eq ?_, trivial, rfl, fun aa ww ll hh => ?_, ?_⟩
    rotate_left
    · have e1 := (hh.old 1 (by kernel_rfl)).trans (evalO rfl)
      simp only [nthO] at e1
      refine out_val (wanted_none rfl) ?_
      clear hh
      generalize aa.eval = ev at e1 ⊢
      go_simp
      try rfl
    refine ⟨.eq ?_, trivial, rfl, fun aa ww ll hh => ?_, ?_⟩
    rotate_left
    · have e4 := hh.get 0 0 (by kernel_rfl) rfl rfl rfl
      refine out_val (wanted_none rfl) ?_
      clear hh
      generalize aa.eval = ev at e4 ⊢
      go_simp
      try rfl
    refine ⟨.eq ?_, trivial, rfl, fun aa ww ll hh => ?_, ?_⟩
    rotate_left
    · have e5 := hh.get 1 0 (by kernel_rfl) rfl rfl rfl
      obtain ⟨r0, r1, r2, r3, r4, r5, r6, r7⟩ := HR.out ww hh.inv
      refine out_val (wanted_none rfl) ?_
      clear hh
      generalize aa.eval = ev at e5 ⊢
      go_simp
      try rfl
    refine ⟨.eq (.bool true), trivial, rfl, fun aa ww ll hh => ?_, ?_⟩
    · have e6 := hh.get 2 0 (by kernel_rfl) rfl rfl rfl
      have ec : ∀ v, aa.eval (.const v) = v := fun _ => rfl
      obtain ⟨r0, r1, r2, r3, r4, r5, r6, r7⟩ := HR.out ww hh.inv
      refine out_val (wanted_none rfl) ?_
      clear hh
      generalize aa.eval = ev at e6 ec ⊢
      go_simp
      try simp [*]
    refine ⟨.eq ?_, trivial, rfl, fun aa ww ll hh => ?_, ?_⟩
    rotate_left
    · have e7 := hh.get 3 0 (by kernel_rfl) rfl rfl rfl
      refine out_val (wanted_none rfl) ?_
      rw [ex_moveO (by first | exact .inl rfl | exact .inr rfl) e7]
    refine ⟨.eq ?_, trivial, rfl, fun aa ww ll hh => ?_, ?_⟩
    rotate_left
    · have e1 := (hh.old 1 (by kernel_rfl)).trans (evalO rfl)
      simp only [nthO] at e1
      refine out_val (hh.go 0 rfl (by kernel_rfl) rfl rfl) ?_
      clear hh
      generalize aa.eval = ev at e1 ⊢
      go_simp
      try rfl
    refine ⟨.eq ?_, trivial, rfl, fun aa ww ll hh => ?_, ?_⟩
    rotate_left
    · have e9 := hh.get 5 0 (by kernel_rfl) rfl rfl rfl
      refine out_val (hh.go 1 rfl (by kernel_rfl) rfl rfl) ?_
      clear hh
      generalize aa.eval = ev at e9 ⊢
      go_simp
      try rfl
    refine ⟨.eq ?_, trivial, rfl, fun aa ww ll hh => ?_, ?_⟩
    rotate_left
    · have e10 := hh.get 6 0 (by kernel_rfl) rfl rfl rfl
      obtain ⟨r0, r1, r2, r3, r4, r5, r6, r7⟩ := HR.out ww hh.inv
      refine out_val (hh.go 2 rfl (by kernel_rfl) rfl rfl) ?_
      clear hh
      generalize aa.eval = ev at e10 ⊢
      go_simp
      try rfl
    refine ⟨.eq (.bool false), trivial, rfl, fun aa ww ll hh => ?_, ?_⟩
    · have e11 := hh.get 7 0 (by kernel_rfl) rfl rfl rfl
      have ec : ∀ v, aa.eval (.const v) = v := fun _ => rfl
      obtain ⟨r0, r1, r2, r3, r4, r5, r6, r7⟩ := HR.out ww hh.inv
      refine out_val (hh.go 3 rfl (by kernel_rfl) rfl rfl) ?_
      clear hh
      generalize aa.eval = ev at e11 ec ⊢
      go_simp
      try simp [*]
    refine ⟨.eq ?_, trivial, rfl, fun aa ww ll hh => ?_, ?_⟩
    rotate_left
    · have e8 := hh.get 4 4 (by kernel_rfl) rfl rfl rfl
      have e12 := hh.get 8 0 (by kernel_rfl) rfl rfl rfl
      have ec : ∀ v, aa.eval (.const v) = v := fun _ => rfl
      refine out_val (wanted_none rfl) ?_
      clear hh
      generalize aa.eval = ev at e8 e12 ec ⊢
      go_simp
      try rfl
    refine ⟨.eq ?_, trivial, rfl, fun aa ww ll hh => ?_, ?_⟩
    rotate_left
    · have e13 := hh.get 9 0 (by kernel_rfl) rfl rfl rfl
      refine out_val (wanted_none rfl) ?_
      rw [ex_moveO (by first | exact .inl rfl | exact .inr rfl) e13]
    refine ⟨.eq ?_, trivial, rfl, fun aa ww ll hh => ?_, ?_⟩
    rotate_left
    · have e1 := (hh.old 1 (by kernel_rfl)).trans (evalO rfl)
      simp only [nthO] at e1
      obtain ⟨r0, r1, r2, r3, r4, r5, r6, r7⟩ := HR.out ww hh.inv
      refine out_val (hh.go 0 rfl (by kernel_rfl) rfl rfl) ?_
      clear hh
      generalize aa.eval = ev at e1 ⊢
      go_simp
      try rfl
    refine ⟨.eq (.agg #[.int .u8 mop, .int .i64 mk, .int .i64 ma, .int .i64 mb, .int .u64 mx, .int .u64 my]), trivial, rfl, fun aa ww ll hh => ?_, ?_⟩
    · have e15 := hh.get 11 0 (by kernel_rfl) rfl rfl rfl
      have ef : ∀ f, aa.eval (.func f) = .func (.func f) #[] #[] := fun _ => rfl
      refine out_call_eq (hh.go 1 rfl (by kernel_rfl) rfl rfl) ?_ (HLA.out ww (HQ1.out.trans (hh.inv.mono HQ1.out.size)))
      clear hh
      generalize aa.eval = ev at e15 ef ⊢
      go_simp
      try rfl
    refine ⟨.eq ?_, trivial, rfl, fun aa ww ll hh => ?_, ?_⟩
    rotate_left
    · have e16 := hh.get 12 0 (by kernel_rfl) rfl rfl rfl
      refine out_val (hh.go 2 rfl (by kernel_rfl) rfl rfl) ?_
      clear hh
      generalize aa.eval = ev at e16 ⊢
      go_simp
      try rfl
    refine ⟨.eq ?_, trivial, rfl, fun aa ww ll hh => ?_, ?_⟩
    rotate_left
    · have e1 := (hh.old 1 (by kernel_rfl)).trans (evalO rfl)
      simp only [nthO] at e1
      refine out_val (hh.go 3 rfl (by kernel_rfl) rfl rfl) ?_
      clear hh
      generalize aa.eval = ev at e1 ⊢
      go_simp
      try rfl
    refine ⟨.eq ?_, trivial, rfl, fun aa ww ll hh => ?_, ?_⟩
    rotate_left
    · have e18 := hh.get 14 0 (by kernel_rfl) rfl rfl rfl
      refine out_val (hh.go 4 rfl (by kernel_rfl) rfl rfl) ?_
      clear hh
      generalize aa.eval = ev at e18 ⊢
      go_simp
      try rfl
    refine ⟨.eq ?_, trivial, rfl, fun aa ww ll hh => ?_, ?_⟩
    rotate_left
    · have e19 := hh.get 15 0 (by kernel_rfl) rfl rfl rfl
      obtain ⟨r0, r1, r2, r3, r4, r5, r6, r7⟩ := HR.out ww hh.inv
      refine out_val (hh.go 5 rfl (by kernel_rfl) rfl rfl) ?_
      clear hh
      generalize aa.eval = ev at e19 ⊢
      go_simp
      try rfl
    refine ⟨.eq (.bool RB), trivial, rfl, fun aa ww ll hh => ?_, ?_⟩
    · have e17 := hh.get 13 3 (by kernel_rfl) rfl rfl rfl
      have e20 := hh.get 16 0 (by kernel_rfl) rfl rfl rfl
      refine out_val (hh.go 6 rfl (by kernel_rfl) rfl rfl) ?_
      clear hh
      generalize aa.eval = ev at e17 e20 ⊢
      go_simp
      try simp [bne]
      try rfl
    refine ⟨.eq (.bool RB), trivial, rfl, fun aa ww ll hh => ?_, ?_⟩
    · have e14 := hh.get 10 7 (by kernel_rfl) rfl rfl rfl
      have e21 := hh.get 17 0 (by kernel_rfl) rfl rfl rfl
      have ec : ∀ v, aa.eval (.const v) = v := fun _ => rfl
      refine out_val (wanted_none rfl) ?_
      clear hh
      generalize aa.eval = ev at e14 e21 ec ⊢
      go_simp
      try simp [*]
    intro ll w2 hS2 hok
    clear hok
    simp only [List.reverse_cons, List.reverse_nil, List.nil_append, List.cons_append, layO, Out.val, Act.put, List.setIfInBounds_toArray, List.set_cons_zero, List.set_cons_succ]
    have HB2 : Hid (Below w.heap.size w w2) := HQ1.out.trans (hS2.mono HQ1.out.size)
    obtain ⟨r0, r1, r2, r3, r4, r5, r6, r7⟩ := HR.out w2 hS2
    clear hS2
    by_cases he : mop = 8
    · have HE2 : Hid (O = some l0) := by show O = _; rw [HE.out, if_pos he]
      obtain rfl : RB = false := by rw [hRB]; simp [he]
      clear hRB he
      go_wp2_with (go_at_call 35; refine (HIN.out _ HB2.out).mono ?_; rintro e w3 ⟨⟨z, rfl, g1⟩, g2⟩; obtain ⟨p3, c3, rfl⟩ := g1.shape; have HO3 := Lib.hid g1; have HB3 := Lib.hid g2; clear g1 g2)
      refine bodyPost_ret (results_tmp2 rfl _ _ _) rfl ?_
      rw [HE2.out]
      exact ⟨⟨_, _, _, rfl, fun l h => by cases h; exact HO3.out.mono (Nat.le_trans HBS.out HB2.out.size)⟩, HB2.out.trans (HB3.out.mono HB2.out.size)⟩
    · have HE2 : Hid (O = none) := by show O = _; rw [HE.out, if_neg he]
      obtain rfl : RB = true := by rw [hRB]; simp [he]
      clear hRB he
      go_wp2_with fail
      refine bodyPost_ret (results_tmp2 rfl _ _ _) rfl ?_
      rw [HE2.out]
      exact ⟨⟨_, _, _, rfl, fun l h => by cases h⟩, HB2.out⟩
  · have HE : Hid (O = none) := by show O = _; rw [HO.out]; simp [h7, h8]
    refine region_outS (by kernel_rfl) (fun Wk => Below W1.heap.size W1 Wk) (fun w1 w2 h1 h2 => h1.trans (h2.mono h1.size)) (by kernel_rfl) (Below.drew (Below.refl _ _)) ?_
    refine ⟨.eq ?_, trivial, rfl, fun aa ww ll hh => ?_, ?_⟩
    rotate_left
    · have e1 := (hh.old 1 (by kernel_rfl)).trans (evalO rfl)
      simp only [nthO] at e1
      refine out_val (wanted_none rfl) ?_
      clear hh
      generalize aa.eval = ev at e1 ⊢
      go_simp
      try rfl
    refine ⟨.eq ?_, trivial, rfl, fun aa ww ll hh => ?_, ?_⟩
    rotate_left
    · have e4 := hh.get 0 0 (by kernel_rfl) rfl rfl rfl
      refine out_val (wanted_none rfl) ?_
      clear hh
      generalize aa.eval = ev at e4 ⊢
      go_simp
      try rfl
    refine ⟨.eq ?_, trivial, rfl, fun aa ww ll hh => ?_, ?_⟩
    rotate_left
    · have e5 := hh.get 1 0 (by kernel_rfl) rfl rfl rfl
      obtain ⟨r0, r1, r2, r3, r4, r5, r6, r7⟩ := HR.out ww hh.inv
      refine out_val (wanted_none rfl) ?_
      clear hh
      generalize aa.eval = ev at e5 ⊢
      go_simp
      try rfl
    refine ⟨.eq (.bool true), trivial, rfl, fun aa ww ll hh => ?_, ?_⟩
    · have e6 := hh.get 2 0 (by kernel_rfl) rfl rfl rfl
      have ec : ∀ v, aa.eval (.const v) = v := fun _ => rfl
      obtain ⟨r0, r1, r2, r3, r4, r5, r6, r7⟩ := HR.out ww hh.inv
      refine out_val (wanted_none rfl) ?_
      clear hh
      generalize aa.eval = ev at e6 ec ⊢
      go_simp
      try simp [*]
    refine ⟨.eq ?_, trivial, rfl, fun aa ww ll hh => ?_, ?_⟩
    rotate_left
    · have e7 := hh.get 3 0 (by kernel_rfl) rfl rfl rfl
      refine out_val (wanted_none rfl) ?_
      rw [ex_moveO (by first | exact .inl rfl | exact .inr rfl) e7]
    refine ⟨.eq ?_, trivial, rfl, fun aa ww ll hh => ?_, ?_⟩
    rotate_left
    · have e1 := (hh.old 1 (by kernel_rfl)).trans (evalO rfl)
      simp only [nthO] at e1
      refine out_val (hh.go 0 rfl (by kernel_rfl) rfl rfl) ?_
      clear hh
      generalize aa.eval = ev at e1 ⊢
      go_simp
      try rfl
    refine ⟨.eq ?_, trivial, rfl, fun aa ww ll hh => ?_, ?_⟩
    rotate_left
    · have e9 := hh.get 5 0 (by kernel_rfl) rfl rfl rfl
      refine out_val (hh.go 1 rfl (by kernel_rfl) rfl rfl) ?_
      clear hh
      generalize aa.eval = ev at e9 ⊢
      go_simp
      try rfl
    refine ⟨.eq ?_, trivial, rfl, fun aa ww ll hh => ?_, ?_⟩
    rotate_left
    · have e10 := hh.get 6 0 (by kernel_rfl) rfl rfl rfl
      obtain ⟨r0, r1, r2, r3, r4, r5, r6, r7⟩ := HR.out ww hh.inv
      refine out_val (hh.go 2 rfl (by kernel_rfl) rfl rfl) ?_
      clear hh
      generalize aa.eval = ev at e10 ⊢
      go_simp
      try rfl
    refine ⟨.eq (.bool true), trivial, rfl, fun aa ww ll hh => ?_, ?_⟩
    · have e11 := hh.get 7 0 (by kernel_rfl) rfl rfl rfl
      have ec : ∀ v, aa.eval (.const v) = v := fun _ => rfl
      obtain ⟨r0, r1, r2, r3, r4, r5, r6, r7⟩ := HR.out ww hh.inv
      refine out_val (hh.go 3 rfl (by kernel_rfl) rfl rfl) ?_
      clear hh
      generalize aa.eval = ev at e11 ec ⊢
      go_simp
      try simp [*]
    refine ⟨.eq ?_, trivial, rfl, fun aa ww ll hh => ?_, ?_⟩
    rotate_left
    · have e8 := hh.get 4 4 (by kernel_rfl) rfl rfl rfl
      have e12 := hh.get 8 0 (by kernel_rfl) rfl rfl rfl
      have ec : ∀ v, aa.eval (.const v) = v := fun _ => rfl
      refine out_val (wanted_none rfl) ?_
      clear hh
      generalize aa.eval = ev at e8 e12 ec ⊢
      go_simp
      try rfl
    refine ⟨.eq ?_, trivial, rfl, fun aa ww ll hh => ?_, ?_⟩
    rotate_left
    · have e13 := hh.get 9 0 (by kernel_rfl) rfl rfl rfl
      refine out_val (wanted_none rfl) ?_
      rw [ex_moveO (by first | exact .inl rfl | exact .inr rfl) e13]
    refine ⟨.eq ?_, trivial, rfl, fun aa ww ll hh => ?_, ?_⟩
    rotate_left
    · exact out_skip (hh.stop 0 rfl (by kernel_rfl) rfl rfl (.inl rfl))
    refine ⟨.eq ?_, trivial, rfl, fun aa ww ll hh => ?_, ?_⟩
    rotate_left
    · exact out_skip (hh.stop 1 rfl (by kernel_rfl) rfl rfl (.inl rfl))
    refine ⟨.eq ?_, trivial, rfl, fun aa ww ll hh => ?_, ?_⟩
    rotate_left
    · exact out_skip (hh.stop 2 rfl (by kernel_rfl) rfl rfl (.inl rfl))
    refine ⟨.eq ?_, trivial, rfl, fun aa ww ll hh => ?_, ?_⟩
    rotate_left
    · exact out_skip (hh.stop 3 rfl (by kernel_rfl) rfl rfl (.inl rfl))
    refine ⟨.eq ?_, trivial, rfl, fun aa ww ll hh => ?_, ?_⟩
    rotate_left
    · exact out_skip (hh.stop 4 rfl (by kernel_rfl) rfl rfl (.inl rfl))
    refine ⟨.eq ?_, trivial, rfl, fun aa ww ll hh => ?_, ?_⟩
    rotate_left
    · exact out_skip (hh.stop 5 rfl (by kernel_rfl) rfl rfl (.inl rfl))
    refine ⟨.eq ?_, trivial, rfl, fun aa ww ll hh => ?_, ?_⟩
    rotate_left
    · exact out_skip (hh.stop 6 rfl (by kernel_rfl) rfl rfl (.inl rfl))
    refine ⟨.eq (.bool true), trivial, rfl, fun aa ww ll hh => ?_, ?_⟩
    · have e14 := hh.get 10 7 (by kernel_rfl) rfl rfl rfl
      have e21 := hh.get 17 0 (by kernel_rfl) rfl rfl rfl
      have ec : ∀ v, aa.eval (.const v) = v := fun _ => rfl
      refine out_val (wanted_none rfl) ?_
      clear hh
      generalize aa.eval = ev at e14 e21 ec ⊢
      go_simp
      try simp [*]
    intro ll w2 hS2 hok
    clear hok
    simp only [List.reverse_cons, List.reverse_nil, List.nil_append, List.cons_append, layO, Out.val, Act.put, List.setIfInBounds_toArray, List.set_cons_zero, List.set_cons_succ]
    have HB2 : Hid (Below w.heap.size w w2) := HQ1.out.trans (hS2.mono HQ1.out.size)
    clear hS2
    go_wp2_with fail
    refine bodyPost_ret (results_tmp2 rfl _ _ _) rfl ?_
    rw [HE.out]
    exact ⟨⟨_, _, _, rfl, fun l h => by cases h⟩, HB2.out⟩

set_option maxRecDepth 100000 in
set_option maxHeartbeats 6400000 in
theorem shift_any (base : Nat) (n : Nod) (ls : List (List Nod)) (l0 : List Nod) (pp : Option Addr) (pn pc : Nat) (w : World) (hp : Prt base w (.slice pp pn pc) ls) (h0 : ls[0]? = some l0) :
    Calls Try.prog 24 #[fndV n (.slice pp pn pc)] w (RetC base w (if shf n then some l0 else none)) := by
  obtain ⟨op, k, a, b, v⟩ := n
  obtain ⟨O, hO⟩ : ∃ O, O = (if shf ⟨op, k, a, b, v⟩ then some l0 else none) := ⟨_, rfl⟩
  rw [← hO]
  unfold fndV
  dsimp only
  generalize ((v / B : Nat) : Int) = x at *
  generalize ((v % B : Nat) : Int) = y at *
  have hpn : (0 : Int) < (pn : Int) := by
    have h1 := hp.len
    have h2 := (List.getElem?_eq_some_iff.1 h0).1
    omega
  have hpn2 : 0 < pn := by omega
  obtain ⟨bb, oo, p1, n1, c1, rfl, hb, hc, hco⟩ := hp.el h0
  simp only [Nat.add_zero] at hc
  have HCO := Lib.hid hco
  clear hp h0 hco
  obtain ⟨RB, hRB⟩ : ∃ RB, RB = decide (a = 0) := ⟨_, rfl⟩
  have HRB := Lib.hid hRB
  clear hRB
  have HOL : Hid (∀ l, O = some l → l = l0) := fun l h => by
    by_cases hq : shf ⟨op, k, a, b, v⟩
    · rw [hO, if_pos hq] at h; exact (Option.some.inj h).symm
    · rw [hO, if_neg hq] at h; cases h
  have HOS : Hid (O.isSome = decide ((op = 13 ∨ op = 14) ∧ a = 0)) := by
    show O.isSome = _
    by_cases hq : shf ⟨op, k, a, b, v⟩
    · rw [hO, if_pos hq, decide_eq_true (show (op = 13 ∨ op = 14) ∧ a = 0 from hq)]; rfl
    · rw [hO, if_neg hq, decide_eq_false (show ¬ ((op = 13 ∨ op = 14) ∧ a = 0) from hq)]; rfl
  clear hO
  have hops : op = 13 ∨ op = 14 ∨ (¬ op = 13 ∧ ¬ op = 14) := by omega
  go_enter Try.func24, Try.ntmps24
  go_upto_region 1 with fail
  obtain ⟨W1, hW1⟩ : ∃ W1, W1 = w.alloc (.cells #[.int .u8 op, .int .i64 k, .int .i64 a, .int .i64 b, .int .u64 x, .int .u64 y, .slice (some ⟨bb, oo, none⟩) pn pc] 77) := ⟨_, rfl⟩
  have HQ1 : Hid (Below w.heap.size w W1) := by show Below _ _ _; rw [hW1]; exact (by repeat (first | exact Below.refl _ _ | assumption | refine Below.drew ?_ | refine Below.alloc ?_ (by first | omega | (simp <;> omega)) _ | refine Below.setCell ?_ (by first | omega | (simp <;> omega)) _ | refine Below.trans ?_ (Below.mono (by assumption) (by first | omega | (simp <;> omega)))))
  have hs : w.heap.size < W1.heap.size := by rw [hW1]; simp
  have HR : Hid (∀ W, Below W1.heap.size W1 W → W.cell? ⟨w.heap.size, 0, none⟩ = some (.int .u8 op) ∧ W.cell? ⟨w.heap.size, 1, none⟩ = some (.int .i64 k) ∧ W.cell? ⟨w.heap.size, 2, none⟩ = some (.int .i64 a) ∧ W.cell? ⟨w.heap.size, 3, none⟩ = some (.int .i64 b) ∧ W.cell? ⟨w.heap.size, 4, none⟩ = some (.int .u64 x) ∧ W.cell? ⟨w.heap.size, 5, none⟩ = some (.int .u64 y) ∧ W.cell? ⟨w.heap.size, 6, none⟩ = some (.slice (some ⟨bb, oo, none⟩) pn pc) ∧ W.cell? ⟨bb, oo, none⟩ = some (.slice p1 n1 c1)) := fun W h => by
    refine ⟨(h.cell (p := ⟨w.heap.size, 0, none⟩) hs).trans ?_, (h.cell (p := ⟨w.heap.size, 1, none⟩) hs).trans ?_, (h.cell (p := ⟨w.heap.size, 2, none⟩) hs).trans ?_, (h.cell (p := ⟨w.heap.size, 3, none⟩) hs).trans ?_, (h.cell (p := ⟨w.heap.size, 4, none⟩) hs).trans ?_, (h.cell (p := ⟨w.heap.size, 5, none⟩) hs).trans ?_, (h.cell (p := ⟨w.heap.size, 6, none⟩) hs).trans ?_, (h.cell (p := ⟨bb, oo, none⟩) (Nat.lt_trans hb hs)).trans ((HQ1.out.cell (p := ⟨bb, oo, none⟩) hb).trans hc)⟩
    all_goals (rw [hW1]; go_simp)
  rw [← hW1]
  clear hW1 hc
  rcases hops with rfl | rfl | ⟨h7, h8⟩
  · skip
    refine region_outS (by kernel_rfl) (fun Wk => Below W1.heap.size W1 Wk) (fun w1 w2 h1 h2 => h1.trans (h2.mono h1.size)) (by kernel_rfl) (Below.drew (Below.refl _ _)) ?_
    refine ⟨.eq ?_, trivial, rfl, fun aa ww ll hh => ?_, ?_⟩
    rotate_left
    · have e1 := (hh.old 1 (by kernel_rfl)).trans (evalO rfl)
      simp only [nthO] at e1
      refine out_val (wanted_none rfl) ?_
      clear hh
      generalize aa.eval = ev at e1 ⊢
      go_simp
      try rfl
    refine ⟨.eq ?_, trivial, rfl, fun aa ww ll hh => ?_, ?_⟩
    rotate_left
    · have e4 := hh.get 0 0 (by kernel_rfl) rfl rfl rfl
      obtain ⟨r0, r1, r2, r3, r4, r5, r6, r7⟩ := HR.out ww hh.inv
      refine out_val (wanted_none rfl) ?_
      clear hh
      generalize aa.eval = ev at e4 ⊢
      go_simp
      try rfl
    refine ⟨.eq ?_, trivial, rfl, fun aa ww ll hh => ?_, ?_⟩
    rotate_left
    · have e5 := hh.get 1 0 (by kernel_rfl) rfl rfl rfl
      have ec : ∀ v, aa.eval (.const v) = v := fun _ => rfl
      refine out_val (wanted_none rfl) ?_
      clear hh
      generalize aa.eval = ev at e5 ec ⊢
      go_simp
      try rfl
    refine ⟨.eq ?_, trivial, rfl, fun aa ww ll hh => ?_, ?_⟩
    rotate_left
    · have e6 := hh.get 2 0 (by kernel_rfl) rfl rfl rfl
      obtain ⟨r0, r1, r2, r3, r4, r5, r6, r7⟩ := HR.out ww hh.inv
      refine out_val (wanted_none rfl) ?_
      clear hh
      generalize aa.eval = ev at e6 ⊢
      go_simp
      try rfl
    refine ⟨.eq ?_, trivial, rfl, fun aa ww ll hh => ?_, ?_⟩
    rotate_left
    · have e1 := (hh.old 1 (by kernel_rfl)).trans (evalO rfl)
      simp only [nthO] at e1
      refine out_val (wanted_none rfl) ?_
      clear hh
      generalize aa.eval = ev at e1 ⊢
      go_simp
      try rfl
    refine ⟨.eq ?_, trivial, rfl, fun aa ww ll hh => ?_, ?_⟩
    rotate_left
    · have e8 := hh.get 4 0 (by kernel_rfl) rfl rfl rfl
      refine out_val (wanted_none rfl) ?_
      clear hh
      generalize aa.eval = ev at e8 ⊢
      go_simp
      try rfl
    refine ⟨.eq ?_, trivial, rfl, fun aa ww ll hh => ?_, ?_⟩
    rotate_left
    · have e9 := hh.get 5 0 (by kernel_rfl) rfl rfl rfl
      obtain ⟨r0, r1, r2, r3, r4, r5, r6, r7⟩ := HR.out ww hh.inv
      refine out_val (wanted_none rfl) ?_
      clear hh
      generalize aa.eval = ev at e9 ⊢
      go_simp
      try rfl
    refine ⟨.eq (.bool true), trivial, rfl, fun aa ww ll hh => ?_, ?_⟩
    · have e10 := hh.get 6 0 (by kernel_rfl) rfl rfl rfl
      have ec : ∀ v, aa.eval (.const v) = v := fun _ => rfl
      obtain ⟨r0, r1, r2, r3, r4, r5, r6, r7⟩ := HR.out ww hh.inv
      refine out_val (wanted_none rfl) ?_
      clear hh
      generalize aa.eval = ev at e10 ec ⊢
      go_simp
      try simp [*]
    refine ⟨.eq ?_, trivial, rfl, fun aa ww ll hh => ?_, ?_⟩
    rotate_left
    · have e11 := hh.get 7 0 (by kernel_rfl) rfl rfl rfl
      refine out_val (wanted_none rfl) ?_
      rw [ex_moveO (by first | exact .inl rfl | exact .inr rfl) e11]
    refine ⟨.eq ?_, trivial, rfl, fun aa ww ll hh => ?_, ?_⟩
    rotate_left
    · exact out_skip (hh.stop 0 rfl (by kernel_rfl) rfl rfl (.inl rfl))
    refine ⟨.eq ?_, trivial, rfl, fun aa ww ll hh => ?_, ?_⟩
    rotate_left
    · exact out_skip (hh.stop 1 rfl (by kernel_rfl) rfl rfl (.inl rfl))
    refine ⟨.eq ?_, trivial, rfl, fun aa ww ll hh => ?_, ?_⟩
    rotate_left
    · exact out_skip (hh.stop 2 rfl (by kernel_rfl) rfl rfl (.inl rfl))
    refine ⟨.eq ?_, trivial, rfl, fun aa ww ll hh => ?_, ?_⟩
    rotate_left
    · exact out_skip (hh.stop 3 rfl (by kernel_rfl) rfl rfl (.inl rfl))
    refine ⟨.eq ?_, trivial, rfl, fun aa ww ll hh => ?_, ?_⟩
    rotate_left
    · have e12 := hh.get 8 4 (by kernel_rfl) rfl rfl rfl
      have e16 := hh.get 12 0 (by kernel_rfl) rfl rfl rfl
      have ec : ∀ v, aa.eval (.const v) = v := fun _ => rfl
      refine out_val (wanted_none rfl) ?_
      clear hh
      generalize aa.eval = ev at e12 e16 ec ⊢
      go_simp
      try rfl
    refine ⟨.eq ?_, trivial, rfl, fun aa ww ll hh => ?_, ?_⟩
    rotate_left
    · have e17 := hh.get 13 0 (by kernel_rfl) rfl rfl rfl
      refine out_val (wanted_none rfl) ?_
      rw [ex_moveO (by first | exact .inl rfl | exact .inr rfl) e17]
    refine ⟨.eq ?_, trivial, rfl, fun aa ww ll hh => ?_, ?_⟩
    rotate_left
    · have e1 := (hh.old 1 (by kernel_rfl)).trans (evalO rfl)
      simp only [nthO] at e1
      refine out_val (hh.go 0 rfl (by kernel_rfl) rfl rfl) ?_
      clear hh
      generalize aa.eval = ev at e1 ⊢
      go_simp
      try rfl
    refine ⟨.eq ?_, trivial, rfl, fun aa ww ll hh => ?_, ?_⟩
    rotate_left
    · have e19 := hh.get 15 0 (by kernel_rfl) rfl rfl rfl
      refine out_val (hh.go 1 rfl (by kernel_rfl) rfl rfl) ?_
      clear hh
      generalize aa.eval = ev at e19 ⊢
      go_simp
      try rfl
    refine ⟨.eq ?_, trivial, rfl, fun aa ww ll hh => ?_, ?_⟩
    rotate_left
    · have e20 := hh.get 16 0 (by kernel_rfl) rfl rfl rfl
      obtain ⟨r0, r1, r2, r3, r4, r5, r6, r7⟩ := HR.out ww hh.inv
      refine out_val (hh.go 2 rfl (by kernel_rfl) rfl rfl) ?_
      clear hh
      generalize aa.eval = ev at e20 ⊢
      go_simp
      try rfl
    refine ⟨.eq (.bool RB), trivial, rfl, fun aa ww ll hh => ?_, ?_⟩
    · have e21 := hh.get 17 0 (by kernel_rfl) rfl rfl rfl
      have ec : ∀ v, aa.eval (.const v) = v := fun _ => rfl
      obtain ⟨r0, r1, r2, r3, r4, r5, r6, r7⟩ := HR.out ww hh.inv
      refine out_val (hh.go 3 rfl (by kernel_rfl) rfl rfl) ?_
      clear hh
      generalize aa.eval = ev at e21 ec ⊢
      go_simp
      try simp [HRB.out]
      try rfl
    refine ⟨.eq ?_, trivial, rfl, fun aa ww ll hh => ?_, ?_⟩
    rotate_left
    · have e18 := hh.get 14 4 (by kernel_rfl) rfl rfl rfl
      have e22 := hh.get 18 0 (by kernel_rfl) rfl rfl rfl
      have ec : ∀ v, aa.eval (.const v) = v := fun _ => rfl
      refine out_val (wanted_none rfl) ?_
      clear hh
      generalize aa.eval = ev at e18 e22 ec ⊢
      go_simp
      try rfl
    refine ⟨.eq ?_, trivial, rfl, fun aa ww ll hh => ?_, ?_⟩
    rotate_left
    · have e7 := hh.get 3 16 (by kernel_rfl) rfl rfl rfl
      refine out_val (wanted_none rfl) ?_
      rw [ex_moveO (by first | exact .inl rfl | exact .inr rfl) e7]
    refine ⟨.eq ?_, trivial, rfl, fun aa ww ll hh => ?_, ?_⟩
    rotate_left
    · have e23 := hh.get 19 1 (by kernel_rfl) rfl rfl rfl
      refine out_val (wanted_none rfl) ?_
      rw [ex_moveO (by first | exact .inl rfl | exact .inr rfl) e23]
    intro ll w2 hS2 hok
    clear hok
    simp only [List.reverse_cons, List.reverse_nil, List.nil_append, List.cons_append, layO, Out.val, Act.put, List.setIfInBounds_toArray, List.set_cons_zero, List.set_cons_succ]
    have HB2 : Hid (Below w.heap.size w w2) := HQ1.out.trans (hS2.mono HQ1.out.size)
    have HC2 : Hid (∀ l, O = some l → CO base w2 (.slice p1 n1 c1) l) := fun l h => by
      rw [HOL.out l h]
      exact HCO.out.below HB2.out
    have HT : Hid (O.isSome = RB) := by show O.isSome = _; rw [HOS.out]; rw [HRB.out]; simp
    clear hS2 HRB
    go_wp2_with fail
    refine bodyPost_ret (results_tmp2 rfl _ _ _) rfl ?_
    exact ⟨⟨p1, n1, c1, by rw [HT.out]; rfl, HC2.out⟩, HB2.out⟩
  · skip
    refine region_outS (by kernel_rfl) (fun Wk => Below W1.heap.size W1 Wk) (fun w1 w2 h1 h2 => h1.trans (h2.mono h1.size)) (by kernel_rfl) (Below.drew (Below.refl _ _)) ?_
    refine ⟨.eq ?_, trivial, rfl, fun aa ww ll hh => ?_, ?_⟩
    rotate_left
    · have e1 := (hh.old 1 (by kernel_rfl)).trans (evalO rfl)
      simp only [nthO] at e1
      refine out_val (wanted_none rfl) ?_
      clear hh
      generalize aa.eval = ev at e1 ⊢
      go_simp
      try rfl
    refine ⟨.eq ?_, trivial, rfl, fun aa ww ll hh => ?_, ?_⟩
    rotate_left
    · have e4 := hh.get 0 0 (by kernel_rfl) rfl rfl rfl
      obtain ⟨r0, r1, r2, r3, r4, r5, r6, r7⟩ := HR.out ww hh.inv
      refine out_val (wanted_none rfl) ?_
      clear hh
      generalize aa.eval = ev at e4 ⊢
      go_simp
      try rfl
    refine ⟨.eq ?_, trivial, rfl, fun aa ww ll hh => ?_, ?_⟩
    rotate_left
    · have e5 := hh.get 1 0 (by kernel_rfl) rfl rfl rfl
      have ec : ∀ v, aa.eval (.const v) = v := fun _ => rfl
      refine out_val (wanted_none rfl) ?_
      clear hh
      generalize aa.eval = ev at e5 ec ⊢
      go_simp
      try rfl
    refine ⟨.eq ?_, trivial, rfl, fun aa ww ll hh => ?_, ?_⟩
    rotate_left
    · have e6 := hh.get 2 0 (by kernel_rfl) rfl rfl rfl
      obtain ⟨r0, r1, r2, r3, r4, r5, r6, r7⟩ := HR.out ww hh.inv
      refine out_val (wanted_none rfl) ?_
      clear hh
      generalize aa.eval = ev at e6 ⊢
      go_simp
      try rfl
    refine ⟨.eq ?_, trivial, rfl, fun aa ww ll hh => ?_, ?_⟩
    rotate_left
    · have e1 := (hh.old 1 (by kernel_rfl)).trans (evalO rfl)
      simp only [nthO] at e1
      refine out_val (wanted_none rfl) ?_
      clear hh
      generalize aa.eval = ev at e1 ⊢
      go_simp
      try rfl
    refine ⟨.eq ?_, trivial, rfl, fun aa ww ll hh => ?_, ?_⟩
    rotate_left
    · have e8 := hh.get 4 0 (by kernel_rfl) rfl rfl rfl
      refine out_val (wanted_none rfl) ?_
      clear hh
      generalize aa.eval = ev at e8 ⊢
      go_simp
      try rfl
    refine ⟨.eq ?_, trivial, rfl, fun aa ww ll hh => ?_, ?_⟩
    rotate_left
    · have e9 := hh.get 5 0 (by kernel_rfl) rfl rfl rfl
      obtain ⟨r0, r1, r2, r3, r4, r5, r6, r7⟩ := HR.out ww hh.inv
      refine out_val (wanted_none rfl) ?_
      clear hh
      generalize aa.eval = ev at e9 ⊢
      go_simp
      try rfl
    refine ⟨.eq (.bool false), trivial, rfl, fun aa ww ll hh => ?_, ?_⟩
    · have e10 := hh.get 6 0 (by kernel_rfl) rfl rfl rfl
      have ec : ∀ v, aa.eval (.const v) = v := fun _ => rfl
      obtain ⟨r0, r1, r2, r3, r4, r5, r6, r7⟩ := HR.out ww hh.inv
      refine out_val (wanted_none rfl) ?_
      clear hh
      generalize aa.eval = ev at e10 ec ⊢
      go_simp
      try simp [*]
    refine ⟨.eq ?_, trivial, rfl, fun aa ww ll hh => ?_, ?_⟩
    rotate_left
    · have e11 := hh.get 7 0 (by kernel_rfl) rfl rfl rfl
      refine out_val (wanted_none rfl) ?_
      rw [ex_moveO (by first | exact .inl rfl | exact .inr rfl) e11]
    refine ⟨.eq ?_, trivial, rfl, fun aa ww ll hh => ?_, ?_⟩
    rotate_left
    · have e1 := (hh.old 1 (by kernel_rfl)).trans (evalO rfl)
      simp only [nthO] at e1
      refine out_val (hh.go 0 rfl (by kernel_rfl) rfl rfl) ?_
      clear hh
      generalize aa.eval = ev at e1 ⊢
      go_simp
      try rfl
    refine ⟨.eq ?_, trivial, rfl, fun aa ww ll hh => ?_, ?_⟩
    rotate_left
    · have e13 := hh.get 9 0 (by kernel_rfl) rfl rfl rfl
      refine out_val (hh.go 1 rfl (by kernel_rfl) rfl rfl) ?_
      clear hh
      generalize aa.eval = ev at e13 ⊢
      go_simp
      try rfl
    refine ⟨.eq ?_, trivial, rfl, fun aa ww ll hh => ?_, ?_⟩
    rotate_left
    · have e14 := hh.get 10 0 (by kernel_rfl) rfl rfl rfl
      obtain ⟨r0, r1, r2, r3, r4, r5, r6, r7⟩ := HR.out ww hh.inv
      refine out_val (hh.go 2 rfl (by kernel_rfl) rfl rfl) ?_
      clear hh
      generalize aa.eval = ev at e14 ⊢
      go_simp
      try rfl
    refine ⟨.eq (.bool true), trivial, rfl, fun aa ww ll hh => ?_, ?_⟩
    · have e15 := hh.get 11 0 (by kernel_rfl) rfl rfl rfl
      have ec : ∀ v, aa.eval (.const v) = v := fun _ => rfl
      obtain ⟨r0, r1, r2, r3, r4, r5, r6, r7⟩ := HR.out ww hh.inv
      refine out_val (hh.go 3 rfl (by kernel_rfl) rfl rfl) ?_
      clear hh
      generalize aa.eval = ev at e15 ec ⊢
      go_simp
      try simp [*]
    refine ⟨.eq ?_, trivial, rfl, fun aa ww ll hh => ?_, ?_⟩
    rotate_left
    · have e12 := hh.get 8 4 (by kernel_rfl) rfl rfl rfl
      have e16 := hh.get 12 0 (by kernel_rfl) rfl rfl rfl
      have ec : ∀ v, aa.eval (.const v) = v := fun _ => rfl
      refine out_val (wanted_none rfl) ?_
      clear hh
      generalize aa.eval = ev at e12 e16 ec ⊢
      go_simp
      try rfl
    refine ⟨.eq ?_, trivial, rfl, fun aa ww ll hh => ?_, ?_⟩
    rotate_left
    · have e17 := hh.get 13 0 (by kernel_rfl) rfl rfl rfl
      refine out_val (wanted_none rfl) ?_
      rw [ex_moveO (by first | exact .inl rfl | exact .inr rfl) e17]
    refine ⟨.eq ?_, trivial, rfl, fun aa ww ll hh => ?_, ?_⟩
    rotate_left
    · have e1 := (hh.old 1 (by kernel_rfl)).trans (evalO rfl)
      simp only [nthO] at e1
      refine out_val (hh.go 0 rfl (by kernel_rfl) rfl rfl) ?_
      clear hh
      generalize aa.eval = ev at e1 ⊢
      go_simp
      try rfl
    refine ⟨.eq ?_, trivial, rfl, fun aa ww ll hh => ?_, ?_⟩
    rotate_left
    · have e19 := hh.get 15 0 (by kernel_rfl) rfl rfl rfl
      refine out_val (hh.go 1 rfl (by kernel_rfl) rfl rfl) ?_
      clear hh
      generalize aa.eval = ev at e19 ⊢
      go_simp
      try rfl
    refine ⟨.eq ?_, trivial, rfl, fun aa ww ll hh => ?_, ?_⟩
    rotate_left
    · have e20 := hh.get 16 0 (by kernel_rfl) rfl rfl rfl
      obtain ⟨r0, r1, r2, r3, r4, r5, r6, r7⟩ := HR.out ww hh.inv
      refine out_val (hh.go 2 rfl (by kernel_rfl) rfl rfl) ?_
      clear hh
      generalize aa.eval = ev at e20 ⊢
      go_simp
      try rfl
    refine ⟨.eq (.bool RB), trivial, rfl, fun aa ww ll hh => ?_, ?_⟩
    · have e21 := hh.get 17 0 (by kernel_rfl) rfl rfl rfl
      have ec : ∀ v, aa.eval (.const v) = v := fun _ => rfl
      obtain ⟨r0, r1, r2, r3, r4, r5, r6, r7⟩ := HR.out ww hh.inv
      refine out_val (hh.go 3 rfl (by kernel_rfl) rfl rfl) ?_
      clear hh
      generalize aa.eval = ev at e21 ec ⊢
      go_simp
      try simp [HRB.out]
      try rfl
    refine ⟨.eq ?_, trivial, rfl, fun aa ww ll hh => ?_, ?_⟩
    rotate_left
    · have e18 := hh.get 14 4 (by kernel_rfl) rfl rfl rfl
      have e22 := hh.get 18 0 (by kernel_rfl) rfl rfl rfl
      have ec : ∀ v, aa.eval (.const v) = v := fun _ => rfl
      refine out_val (wanted_none rfl) ?_
      clear hh
      generalize aa.eval = ev at e18 e22 ec ⊢
      go_simp
      try rfl
    refine ⟨.eq ?_, trivial, rfl, fun aa ww ll hh => ?_, ?_⟩
    rotate_left
    · have e7 := hh.get 3 16 (by kernel_rfl) rfl rfl rfl
      refine out_val (wanted_none rfl) ?_
      rw [ex_moveO (by first | exact .inl rfl | exact .inr rfl) e7]
    refine ⟨.eq ?_, trivial, rfl, fun aa ww ll hh => ?_, ?_⟩
    rotate_left
    · have e23 := hh.get 19 1 (by kernel_rfl) rfl rfl rfl
      refine out_val (wanted_none rfl) ?_
      rw [ex_moveO (by first | exact .inl rfl | exact .inr rfl) e23]
    intro ll w2 hS2 hok
    clear hok
    simp only [List.reverse_cons, List.reverse_nil, List.nil_append, List.cons_append, layO, Out.val, Act.put, List.setIfInBounds_toArray, List.set_cons_zero, List.set_cons_succ]
    have HB2 : Hid (Below w.heap.size w w2) := HQ1.out.trans (hS2.mono HQ1.out.size)
    have HC2 : Hid (∀ l, O = some l → CO base w2 (.slice p1 n1 c1) l) := fun l h => by
      rw [HOL.out l h]
      exact HCO.out.below HB2.out
    have HT : Hid (O.isSome = RB) := by show O.isSome = _; rw [HOS.out]; rw [HRB.out]; simp
    clear hS2 HRB
    go_wp2_with fail
    refine bodyPost_ret (results_tmp2 rfl _ _ _) rfl ?_
    exact ⟨⟨p1, n1, c1, by rw [HT.out]; rfl, HC2.out⟩, HB2.out⟩
  · skip
    refine region_outS (by kernel_rfl) (fun Wk => Below W1.heap.size W1 Wk) (fun w1 w2 h1 h2 => h1.trans (h2.mono h1.size)) (by kernel_rfl) (Below.drew (Below.refl _ _)) ?_
    refine ⟨.eq ?_, trivial, rfl, fun aa ww ll hh => ?_, ?_⟩
    rotate_left
    · have e1 := (hh.old 1 (by kernel_rfl)).trans (evalO rfl)
      simp only [nthO] at e1
      refine out_val (wanted_none rfl) ?_
      clear hh
      generalize aa.eval = ev at e1 ⊢
      go_simp
      try rfl
    refine ⟨.eq ?_, trivial, rfl, fun aa ww ll hh => ?_, ?_⟩
    rotate_left
    · have e4 := hh.get 0 0 (by kernel_rfl) rfl rfl rfl
      obtain ⟨r0, r1, r2, r3, r4, r5, r6, r7⟩ := HR.out ww hh.inv
      refine out_val (wanted_none rfl) ?_
      clear hh
      generalize aa.eval = ev at e4 ⊢
      go_simp
      try rfl
    refine ⟨.eq ?_, trivial, rfl, fun aa ww ll hh => ?_, ?_⟩
    rotate_left
    · have e5 := hh.get 1 0 (by kernel_rfl) rfl rfl rfl
      have ec : ∀ v, aa.eval (.const v) = v := fun _ => rfl
      refine out_val (wanted_none rfl) ?_
      clear hh
      generalize aa.eval = ev at e5 ec ⊢
      go_simp
      try rfl
    refine ⟨.eq ?_, trivial, rfl, fun aa ww ll hh => ?_, ?_⟩
    rotate_left
    · have e6 := hh.get 2 0 (by kernel_rfl) rfl rfl rfl
      obtain ⟨r0, r1, r2, r3, r4, r5, r6, r7⟩ := HR.out ww hh.inv
      refine out_val (wanted_none rfl) ?_
      clear hh
      generalize aa.eval = ev at e6 ⊢
      go_simp
      try rfl
    refine ⟨.eq ?_, trivial, rfl, fun aa ww ll hh => ?_, ?_⟩
    rotate_left
    · have e1 := (hh.old 1 (by kernel_rfl)).trans (evalO rfl)
      simp only [nthO] at e1
      refine out_val (wanted_none rfl) ?_
      clear hh
      generalize aa.eval = ev at e1 ⊢
      go_simp
      try rfl
    refine ⟨.eq ?_, trivial, rfl, fun aa ww ll hh => ?_, ?_⟩
    rotate_left
    · have e8 := hh.get 4 0 (by kernel_rfl) rfl rfl rfl
      refine out_val (wanted_none rfl) ?_
      clear hh
      generalize aa.eval = ev at e8 ⊢
      go_simp
      try rfl
    refine ⟨.eq ?_, trivial, rfl, fun aa ww ll hh => ?_, ?_⟩
    rotate_left
    · have e9 := hh.get 5 0 (by kernel_rfl) rfl rfl rfl
      obtain ⟨r0, r1, r2, r3, r4, r5, r6, r7⟩ := HR.out ww hh.inv
      refine out_val (wanted_none rfl) ?_
      clear hh
      generalize aa.eval = ev at e9 ⊢
      go_simp
      try rfl
    refine ⟨.eq (.bool false), trivial, rfl, fun aa ww ll hh => ?_, ?_⟩
    · have e10 := hh.get 6 0 (by kernel_rfl) rfl rfl rfl
      have ec : ∀ v, aa.eval (.const v) = v := fun _ => rfl
      obtain ⟨r0, r1, r2, r3, r4, r5, r6, r7⟩ := HR.out ww hh.inv
      refine out_val (wanted_none rfl) ?_
      clear hh
      generalize aa.eval = ev at e10 ec ⊢
      go_simp
      try simp [*]
    refine ⟨.eq ?_, trivial, rfl, fun aa ww ll hh => ?_, ?_⟩
    rotate_left
    · have e11 := hh.get 7 0 (by kernel_rfl) rfl rfl rfl
      refine out_val (wanted_none rfl) ?_
      rw [ex_moveO (by first | exact .inl rfl | exact .inr rfl) e11]
    refine ⟨.eq ?_, trivial, rfl, fun aa ww ll hh => ?_, ?_⟩
    rotate_left
    · have e1 := (hh.old 1 (by kernel_rfl)).trans (evalO rfl)
      simp only [nthO] at e1
      refine out_val (hh.go 0 rfl (by kernel_rfl) rfl rfl) ?_
      clear hh
      generalize aa.eval = ev at e1 ⊢
      go_simp
      try rfl
    refine ⟨.eq ?_, trivial, rfl, fun aa ww ll hh => ?_, ?_⟩
    rotate_left
    · have e13 := hh.get 9 0 (by kernel_rfl) rfl rfl rfl
      refine out_val (hh.go 1 rfl (by kernel_rfl) rfl rfl) ?_
      clear hh
      generalize aa.eval = ev at e13 ⊢
      go_simp
      try rfl
    refine ⟨.eq ?_, trivial, rfl, fun aa ww ll hh => ?_, ?_⟩
    rotate_left
    · have e14 := hh.get 10 0 (by kernel_rfl) rfl rfl rfl
      obtain ⟨r0, r1, r2, r3, r4, r5, r6, r7⟩ := HR.out ww hh.inv
      refine out_val (hh.go 2 rfl (by kernel_rfl) rfl rfl) ?_
      clear hh
      generalize aa.eval = ev at e14 ⊢
      go_simp
      try rfl
    refine ⟨.eq (.bool false), trivial, rfl, fun aa ww ll hh => ?_, ?_⟩
    · have e15 := hh.get 11 0 (by kernel_rfl) rfl rfl rfl
      have ec : ∀ v, aa.eval (.const v) = v := fun _ => rfl
      obtain ⟨r0, r1, r2, r3, r4, r5, r6, r7⟩ := HR.out ww hh.inv
      refine out_val (hh.go 3 rfl (by kernel_rfl) rfl rfl) ?_
      clear hh
      generalize aa.eval = ev at e15 ec ⊢
      go_simp
      try simp [*]
    refine ⟨.eq ?_, trivial, rfl, fun aa ww ll hh => ?_, ?_⟩
    rotate_left
    · have e12 := hh.get 8 4 (by kernel_rfl) rfl rfl rfl
      have e16 := hh.get 12 0 (by kernel_rfl) rfl rfl rfl
      have ec : ∀ v, aa.eval (.const v) = v := fun _ => rfl
      refine out_val (wanted_none rfl) ?_
      clear hh
      generalize aa.eval = ev at e12 e16 ec ⊢
      go_simp
      try rfl
    refine ⟨.eq ?_, trivial, rfl, fun aa ww ll hh => ?_, ?_⟩
    rotate_left
    · have e17 := hh.get 13 0 (by kernel_rfl) rfl rfl rfl
      refine out_val (wanted_none rfl) ?_
      rw [ex_moveO (by first | exact .inl rfl | exact .inr rfl) e17]
    refine ⟨.eq ?_, trivial, rfl, fun aa ww ll hh => ?_, ?_⟩
    rotate_left
    · exact out_skip (hh.stop 0 rfl (by kernel_rfl) rfl rfl (.inl rfl))
    refine ⟨.eq ?_, trivial, rfl, fun aa ww ll hh => ?_, ?_⟩
    rotate_left
    · exact out_skip (hh.stop 1 rfl (by kernel_rfl) rfl rfl (.inl rfl))
    refine ⟨.eq ?_, trivial, rfl, fun aa ww ll hh => ?_, ?_⟩
    rotate_left
    · exact out_skip (hh.stop 2 rfl (by kernel_rfl) rfl rfl (.inl rfl))
    refine ⟨.eq ?_, trivial, rfl, fun aa ww ll hh => ?_, ?_⟩
    rotate_left
    · exact out_skip (hh.stop 3 rfl (by kernel_rfl) rfl rfl (.inl rfl))
    refine ⟨.eq ?_, trivial, rfl, fun aa ww ll hh => ?_, ?_⟩
    rotate_left
    · have e18 := hh.get 14 4 (by kernel_rfl) rfl rfl rfl
      have e22 := hh.get 18 0 (by kernel_rfl) rfl rfl rfl
      have ec : ∀ v, aa.eval (.const v) = v := fun _ => rfl
      refine out_val (wanted_none rfl) ?_
      clear hh
      generalize aa.eval = ev at e18 e22 ec ⊢
      go_simp
      try rfl
    refine ⟨.eq ?_, trivial, rfl, fun aa ww ll hh => ?_, ?_⟩
    rotate_left
    · have e7 := hh.get 3 16 (by kernel_rfl) rfl rfl rfl
      refine out_val (wanted_none rfl) ?_
      rw [ex_moveO (by first | exact .inl rfl | exact .inr rfl) e7]
    refine ⟨.eq ?_, trivial, rfl, fun aa ww ll hh => ?_, ?_⟩
    rotate_left
    · have e23 := hh.get 19 1 (by kernel_rfl) rfl rfl rfl
      refine out_val (wanted_none rfl) ?_
      rw [ex_moveO (by first | exact .inl rfl | exact .inr rfl) e23]
    intro ll w2 hS2 hok
    clear hok
    simp only [List.reverse_cons, List.reverse_nil, List.nil_append, List.cons_append, layO, Out.val, Act.put, List.setIfInBounds_toArray, List.set_cons_zero, List.set_cons_succ]
    have HB2 : Hid (Below w.heap.size w w2) := HQ1.out.trans (hS2.mono HQ1.out.size)
    have HC2 : Hid (∀ l, O = some l → CO base w2 (.slice p1 n1 c1) l) := fun l h => by
      rw [HOL.out l h]
      exact HCO.out.below HB2.out
    have HT : Hid (O.isSome = false) := by show O.isSome = _; rw [HOS.out]; simp [h7, h8]
    clear hS2 HRB
    go_wp2_with fail
    refine bodyPost_ret (results_tmp2 rfl _ _ _) rfl ?_
    exact ⟨⟨p1, n1, c1, by rw [HT.out]; rfl, HC2.out⟩, HB2.out⟩

end Go.Proofs.Ytehcclcokgmplaa
