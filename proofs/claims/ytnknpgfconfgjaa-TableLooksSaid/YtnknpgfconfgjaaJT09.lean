/-
  Lemmas, joined: TabK, TabL.
-/
import Derived.Test.YtnknpgfconfgjaaJT07
import Derived.Test.YtnknpgfconfgjaaJT08
import Derived.Deep.QuietTactic
import Derived.BigQuiet
/-
  The document's Choose.
-/
namespace Go.Proofs.Ytnknpgfconfgjaa
open Go.RowKit Stab

set_option maxRecDepth 100000 in
set_option maxHeartbeats 6400000 in
theorem refChoose_any (l : List Ent) (tab : Int) (ks : List Nat) (lv kv : Value) (w : World) (hl : ERow w lv l) (hk : NRow w kv ks) (hn : l.length ≤ 40) (hf : Few l) :
    Calls Try.prog 20 #[lv, .int .i64 tab, kv] w (RetBest w l tab ks) := by
  obtain ⟨la, lc, rfl, hc1, hc2⟩ := hl.shape
  obtain ⟨ka, kc, rfl, kc1, kc2⟩ := hk.shape
  have HL := Lib.hid hl
  have HK := Lib.hid hk
  have HF := Lib.hid hf
  obtain ⟨n, hnn⟩ : ∃ n, n = l.length := ⟨_, rfl⟩
  rw [← hnn] at hn hc1 HL ⊢
  have HN := Lib.hid hnn
  clear hl hk hf hnn
  go_enter Try.func20, Try.ntmps20
  go_wp2_with fail
  go_loopw [7, 8] (fun b i wr => ∃ (k : Nat) (c : Int), k ≤ n ∧ i = .int .i64 k ∧ b = .int .i64 c ∧ Hid (Best l tab ks k c) ∧ Hid (Below w.heap.size w wr)) (fun _ i _ => n - (intOf i).toNat)
  case atStart => exact ⟨0, -1, Nat.zero_le _, rfl, rfl, Best.zero l tab ks, Below.refl _ _⟩
  case round =>
    obtain ⟨k, c, hk, rfl, rfl, HB, HW⟩ := hrel
    by_cases hlt : k < n
    · obtain ⟨lb, lo, lc2, he2, -, hek⟩ := (HL.out.below keepE HW.out).at (eAt_nat l k (by have := HN.out; omega))
      simp only [Value.slice.injEq] at he2
      obtain ⟨rfl, -, -⟩ := he2
      obtain ⟨p1, n1, c1, r1, m1, d1, a0, a1, a2, a3, a4, a5, hp, hr⟩ := hek.six
      obtain ⟨r, hr2⟩ : ∃ r, r = matB (eAt l k) tab ks := ⟨_, rfl⟩
      have hpl : (eAt l k).pats.length ≤ 1000000 := by have := (HF.out k (by have := HN.out; omega)).1; omega
      have HC : Hid (∀ W, Below wr.heap.size wr W → Calls Try.prog 16 #[.agg #[.int .i64 (eAt l k).tab, .slice p1 n1 c1, .int .i64 (eAt l k).len, .int .i64 (eAt l k).prio, .int .i64 (eAt l k).act, .slice r1 m1 d1], .int .i64 tab, .slice ka ks.length kc] W fun e w' => e = .returned (.bool r) ∧ Below W.heap.size W w') := fun W hW => by
        rw [hr2]; exact refMatches_any (eAt l k) tab ks _ _ W ⟨_, _, rfl, hp.below keepP hW, hr.below keepN hW⟩ (HK.out.below keepN (HW.out.trans (hW.mono HW.out.size))) hpl
      have HR : Hid (r = matB (eAt l k) tab ks) := hr2
      have HAY : Hid (∀ y : Nat, y < n → ∃ p2 n2 c2 r2 m2 d2 t2 l2 q2 s2, (wr.cell? ⟨lb, lo + y * 6, none⟩ = some (.int .i64 t2) ∧ wr.cell? ⟨lb, lo + y * 6 + 1, none⟩ = some (.slice p2 n2 c2) ∧ wr.cell? ⟨lb, lo + y * 6 + 2, none⟩ = some (.int .i64 l2) ∧ wr.cell? ⟨lb, lo + y * 6 + 3, none⟩ = some (.int .i64 q2) ∧ wr.cell? ⟨lb, lo + y * 6 + 4, none⟩ = some (.int .i64 s2) ∧ wr.cell? ⟨lb, lo + y * 6 + 5, none⟩ = some (.slice r2 m2 d2)) ∧
          ∀ W, Calls Try.prog 36 #[.agg #[.int .i64 (eAt l k).tab, .slice p1 n1 c1, .int .i64 (eAt l k).len, .int .i64 (eAt l k).prio, .int .i64 (eAt l k).act, .slice r1 m1 d1], .agg #[.int .i64 t2, .slice p2 n2 c2, .int .i64 l2, .int .i64 q2, .int .i64 s2, .slice r2 m2 d2]] W
            fun e w' => e = .returned (.bool (lts l k y)) ∧ Below W.heap.size W w') := fun y hy => by
        obtain ⟨lb3, lo3, lc3, he3, -, hej⟩ := (HL.out.below keepE HW.out).at (eAt_nat l y (by have := HN.out; omega))
        simp only [Value.slice.injEq, Option.some.injEq, Addr.mk.injEq, and_true, true_and] at he3
        obtain ⟨⟨rfl, rfl⟩, -⟩ := he3
        obtain ⟨p2, n2, c2, r2, m2, d2, b0, b1, b2, b3, b4, b5, -, -⟩ := hej.six
        exact ⟨p2, n2, c2, r2, m2, d2, _, _, _, _, ⟨b0, b1, b2, b3, b4, b5⟩, fun W => refAhead_any _ _ _ _ _ _ _ _ _ _ _ _ _ _ _ _ _ _ _ _ W⟩
      clear hr2 hek hp hr hpl
      generalize (eAt l k).tab = t1 at *
      generalize (eAt l k).len = l1 at *
      generalize (eAt l k).prio = q1 at *
      generalize (eAt l k).act = s1 at *
      have z1 : (k : Int) < (n : Int) := by omega
      have z0 : (0 : Int) ≤ (k : Int) := by omega
      have HCL : Hid (∀ W, Below wr.heap.size wr W → W.cell? ⟨lb, lo + k * 6, none⟩ = some (.int .i64 t1) ∧ W.cell? ⟨lb, lo + k * 6 + 1, none⟩ = some (.slice p1 n1 c1) ∧ W.cell? ⟨lb, lo + k * 6 + 2, none⟩ = some (.int .i64 l1) ∧ W.cell? ⟨lb, lo + k * 6 + 3, none⟩ = some (.int .i64 q1) ∧ W.cell? ⟨lb, lo + k * 6 + 4, none⟩ = some (.int .i64 s1) ∧ W.cell? ⟨lb, lo + k * 6 + 5, none⟩ = some (.slice r1 m1 d1)) := fun W hW => ⟨(hW.cell (cell_there a0).1).trans a0, (hW.cell (cell_there a1).1).trans a1, (hW.cell (cell_there a2).1).trans a2, (hW.cell (cell_there a3).1).trans a3, (hW.cell (cell_there a4).1).trans a4, (hW.cell (cell_there a5).1).trans a5⟩
      have hb0 := below_drewN (Below.refl wr.heap.size wr) 1
      cases r
      · clear hb0 a0 a1 a2 a3 a4 a5
        go_wp2_with fail
        refine region_outS (by kernel_rfl) (fun Wk => Below wr.heap.size wr Wk) (fun w1 w2 h1 h2 => h1.trans (h2.mono h1.size)) (by kernel_rfl) (Below.drew (Below.refl _ _)) ?_
        refine ⟨.eq ?_, trivial, rfl, fun aa ww ll hh => ?_, ?_⟩
        rotate_left
        · have e0 := (hh.old 0 (by kernel_rfl)).trans (evalO rfl)
          simp only [nthO] at e0
          refine out_val (wanted_none rfl) ?_
          rw [ex_moveO (by first | exact .inl rfl | exact .inr rfl) e0]
        refine ⟨.eq ?_, trivial, rfl, fun aa ww ll hh => ?_, ?_⟩
        rotate_left
        · have e8 := (hh.old 8 (by kernel_rfl)).trans (evalO rfl)
          simp only [nthO] at e8
          refine out_val (wanted_none rfl) ?_
          rw [ex_moveO (by first | exact .inl rfl | exact .inr rfl) e8]
        refine ⟨.eq ?_, trivial, rfl, fun aa ww ll hh => ?_, ?_⟩
        rotate_left
        · have e15 := hh.get 0 1 (by kernel_rfl) rfl rfl rfl
          have e16 := hh.get 1 0 (by kernel_rfl) rfl rfl rfl
          refine out_val (wanted_none rfl) ?_
          clear hh
          generalize aa.eval = ev at e15 e16 ⊢
          go_simp
          try rfl
        refine ⟨.eq ?_, trivial, rfl, fun aa ww ll hh => ?_, ?_⟩
        rotate_left
        · have e17 := hh.get 2 0 (by kernel_rfl) rfl rfl rfl
          obtain ⟨a0, a1, a2, a3, a4, a5⟩ := HCL.out ww hh.inv
          refine out_val (wanted_none rfl) ?_
          clear hh
          generalize aa.eval = ev at e17 ⊢
          go_simp
          try rfl
        refine ⟨.eq ?_, trivial, rfl, fun aa ww ll hh => ?_, ?_⟩
        rotate_left
        · have e1 := (hh.old 1 (by kernel_rfl)).trans (evalO rfl)
          simp only [nthO] at e1
          refine out_val (wanted_none rfl) ?_
          rw [ex_moveO (by first | exact .inl rfl | exact .inr rfl) e1]
        refine ⟨.eq ?_, trivial, rfl, fun aa ww ll hh => ?_, ?_⟩
        rotate_left
        · have e2 := (hh.old 2 (by kernel_rfl)).trans (evalO rfl)
          simp only [nthO] at e2
          refine out_val (wanted_none rfl) ?_
          rw [ex_moveO (by first | exact .inl rfl | exact .inr rfl) e2]
        refine ⟨.eq (.bool false), trivial, rfl, fun aa ww ll hh => ?_, ?_⟩
        · have e18 := hh.get 3 2 (by kernel_rfl) rfl rfl rfl
          have e19 := hh.get 4 1 (by kernel_rfl) rfl rfl rfl
          have e20 := hh.get 5 0 (by kernel_rfl) rfl rfl rfl
          have ef : ∀ f, aa.eval (.func f) = .func (.func f) #[] #[] := fun _ => rfl
          refine out_call_eq (wanted_none rfl) ?_ (HC.out ww hh.inv)
          clear hh
          generalize aa.eval = ev at e18 e19 e20 ef ⊢
          go_simp
        refine ⟨.eq ?_, trivial, rfl, fun aa ww ll hh => ?_, ?_⟩
        rotate_left
        · have e21 := hh.get 6 0 (by kernel_rfl) rfl rfl rfl
          refine out_val (wanted_none rfl) ?_
          rw [ex_moveO (by first | exact .inl rfl | exact .inr rfl) e21]
        refine ⟨.eq ?_, trivial, rfl, fun aa ww ll hh => ?_, ?_⟩
        rotate_left
        · exact out_skip (hh.stop 0 rfl (by kernel_rfl) rfl rfl (.inl rfl))
        refine ⟨.eq ?_, trivial, rfl, fun aa ww ll hh => ?_, ?_⟩
        rotate_left
        · exact out_skip (hh.stop 1 rfl (by kernel_rfl) rfl rfl (.inl rfl))
        refine ⟨.eq ?_, trivial, rfl, fun aa ww ll hh => ?_, ?_⟩
        rotate_left
        · exact out_skip (hh.stop 2 rfl (by kernel_rfl) rfl rfl (.inl rfl))
        refine ⟨.eq ?_, trivial, rfl, fun aa ww ll hh => ?_, ?_⟩
        rotate_left
        · exact out_skip (hh.stop 0 rfl (by kernel_rfl) rfl rfl (.inr rfl))
        refine ⟨.eq ?_, trivial, rfl, fun aa ww ll hh => ?_, ?_⟩
        rotate_left
        · exact out_skip (hh.stop 1 rfl (by kernel_rfl) rfl rfl (.inr rfl))
        refine ⟨.eq ?_, trivial, rfl, fun aa ww ll hh => ?_, ?_⟩
        rotate_left
        · exact out_skip (hh.stop 2 rfl (by kernel_rfl) rfl rfl (.inr rfl))
        refine ⟨.eq ?_, trivial, rfl, fun aa ww ll hh => ?_, ?_⟩
        rotate_left
        · exact out_skip (hh.stop 3 rfl (by kernel_rfl) rfl rfl (.inr rfl))
        refine ⟨.eq ?_, trivial, rfl, fun aa ww ll hh => ?_, ?_⟩
        rotate_left
        · exact out_skip (hh.stop 4 rfl (by kernel_rfl) rfl rfl (.inr rfl))
        refine ⟨.eq ?_, trivial, rfl, fun aa ww ll hh => ?_, ?_⟩
        rotate_left
        · exact out_skip (hh.stop 5 rfl (by kernel_rfl) rfl rfl (.inr rfl))
        refine ⟨.eq ?_, trivial, rfl, fun aa ww ll hh => ?_, ?_⟩
        rotate_left
        · exact out_skip (hh.stop 6 rfl (by kernel_rfl) rfl rfl (.inr rfl))
        refine ⟨.eq ?_, trivial, rfl, fun aa ww ll hh => ?_, ?_⟩
        rotate_left
        · exact out_skip (hh.stop 7 rfl (by kernel_rfl) rfl rfl (.inr rfl))
        refine ⟨.eq ?_, trivial, rfl, fun aa ww ll hh => ?_, ?_⟩
        rotate_left
        · exact out_skip (hh.stop 8 rfl (by kernel_rfl) rfl rfl (.inr rfl))
        refine ⟨.eq ?_, trivial, rfl, fun aa ww ll hh => ?_, ?_⟩
        rotate_left
        · exact out_skip (hh.stop 12 rfl (by kernel_rfl) rfl rfl (.inl rfl))
        refine ⟨.eq ?_, trivial, rfl, fun aa ww ll hh => ?_, ?_⟩
        rotate_left
        · have e22 := hh.get 7 13 (by kernel_rfl) rfl rfl rfl
          have e35 := hh.get 20 0 (by kernel_rfl) rfl rfl rfl
          have ec : ∀ v, aa.eval (.const v) = v := fun _ => rfl
          refine out_val (wanted_none rfl) ?_
          clear hh
          generalize aa.eval = ev at e22 e35 ec ⊢
          go_simp
          try rfl
        intro ll w1 hS hok
        clear hok
        simp only [List.reverse_cons, List.reverse_nil, List.nil_append, List.cons_append, layO, Out.val, Act.put, List.setIfInBounds_toArray, List.set_cons_zero, List.set_cons_succ]
        have HW2 : Hid (Below w.heap.size w w1) := HW.out.trans (hS.mono HW.out.size)
        clear hS
        go_wp2_with fail
        go_roundw
        case rel => exact ⟨k + 1, c, by omega, by go_num, rfl, HB.out.no HR.out.symm, HW2⟩
        case measure => simp [intOf]; omega
      · by_cases hc : c < 0
        · have hc1' : c = -1 := by
            rcases HB.out with ⟨h, -⟩ | ⟨h, -⟩
            · exact h
            · omega
          subst hc1'
          clear hb0 hc a0 a1 a2 a3 a4 a5
          go_wp2_with fail
          refine region_outS (by kernel_rfl) (fun Wk => Below wr.heap.size wr Wk) (fun w1 w2 h1 h2 => h1.trans (h2.mono h1.size)) (by kernel_rfl) (Below.drew (Below.refl _ _)) ?_
          refine ⟨.eq ?_, trivial, rfl, fun aa ww ll hh => ?_, ?_⟩
          rotate_left
          · have e0 := (hh.old 0 (by kernel_rfl)).trans (evalO rfl)
            simp only [nthO] at e0
            refine out_val (wanted_none rfl) ?_
            rw [ex_moveO (by first | exact .inl rfl | exact .inr rfl) e0]
          refine ⟨.eq ?_, trivial, rfl, fun aa ww ll hh => ?_, ?_⟩
          rotate_left
          · have e8 := (hh.old 8 (by kernel_rfl)).trans (evalO rfl)
            simp only [nthO] at e8
            refine out_val (wanted_none rfl) ?_
            rw [ex_moveO (by first | exact .inl rfl | exact .inr rfl) e8]
          refine ⟨.eq ?_, trivial, rfl, fun aa ww ll hh => ?_, ?_⟩
          rotate_left
          · have e15 := hh.get 0 1 (by kernel_rfl) rfl rfl rfl
            have e16 := hh.get 1 0 (by kernel_rfl) rfl rfl rfl
            refine out_val (wanted_none rfl) ?_
            clear hh
            generalize aa.eval = ev at e15 e16 ⊢
            go_simp
            try rfl
          refine ⟨.eq ?_, trivial, rfl, fun aa ww ll hh => ?_, ?_⟩
          rotate_left
          · have e17 := hh.get 2 0 (by kernel_rfl) rfl rfl rfl
            obtain ⟨a0, a1, a2, a3, a4, a5⟩ := HCL.out ww hh.inv
            refine out_val (wanted_none rfl) ?_
            clear hh
            generalize aa.eval = ev at e17 ⊢
            go_simp
            try rfl
          refine ⟨.eq ?_, trivial, rfl, fun aa ww ll hh => ?_, ?_⟩
          rotate_left
          · have e1 := (hh.old 1 (by kernel_rfl)).trans (evalO rfl)
            simp only [nthO] at e1
            refine out_val (wanted_none rfl) ?_
            rw [ex_moveO (by first | exact .inl rfl | exact .inr rfl) e1]
          refine ⟨.eq ?_, trivial, rfl, fun aa ww ll hh => ?_, ?_⟩
          rotate_left
          · have e2 := (hh.old 2 (by kernel_rfl)).trans (evalO rfl)
            simp only [nthO] at e2
            refine out_val (wanted_none rfl) ?_
            rw [ex_moveO (by first | exact .inl rfl | exact .inr rfl) e2]
          refine ⟨.eq (.bool true), trivial, rfl, fun aa ww ll hh => ?_, ?_⟩
          · have e18 := hh.get 3 2 (by kernel_rfl) rfl rfl rfl
            have e19 := hh.get 4 1 (by kernel_rfl) rfl rfl rfl
            have e20 := hh.get 5 0 (by kernel_rfl) rfl rfl rfl
            have ef : ∀ f, aa.eval (.func f) = .func (.func f) #[] #[] := fun _ => rfl
            refine out_call_eq (wanted_none rfl) ?_ (HC.out ww hh.inv)
            clear hh
            generalize aa.eval = ev at e18 e19 e20 ef ⊢
            go_simp
          refine ⟨.eq ?_, trivial, rfl, fun aa ww ll hh => ?_, ?_⟩
          rotate_left
          · have e21 := hh.get 6 0 (by kernel_rfl) rfl rfl rfl
            refine out_val (wanted_none rfl) ?_
            rw [ex_moveO (by first | exact .inl rfl | exact .inr rfl) e21]
          refine ⟨.eq ?_, trivial, rfl, fun aa ww ll hh => ?_, ?_⟩
          rotate_left
          · have e7 := (hh.old 7 (by kernel_rfl)).trans (evalO rfl)
            simp only [nthO] at e7
            refine out_val (hh.go 0 rfl (by kernel_rfl) rfl rfl) ?_
            rw [ex_moveO (by first | exact .inl rfl | exact .inr rfl) e7]
          refine ⟨.eq ?_, trivial, rfl, fun aa ww ll hh => ?_, ?_⟩
          rotate_left
          · have e23 := hh.get 8 0 (by kernel_rfl) rfl rfl rfl
            have ec : ∀ v, aa.eval (.const v) = v := fun _ => rfl
            refine out_val (hh.go 1 rfl (by kernel_rfl) rfl rfl) ?_
            clear hh
            generalize aa.eval = ev at e23 ec ⊢
            go_simp
            try rfl
          refine ⟨.eq ?_, trivial, rfl, fun aa ww ll hh => ?_, ?_⟩
          rotate_left
          · have e24 := hh.get 9 0 (by kernel_rfl) rfl rfl rfl
            refine out_val (hh.go 2 rfl (by kernel_rfl) rfl rfl) ?_
            rw [ex_moveO (by first | exact .inl rfl | exact .inr rfl) e24]
          refine ⟨.eq ?_, trivial, rfl, fun aa ww ll hh => ?_, ?_⟩
          rotate_left
          · exact out_skip (hh.stop 0 rfl (by kernel_rfl) rfl rfl (.inl rfl))
          refine ⟨.eq ?_, trivial, rfl, fun aa ww ll hh => ?_, ?_⟩
          rotate_left
          · exact out_skip (hh.stop 1 rfl (by kernel_rfl) rfl rfl (.inl rfl))
          refine ⟨.eq ?_, trivial, rfl, fun aa ww ll hh => ?_, ?_⟩
          rotate_left
          · exact out_skip (hh.stop 2 rfl (by kernel_rfl) rfl rfl (.inl rfl))
          refine ⟨.eq ?_, trivial, rfl, fun aa ww ll hh => ?_, ?_⟩
          rotate_left
          · exact out_skip (hh.stop 3 rfl (by kernel_rfl) rfl rfl (.inl rfl))
          refine ⟨.eq ?_, trivial, rfl, fun aa ww ll hh => ?_, ?_⟩
          rotate_left
          · exact out_skip (hh.stop 4 rfl (by kernel_rfl) rfl rfl (.inl rfl))
          refine ⟨.eq ?_, trivial, rfl, fun aa ww ll hh => ?_, ?_⟩
          rotate_left
          · exact out_skip (hh.stop 5 rfl (by kernel_rfl) rfl rfl (.inl rfl))
          refine ⟨.eq ?_, trivial, rfl, fun aa ww ll hh => ?_, ?_⟩
          rotate_left
          · exact out_skip (hh.stop 6 rfl (by kernel_rfl) rfl rfl (.inl rfl))
          refine ⟨.eq ?_, trivial, rfl, fun aa ww ll hh => ?_, ?_⟩
          rotate_left
          · exact out_skip (hh.stop 7 rfl (by kernel_rfl) rfl rfl (.inl rfl))
          refine ⟨.eq ?_, trivial, rfl, fun aa ww ll hh => ?_, ?_⟩
          rotate_left
          · exact out_skip (hh.stop 8 rfl (by kernel_rfl) rfl rfl (.inl rfl))
          refine ⟨.eq ?_, trivial, rfl, fun aa ww ll hh => ?_, ?_⟩
          rotate_left
          · have e25 := hh.get 10 9 (by kernel_rfl) rfl rfl rfl
            have e34 := hh.get 19 0 (by kernel_rfl) rfl rfl rfl
            have ec : ∀ v, aa.eval (.const v) = v := fun _ => rfl
            refine out_val (hh.go 12 rfl (by kernel_rfl) rfl rfl) ?_
            clear hh
            generalize aa.eval = ev at e25 e34 ec ⊢
            go_simp
            try rfl
          refine ⟨.eq ?_, trivial, rfl, fun aa ww ll hh => ?_, ?_⟩
          rotate_left
          · have e22 := hh.get 7 13 (by kernel_rfl) rfl rfl rfl
            have e35 := hh.get 20 0 (by kernel_rfl) rfl rfl rfl
            have ec : ∀ v, aa.eval (.const v) = v := fun _ => rfl
            refine out_val (wanted_none rfl) ?_
            clear hh
            generalize aa.eval = ev at e22 e35 ec ⊢
            go_simp
            try rfl
          intro ll w1 hS hok
          clear hok
          simp only [List.reverse_cons, List.reverse_nil, List.nil_append, List.cons_append, layO, Out.val, Act.put, List.setIfInBounds_toArray, List.set_cons_zero, List.set_cons_succ]
          have HW2 : Hid (Below w.heap.size w w1) := HW.out.trans (hS.mono HW.out.size)
          clear hS
          go_wp2_with fail
          go_roundw
          case rel => exact ⟨k + 1, k, by omega, by go_num, rfl, HB.out.first HR.out.symm, HW2⟩
          case measure => simp [intOf]; omega
        · obtain ⟨y, rfl⟩ : ∃ y : Nat, c = (y : Int) := ⟨c.toNat, by omega⟩
          have hyk : y < k := by
            rcases HB.out with ⟨h, -⟩ | ⟨-, h, -⟩
            · omega
            · omega
          obtain ⟨p2, n2, c2, r2, m2, d2, t2, l2, q2, s2, ⟨b0, b1, b2, b3, b4, b5⟩, hA⟩ := HAY.out y (by omega)
          obtain ⟨x, hx⟩ : ∃ x, x = lts l k (y : Int) := ⟨_, rfl⟩
          rw [← hx] at hA
          have HA := Lib.hid hA
          have HX := Lib.hid hx
          have z2 : (y : Int) < (n : Int) := by omega
          have z3 : (0 : Int) ≤ (y : Int) := by omega
          have hdy : decide ((y : Int) < 0) = false := decide_eq_false (by omega)
          clear hA hx hc
          have hS := Lib.hid (And.intro hb0 (And.intro a0 (And.intro a1 (And.intro a2 (And.intro a3 (And.intro a4 (And.intro a5 (And.intro b0 (And.intro b1 (And.intro b2 (And.intro b3 (And.intro b4 b5))))))))))))
          clear hb0
          go_wp2_with fail
          go_region_held3 (fun Wk => Below (wr.heap.size) (wr) Wk ∧ Wk.cell? ⟨lb, lo + k * 6, none⟩ = some (.int .i64 t1) ∧ Wk.cell? ⟨lb, lo + k * 6 + 1, none⟩ = some (.slice p1 n1 c1) ∧ Wk.cell? ⟨lb, lo + k * 6 + 2, none⟩ = some (.int .i64 l1) ∧ Wk.cell? ⟨lb, lo + k * 6 + 3, none⟩ = some (.int .i64 q1) ∧ Wk.cell? ⟨lb, lo + k * 6 + 4, none⟩ = some (.int .i64 s1) ∧ Wk.cell? ⟨lb, lo + k * 6 + 5, none⟩ = some (.slice r1 m1 d1) ∧ Wk.cell? ⟨lb, lo + y * 6, none⟩ = some (.int .i64 t2) ∧ Wk.cell? ⟨lb, lo + y * 6 + 1, none⟩ = some (.slice p2 n2 c2) ∧ Wk.cell? ⟨lb, lo + y * 6 + 2, none⟩ = some (.int .i64 l2) ∧ Wk.cell? ⟨lb, lo + y * 6 + 3, none⟩ = some (.int .i64 q2) ∧ Wk.cell? ⟨lb, lo + y * 6 + 4, none⟩ = some (.int .i64 s2) ∧ Wk.cell? ⟨lb, lo + y * 6 + 5, none⟩ = some (.slice r2 m2 d2))
            (first | exact hS.out | exact held_12_0 hb1 (by assumption) | assumption)
            (first
      | (go_at_call 16; (with_reducible refine (HC.out _ (And.left (by assumption))).mono ?_); rintro e w1 ⟨rfl, hb1⟩)
      | (go_at_call 36; (with_reducible refine (HA.out _).mono ?_); rintro e w1 ⟨rfl, hb1⟩))
          rename_i hT
          have HW2 : Hid (Below w.heap.size w w1) := HW.out.trans (hT.1.mono HW.out.size)
          clear hS hT hb1 a0 a1 a2 a3 a4 a5 b0 b1 b2 b3 b4 b5 hdy
          cases x
          · go_wp2_with fail
            go_roundw
            case rel => exact ⟨k + 1, y, by omega, by go_num, rfl, HB.out.keep HX.out.symm, HW2⟩
            case measure => simp [intOf]; omega
          · go_wp2_with fail
            go_roundw
            case rel => exact ⟨k + 1, k, by omega, by go_num, rfl, HB.out.next HR.out.symm HX.out.symm, HW2⟩
            case measure => simp [intOf]; omega
    · obtain rfl : k = n := by omega
      go_wp2_with fail
      go_ret
      exact ⟨c, rfl, by rw [← HN.out]; exact HB.out, HW.out⟩

end Go.Proofs.Ytnknpgfconfgjaa

/-
  slices.Clone of numbers; table.Lookup and the document's.
-/
namespace Go.Proofs.Ytnknpgfconfgjaa
open Go.RowKit Stab

def numC (n : Nat) : List Value := [.int .u64 ((n / B : Nat) : Int), .int .u64 ((n % B : Nat) : Int)]
theorem flatGN : FlatG 2 NAt numC where
  len := fun _ => rfl
  one := fun x u hu => by
    unfold numC at hu
    simp at hu
    rcases hu with rfl | rfl <;> rfl
  get := fun w b o x h i v hi => by
    match i, hi with
    | 0, hi => cases hi; exact h.2.1
    | 1, hi => cases hi; exact h.2.2
theorem putN {w : World} {b o n : Nat} (hn : n < B * B) (h : CellsAt w b o (numC n)) : NAt w b o n := ⟨hn, h 0 _ rfl, h 1 _ rfl⟩
theorem elemNum : ElemOk 29 24 (.agg #[.int .u64 0, .int .u64 0]) 2 16 := ⟨Try.underlying29, infoNum, rfl, by decide⟩

/-- The list's numbers are numbers. -/
def Nums (l : List Nat) : Prop := ∀ n ∈ l, n < B * B
theorem RowAt.nums {w : World} {v : Value} {l : List Nat} (h : NRow w v l) : Nums l := by
  intro n hn
  obtain ⟨j, hj, rfl⟩ := List.mem_iff_getElem.1 hn
  obtain ⟨pa, cap, -, -, -, -, h5⟩ := h
  obtain ⟨b, o, -, -, h6⟩ := h5 (by omega)
  exact (h6 j _ (List.getElem?_eq_getElem hj)).1
/-- Numbers in memory of a call's own. -/
def NOwn (base : Nat) (w : World) (v : Value) (l : List Nat) : Prop := w.ownsRow base 24 2 v l.length (l.flatMap numC) ∧ Nums l
theorem NOwn.row {base : Nat} {w : World} {v : Value} {l : List Nat} (h : NOwn base w v l) : NRow w v l :=
  RowAt.of_flatG flatGN.len rfl h.1 fun x hx b o => putN (h.2 x hx)

set_option maxRecDepth 100000 in
set_option maxHeartbeats 800000 in
theorem cloneN_any (l : List Nat) (v : Value) (w : World) (hv : NRow w v l) (hl : l.length ≤ 1000000) :
    Calls Try.prog 37 #[v] w fun e w' => ∃ v', e = .returned v' ∧ NOwn w.heap.size w' v' l ∧ Below w.heap.size w w' := by
  have HN := Lib.hid hv.nums
  have HV := Lib.hid hv
  obtain ⟨pa, ca, rfl, h1, h2, h3, -⟩ := hv.all
  clear hv
  cases pa with
  | none =>
    obtain rfl := h3 rfl
    obtain rfl : l = [] := List.eq_nil_of_length_eq_zero (by omega)
    clear h1 h2 h3 hl HV
    have q : (Go.binOp .eql 29 (.slice none 0 0) (.slice none 0 0)).run Try.prog w = .ok (.bool true) w := Lib.run_eql_slice_nil w _ _ none 0 0 0 0 Try.underlying29
    go_enter Try.func37, Try.ntmps37
    go_wp2_with fail
    go_ret
    exact ⟨_, rfl, ⟨World.ownsRow_nil _ _ _ _, HN.out⟩, Below.refl _ _⟩
  | some ad =>
    clear h3
    have q : ∀ m, (Go.binOp .eql 29 (.slice (some ad) m ca) (.slice none 0 0)).run Try.prog w = .ok (.bool false) w := fun m => Lib.run_eql_slice_nil w _ _ (some ad) m ca 0 0 Try.underlying29
    obtain ⟨n, hn⟩ : ∃ n, n = l.length := ⟨_, rfl⟩
    have S1 : Hid (∀ W, Below w.heap.size w W → SrcAt W 2 (.slice (some ad) n ca) n (l.flatMap numC)) := fun W hW => by rw [hn]; exact (HV.out.below keepN hW).src flatGN
    rw [← hn] at hl h1 ⊢
    have HNN := Lib.hid hn
    clear hn
    go_enter Try.func37, Try.ntmps37
    go_wp2_with (at_builtin; refine append_gen elemNum rfl (.tmp 5) (.tmp 6) rfl w.heap.size (.slice (some ⟨w.heap.size, 0, none⟩) 0 0) 0 [] rfl (owns_made0 w 24 2) (.slice (some ad) n ca) n _ rfl (S1.out _ ((Below.refl _ _).alloc (Nat.le_refl _) _)) (by omega) (by unfold maxLen; omega) (by simp) ?_; intro y1 w1 g1 g2; have HO1 := Lib.hid g1; have HB1 : Hid (Below w.heap.size w w1) := below_grown ((Below.refl _ _).alloc (Nat.le_refl _) _) (owns_made0 w 24 2) g2 (Nat.le_refl _) (by simp); clear g1 g2)
    go_ret
    refine ⟨_, rfl, ⟨?_, HN.out⟩, HB1.out⟩
    have := HO1.out
    rw [Nat.zero_add, List.nil_append, HNN.out] at this
    exact this

/-- What is run: of the chosen entry, or else what is told. -/
def Look (l : List Ent) (tab : Int) (ks : List Nat) (a0 : Int) (g0 : List Nat) (a : Int) (g : List Nat) : Prop := ∃ c, Best l tab ks l.length c ∧ a = (if c < 0 then a0 else (eAt l c).act) ∧ g = (if c < 0 then g0 else (eAt l c).args)
theorem Look.unique {l : List Ent} {tab : Int} {ks : List Nat} {a0 a b : Int} {g0 g h : List Nat} (x : Look l tab ks a0 g0 a g) (y : Look l tab ks a0 g0 b h) : a = b ∧ g = h := by
  obtain ⟨c, h1, h2, h3⟩ := x
  obtain ⟨d, k1, k2, k3⟩ := y
  obtain rfl := h1.unique k1
  exact ⟨h2.trans k2.symm, h3.trans k3.symm⟩
def RetRunO (w : World) (R : Int → List Nat → Prop) (e : Ending) (w' : World) : Prop := ∃ a g v, e = .returned (.agg #[.int .i64 a, v]) ∧ R a g ∧ NOwn w.heap.size w' v g ∧ Below w.heap.size w w'
def RetRun (w : World) (R : Int → List Nat → Prop) (e : Ending) (w' : World) : Prop := ∃ a g v, e = .returned (.agg #[.int .i64 a, v]) ∧ R a g ∧ NRow w' v g ∧ Below w.heap.size w w'

theorem NOwn.mono {base base' : Nat} {w : World} {v : Value} {l : List Nat} (h : NOwn base w v l) (hb : base' ≤ base) : NOwn base' w v l := by
  obtain ⟨⟨h1, h2⟩, h3⟩ := h
  refine ⟨⟨h1, ?_⟩, h3⟩
  rcases h2 with h2 | ⟨g, cap, cur, q1, q2, q3⟩
  · exact .inl h2
  · exact .inr ⟨g, cap, cur, q1, by omega, q3⟩

theorem NOwn.at {base : Nat} {w w' : World} {v : Value} {l : List Nat} (h : NOwn base w v l) (hk : ∀ k, base ≤ k → w'.heap[k]? = w.heap[k]?) : NOwn base w' v l := by
  obtain ⟨⟨h1, h2⟩, h3⟩ := h
  refine ⟨⟨h1, ?_⟩, h3⟩
  rcases h2 with h2 | ⟨g, cap, cur, q1, q2, q3, q4⟩
  · exact .inl h2
  · exact .inr ⟨g, cap, cur, q1, q2, by rw [hk g q2]; exact q3, q4⟩
theorem NOwn.shape {base : Nat} {w : World} {v : Value} {l : List Nat} (h : NOwn base w v l) : ∃ p c, v = .slice p l.length c := by
  rcases h.1.2 with ⟨h2, h3⟩ | ⟨g, cap, cur, q1, -⟩
  · exact ⟨_, _, by rw [h2, h3]⟩
  · exact ⟨_, _, q1⟩

set_option maxRecDepth 100000 in
set_option maxHeartbeats 3200000 in
theorem lookup_any (l : List Ent) (tab : Int) (ks : List Nat) (a0 : Int) (g0 : List Nat) (lv kv gv : Value) (w : World) (hl : ERow w lv l) (hk : NRow w kv ks) (hg : NRow w gv g0) (hn : l.length ≤ 40) (hf : Few l) (hg0 : g0.length ≤ 10) :
    Calls Try.prog 21 #[lv, .int .i64 tab, kv, .agg #[.int .i64 a0, gv]] w (RetRunO w (Look l tab ks a0 g0)) := by
  obtain ⟨la, lc, rfl, hc1, hc2⟩ := hl.shape
  obtain ⟨ka, kc, rfl, kc1, kc2⟩ := hk.shape
  obtain ⟨ga, gc, rfl, gc1, gc2⟩ := hg.shape
  have HC : Hid (∀ W, Below w.heap.size w W → Calls Try.prog 19 #[.slice la l.length lc, .int .i64 tab, .slice ka ks.length kc] W (RetBest W l tab ks)) := fun W hW => choose_any l tab ks _ _ W (hl.below keepE hW) (hk.below keepN hW) hn hf
  have HL := Lib.hid hl
  have HG := Lib.hid hg
  have HF := Lib.hid hf
  have HCL : Hid (∀ (g : List Nat) (v : Value) (W : World), NRow W v g → g.length ≤ 1000000 → Calls Try.prog 37 #[v] W fun e w' => ∃ v', e = .returned v' ∧ NOwn W.heap.size w' v' g ∧ Below W.heap.size W w') := fun g v W h1 h2 => cloneN_any g v W h1 h2
  clear hl hk hg hf
  go_enter Try.func21, Try.ntmps21
  go_wp2_with fail
  have hb0 : Below w.heap.size w (((w.alloc (.cells #[.int .i64 a0, .slice ga g0.length gc] 56)).alloc (.cells #[.int .i64 0, .slice none 0 0] 56)).alloc (.cells #[.int .i64 a0, .slice ga g0.length gc] 56)) := (by repeat (first | exact Below.refl _ _ | assumption | refine Below.drew ?_ | refine Below.alloc ?_ (by first | omega | (simp <;> omega)) _ | refine Below.setCell ?_ (by first | omega | (simp <;> omega)) _ | refine Below.trans ?_ (Below.mono (by assumption) (by first | omega | (simp <;> omega)))))
  generalize hX : ((w.alloc (.cells #[.int .i64 a0, .slice ga g0.length gc] 56)).alloc (.cells #[.int .i64 0, .slice none 0 0] 56)).alloc (.cells #[.int .i64 a0, .slice ga g0.length gc] 56) = X at hb0
  have x0 : X.cell? ⟨w.heap.size + 1, 0, none⟩ = some (.int .i64 0) := by rw [← hX]; simp [go_sem]
  have x1 : X.cell? ⟨w.heap.size + 1, 1, none⟩ = some (.slice none 0 0) := by rw [← hX]; simp [go_sem]
  have x2 : X.cell? ⟨w.heap.size + 1 + 1, 0, none⟩ = some (.int .i64 a0) := by rw [← hX]; simp [go_sem]
  have x3 : X.cell? ⟨w.heap.size + 1 + 1, 1, none⟩ = some (.slice ga g0.length gc) := by rw [← hX]; simp [go_sem]
  have xs : X.heap.size = w.heap.size + 1 + 1 + 1 := by rw [← hX]; simp
  have xf : ∀ j, X.frozen? ⟨w.heap.size + 1, j, none⟩ = false ∧ X.frozen? ⟨w.heap.size + 1 + 1, j, none⟩ = false := fun j => by rw [← hX]; simp [go_sem]
  have hXW : ∀ W, Below X.heap.size X W → (W.cell? ⟨w.heap.size + 1, 0, none⟩ = some (.int .i64 0) ∧ W.cell? ⟨w.heap.size + 1, 1, none⟩ = some (.slice none 0 0) ∧ W.cell? ⟨w.heap.size + 1 + 1, 0, none⟩ = some (.int .i64 a0) ∧ W.cell? ⟨w.heap.size + 1 + 1, 1, none⟩ = some (.slice ga g0.length gc)) ∧
      (∀ j, W.frozen? ⟨w.heap.size + 1, j, none⟩ = false) ∧ (∀ j, W.frozen? ⟨w.heap.size + 1 + 1, j, none⟩ = false) ∧ w.heap.size + 1 + 1 < W.heap.size ∧ Below w.heap.size w W := fun W hW =>
    ⟨⟨(hW.cell (p := ⟨w.heap.size + 1, 0, none⟩) (by show w.heap.size + 1 < _; omega)).trans x0, (hW.cell (p := ⟨w.heap.size + 1, 1, none⟩) (by show w.heap.size + 1 < _; omega)).trans x1, (hW.cell (p := ⟨w.heap.size + 1 + 1, 0, none⟩) (by show w.heap.size + 1 + 1 < _; omega)).trans x2, (hW.cell (p := ⟨w.heap.size + 1 + 1, 1, none⟩) (by show w.heap.size + 1 + 1 < _; omega)).trans x3⟩,
      fun j => (hW.frozen (p := ⟨w.heap.size + 1, j, none⟩) (by show w.heap.size + 1 < _; omega)).trans (xf j).1, fun j => (hW.frozen (p := ⟨w.heap.size + 1 + 1, j, none⟩) (by show w.heap.size + 1 + 1 < _; omega)).trans (xf j).2, by have := hW.size; omega, hb0.trans (hW.mono hb0.size)⟩
  have HXW := Lib.hid hXW
  have HCX := Lib.hid (HC.out X hb0)
  clear hX x0 x1 x2 x3 xs xf hXW HC hb0
  refine HCX.out.mono ?_
  rintro e w1 ⟨c, rfl, hbest, hb1⟩
  obtain ⟨⟨x0, x1, x2, x3⟩, f1, f2, hs1, hbw⟩ := HXW.out w1 hb1
  have HB := Lib.hid hbest
  have HW1 := Lib.hid hbw
  have f10 := f1 0
  have f11 := f1 1
  have f20 := f2 0
  have f21 := f2 1
  clear hbest hb1 hbw HCX f1 f2
  obtain ⟨N, hN⟩ : ∃ N, N = w.heap.size := ⟨_, rfl⟩
  have HNN := Lib.hid hN
  rw [← hN] at x0 x1 x2 x3 f10 f11 f20 f21 hs1 ⊢
  clear hN
  by_cases hc : c < 0
  · have HCC := Lib.hid (HCL.out g0 _ w1 (HG.out.below keepN HW1.out) (by omega))
    go_wp2_with fail
    refine HCC.out.mono ?_
    rintro e w2 ⟨v', rfl, ho, hb2⟩
    obtain ⟨vp, vc, rfl⟩ := ho.shape
    have HO := Lib.hid ho
    have y0 := (hb2.cell (p := ⟨N + 1, 0, none⟩) (by show N + 1 < _; omega)).trans x0
    have y1 := (hb2.cell (p := ⟨N + 1, 1, none⟩) (by show N + 1 < _; omega)).trans x1
    have y2 := (hb2.cell (p := ⟨N + 1 + 1, 0, none⟩) (by show N + 1 + 1 < _; omega)).trans x2
    have y3 := (hb2.cell (p := ⟨N + 1 + 1, 1, none⟩) (by show N + 1 + 1 < _; omega)).trans x3
    have g10 := (hb2.frozen (p := ⟨N + 1, 0, none⟩) (by show N + 1 < _; omega)).trans f10
    have g11 := (hb2.frozen (p := ⟨N + 1, 1, none⟩) (by show N + 1 < _; omega)).trans f11
    have g21 := (hb2.frozen (p := ⟨N + 1 + 1, 1, none⟩) (by show N + 1 + 1 < _; omega)).trans f21
    have HW2 := Lib.hid (HW1.out.trans (hb2.mono HW1.out.size))
    have hs2 := hb2.size
    clear ho hb2 HCC x0 x1 x2 x3 f10 f11 f20 f21
    go_wp2_with fail
    refine bodyPost_ret (v := .agg #[.int .i64 a0, .slice vp g0.length vc]) (by simp [results, Try.results21, go_sem, y0, y1]) rfl ?_
    refine ⟨a0, g0, _, rfl, ⟨c, HB.out, by rw [if_pos hc], by rw [if_pos hc]⟩, (HO.out.at fun k hk => ?_).mono (by have := HNN.out; omega), ((HW2.out.setCell (by have := HNN.out; show _ ≤ N + 1 + 1; omega) _).setCell (by have := HNN.out; show _ ≤ N + 1; omega) _).setCell (by have := HNN.out; show _ ≤ N + 1; omega) _⟩
    rw [Below.heap_setCell _ _ _ _ (by show k ≠ N + 1; omega), Below.heap_setCell _ _ _ _ (by show k ≠ N + 1; omega), Below.heap_setCell _ _ _ _ (by show k ≠ N + 1 + 1; omega)]
  · obtain ⟨y, rfl⟩ : ∃ y : Nat, c = (y : Int) := ⟨c.toNat, by omega⟩
    have hyl : y < l.length := by
      rcases HB.out with ⟨h, -⟩ | ⟨-, h, -⟩
      · omega
      · omega
    obtain ⟨lb, lo, lc2, he2, hlb, hej⟩ := HL.out.at (eAt_nat l y hyl)
    simp only [Value.slice.injEq] at he2
    obtain ⟨rfl, -, -⟩ := he2
    obtain ⟨p1, n1, c1, r1, m1, d1, a0', a1', a2', a3', a4, a5, hp, hr⟩ := hej.six
    clear a0' a1' a2' a3' hp
    have hr2 := hr
    obtain ⟨r1', d1', he3, -, -⟩ := hr2.shape
    simp only [Value.slice.injEq] at he3
    obtain ⟨rfl, rfl, rfl⟩ := he3
    have b4 := (HW1.out.cell (p := ⟨lb, lo + y * 6 + 4, none⟩) hlb).trans a4
    have b5 := (HW1.out.cell (p := ⟨lb, lo + y * 6 + 5, none⟩) hlb).trans a5
    have hne1 : lb ≠ N + 1 := by have := HNN.out; omega
    have hne2 : lb ≠ N + 1 + 1 := by have := HNN.out; omega
    have hgl : (eAt l (y : Int)).args.length ≤ 10 := (HF.out y hyl).2
    have HR := Lib.hid hr
    have HA : Hid ((eAt l (y : Int)).act = (eAt l (y : Int)).act ∧ (eAt l (y : Int)).args = (eAt l (y : Int)).args) := ⟨rfl, rfl⟩
    have HLK : Hid (∀ a g, a = (eAt l (y : Int)).act → g = (eAt l (y : Int)).args → Look l tab ks a0 g0 a g) := fun a g h1 h2 => ⟨(y : Int), HB.out, by rw [if_neg (by omega)]; exact h1, by rw [if_neg (by omega)]; exact h2⟩
    obtain ⟨act, hact⟩ : ∃ act, act = (eAt l (y : Int)).act := ⟨_, rfl⟩
    obtain ⟨g, hgg⟩ : ∃ g, g = (eAt l (y : Int)).args := ⟨_, rfl⟩
    have HL2 := Lib.hid (HLK.out act g hact hgg)
    rw [← hact] at b4
    rw [← hgg] at b5 hgl HR
    clear hact hgg HLK HA a4 a5 hej hr hr2
    have HCC : ∀ p q : Value, Hid (Calls Try.prog 37 #[.slice r1 g.length d1] ((w1.setCell ⟨N + 1 + 1, 0, none⟩ p).setCell ⟨N + 1 + 1, 1, none⟩ q) fun e w' => ∃ v', e = .returned v' ∧ NOwn ((w1.setCell ⟨N + 1 + 1, 0, none⟩ p).setCell ⟨N + 1 + 1, 1, none⟩ q).heap.size w' v' g ∧ Below ((w1.setCell ⟨N + 1 + 1, 0, none⟩ p).setCell ⟨N + 1 + 1, 1, none⟩ q).heap.size ((w1.setCell ⟨N + 1 + 1, 0, none⟩ p).setCell ⟨N + 1 + 1, 1, none⟩ q) w') := fun p q =>
      HCL.out g _ _ (HR.out.below keepN ((HW1.out.setCell (by have := HNN.out; show _ ≤ N + 1 + 1; omega) _).setCell (by have := HNN.out; show _ ≤ N + 1 + 1; omega) _)) (by omega)
    have z1 : (y : Int) < (l.length : Int) := by omega
    go_wp2_with fail
    have HCY := HCC (.int .i64 act) (.slice r1 g.length d1)
    have hby : Below w.heap.size w ((w1.setCell ⟨N + 1 + 1, 0, none⟩ (.int .i64 act)).setCell ⟨N + 1 + 1, 1, none⟩ (.slice r1 g.length d1)) := (HW1.out.setCell (by have := HNN.out; show _ ≤ N + 1 + 1; omega) _).setCell (by have := HNN.out; show _ ≤ N + 1 + 1; omega) _
    generalize hY : (w1.setCell ⟨N + 1 + 1, 0, none⟩ (.int .i64 act)).setCell ⟨N + 1 + 1, 1, none⟩ (.slice r1 g.length d1) = Y at HCY hby
    have u0 : Y.cell? ⟨N + 1, 0, none⟩ = some (.int .i64 0) := by rw [← hY]; simp [go_sem, x0, x1, x2, x3]
    have u1 : Y.cell? ⟨N + 1, 1, none⟩ = some (.slice none 0 0) := by rw [← hY]; simp [go_sem, x0, x1, x2, x3]
    have u2 : Y.cell? ⟨N + 1 + 1, 0, none⟩ = some (.int .i64 act) := by rw [← hY]; simp [go_sem, x0, x1, x2, x3]
    have u3 : Y.cell? ⟨N + 1 + 1, 1, none⟩ = some (.slice r1 g.length d1) := by rw [← hY]; simp [go_sem, x0, x1, x2, x3]
    have v10 : Y.frozen? ⟨N + 1, 0, none⟩ = false := by rw [← hY]; simp [go_sem, f10]
    have v11 : Y.frozen? ⟨N + 1, 1, none⟩ = false := by rw [← hY]; simp [go_sem, f11]
    have v21 : Y.frozen? ⟨N + 1 + 1, 1, none⟩ = false := by rw [← hY]; simp [go_sem, f21]
    have hsy : N + 1 + 1 < Y.heap.size := by rw [← hY]; simp; omega
    have HBY := Lib.hid hby
    clear hY hby HCC x0 x1 x2 x3 f10 f11 f20 f21 b4 b5 hs1
    refine HCY.out.mono ?_
    rintro e w2 ⟨v', rfl, ho, hb2⟩
    obtain ⟨vp, vc, rfl⟩ := ho.shape
    have HO := Lib.hid ho
    have y0 := (hb2.cell (p := ⟨N + 1, 0, none⟩) (by show N + 1 < _; omega)).trans u0
    have y1 := (hb2.cell (p := ⟨N + 1, 1, none⟩) (by show N + 1 < _; omega)).trans u1
    have y2 := (hb2.cell (p := ⟨N + 1 + 1, 0, none⟩) (by show N + 1 + 1 < _; omega)).trans u2
    have y3 := (hb2.cell (p := ⟨N + 1 + 1, 1, none⟩) (by show N + 1 + 1 < _; omega)).trans u3
    have g10 := (hb2.frozen (p := ⟨N + 1, 0, none⟩) (by show N + 1 < _; omega)).trans v10
    have g11 := (hb2.frozen (p := ⟨N + 1, 1, none⟩) (by show N + 1 < _; omega)).trans v11
    have g21 := (hb2.frozen (p := ⟨N + 1 + 1, 1, none⟩) (by show N + 1 + 1 < _; omega)).trans v21
    have HW2 := Lib.hid (HBY.out.trans (hb2.mono HBY.out.size))
    have hs2 := hb2.size
    clear ho hb2 HCY u0 u1 u2 u3 v10 v11 v21
    go_wp2_with fail
    refine bodyPost_ret (v := .agg #[.int .i64 act, .slice vp g.length vc]) (by simp [results, Try.results21, go_sem, y0, y1]) rfl ?_
    refine ⟨act, g, _, rfl, HL2.out, (HO.out.at fun k hk => ?_).mono (by have := HNN.out; omega), ((HW2.out.setCell (by have := HNN.out; show _ ≤ N + 1 + 1; omega) _).setCell (by have := HNN.out; show _ ≤ N + 1; omega) _).setCell (by have := HNN.out; show _ ≤ N + 1; omega) _⟩
    rw [Below.heap_setCell _ _ _ _ (by show k ≠ N + 1; omega), Below.heap_setCell _ _ _ _ (by show k ≠ N + 1; omega), Below.heap_setCell _ _ _ _ (by show k ≠ N + 1 + 1; omega)]

end Go.Proofs.Ytnknpgfconfgjaa
