/-
  Lemmas, joined: RefAnd, RefEval.
-/
import Derived.Test.YtlnkflmnjkmhkaaJR17
import Derived.BigQuiet
import Derived.Deep.QuietTactic
import Derived.Outline
import Derived.Test.YtlnkflmnjkmhkaaJR21
import Derived.Test.YtlnkflmnjkmhkaaJR22
/-
  Contract of quillonref01.And: bit by bit.
-/
namespace Go.Proofs.Ytlnkflmnjkmhkaa
open Go.RowKit

set_option maxRecDepth 100000 in
set_option maxHeartbeats 4000000 in
theorem refAnd_any (a b : Nat) (ha : a < B * B) (hb : b < B * B) (w : World) :
    Calls Try.prog 32 #[numV a, numV b] w (RetNum w (a &&& b)) := by
  obtain ⟨fa, hfa⟩ : ∃ fa, fa = a.testBit := ⟨_, rfl⟩
  obtain ⟨fb, hfb⟩ : ∃ fb, fb = b.testBit := ⟨_, rfl⟩
  have HA : Hid (∀ W, Calls Try.prog 88 #[numV a] W fun e w' => e = .returned (.agg (rowA fa)) ∧ Below W.heap.size W w') := fun W => by rw [hfa]; exact refBits_any a ha W
  have HB : Hid (∀ W, Calls Try.prog 88 #[numV b] W fun e w' => e = .returned (.agg (rowA fb)) ∧ Below W.heap.size W w') := fun W => by rw [hfb]; exact refBits_any b hb W
  have HFA := Lib.hid hfa
  have HFB := Lib.hid hfb
  obtain ⟨h1, l1, e1, -, -⟩ := numV_parts a
  obtain ⟨h2, l2, e2, -, -⟩ := numV_parts b
  rw [e1] at HA ⊢
  rw [e2] at HB ⊢
  clear e1 e2 hfa hfb
  go_enter Try.func32, Try.ntmps32
  go_wp2_with fail
  obtain ⟨W0, hW0⟩ : ∃ W0, W0 = ((w.alloc (.cells #[.int .u64 (h1 : Int), .int .u64 (l1 : Int)] 41)).alloc (.cells #[.int .u64 (h2 : Int), .int .u64 (l2 : Int)] 41)).alloc (.cells #[.int .u64 0, .int .u64 0] 41) := ⟨_, rfl⟩
  have hbW : Below w.heap.size w W0 := by rw [hW0]; exact (by repeat (first | exact Below.refl _ _ | assumption | refine Below.drew ?_ | refine Below.alloc ?_ (by first | omega | (simp <;> omega)) _ | refine Below.setCell ?_ (by first | omega | (simp <;> omega)) _ | refine Below.trans ?_ (Below.mono (by assumption) (by first | omega | (simp <;> omega)))))
  have z0 : w.heap.size < W0.heap.size := by rw [hW0]; simp <;> omega
  have z1 : w.heap.size + 1 < W0.heap.size := by rw [hW0]; simp
  have c0 : W0.cell? ⟨w.heap.size, 0, none⟩ = some (.int .u64 (h1 : Int)) := by rw [hW0]; simp [go_sem]
  have c1 : W0.cell? ⟨w.heap.size, 1, none⟩ = some (.int .u64 (l1 : Int)) := by rw [hW0]; simp [go_sem]
  have c2 : W0.cell? ⟨w.heap.size + 1, 0, none⟩ = some (.int .u64 (h2 : Int)) := by rw [hW0]; simp [go_sem]
  have c3 : W0.cell? ⟨w.heap.size + 1, 1, none⟩ = some (.int .u64 (l2 : Int)) := by rw [hW0]; simp [go_sem]
  have z2 : w.heap.size + 1 + 1 < W0.heap.size := by rw [hW0]; simp
  have cr : W0.heap[w.heap.size + 1 + 1]? = some (.cells #[.int .u64 0, .int .u64 0] 41 (0, 0)) := by
    rw [hW0]
    have := heap_new ((w.alloc (.cells #[.int .u64 (h1 : Int), .int .u64 (l1 : Int)] 41)).alloc (.cells #[.int .u64 (h2 : Int), .int .u64 (l2 : Int)] 41)) (.cells #[.int .u64 0, .int .u64 0] 41)
    simp only [World.size_alloc] at this
    exact this
  rw [← hW0]
  have HBW0 := Lib.hid hbW
  clear hW0 hbW
  refine wp_region_inv (by kernel_rfl) (fun L a' w' => ∃ v5 v6 v8 v9 v10 v11 : Value, a' = ⟨#[.agg #[.int .u64 (h1 : Int), .int .u64 (l1 : Int)], .agg #[.int .u64 (h2 : Int), .int .u64 (l2 : Int)], .pointer (some ⟨w.heap.size, 0, none⟩), .pointer (some ⟨w.heap.size + 1, 0, none⟩), .pointer (some ⟨w.heap.size + 1 + 1, 0, none⟩), v5, v6, undef, v8, v9, v10, v11, undef, undef, undef, undef, undef, undef, undef, undef, undef, undef, undef, undef, undef, undef, undef, undef], []⟩ ∧ TwoI (.agg #[.int .u64 (h1 : Int), .int .u64 (l1 : Int)]) (.agg #[.int .u64 (h2 : Int), .int .u64 (l2 : Int)]) fa fb W0 L v5 v6 v8 v9 v10 v11 w') ?_ ?_ ?_ ?_
  · exact ⟨_, _, _, _, _, _, rfl, TwoI.init (by funext i; unfold did; match i with | 0 => rfl | 1 => rfl | 2 => rfl | 3 => rfl | 4 => rfl | 5 => rfl | 6 => rfl | 7 => rfl | i + 8 => rfl) (below_drewN (Below.refl _ _) 1)⟩
  · rintro L a' w' i hL hi hnd hdep ⟨v5, v6, v8, v9, v10, v11, rfl, hI⟩
    have hL8 : L.size = 8 := hL
    have HI := Lib.hid hI
    have d0 : w'.cell? ⟨w.heap.size, 0, none⟩ = some (.int .u64 (h1 : Int)) := (hI.below.cell (p := ⟨w.heap.size, 0, none⟩) z0).trans c0
    have d1 : w'.cell? ⟨w.heap.size, 1, none⟩ = some (.int .u64 (l1 : Int)) := (hI.below.cell (p := ⟨w.heap.size, 1, none⟩) z0).trans c1
    have d2 : w'.cell? ⟨w.heap.size + 1, 0, none⟩ = some (.int .u64 (h2 : Int)) := (hI.below.cell (p := ⟨w.heap.size + 1, 0, none⟩) z1).trans c2
    have d3 : w'.cell? ⟨w.heap.size + 1, 1, none⟩ = some (.int .u64 (l2 : Int)) := (hI.below.cell (p := ⟨w.heap.size + 1, 1, none⟩) z1).trans c3
    have hZ : Try.zeroCells120 = rowA fun _ => false := by kernel_rfl
    have HZ := Lib.hid hZ
    clear hZ hI
    match i, hi with
    | 0, _ =>
      clear hdep hnd
      refine wpOp_step rfl (fun K' hK => ?_)
      go_simp
      exact hK _ _ ⟨_, _, _, _, _, _, rfl, HI.out.s0 hL8⟩
    | 1, _ =>
      have q := HI.out.h0 (hdep _ rfl ⟨0, .data⟩ (by simp) (by kernel_rfl))
      subst q
      clear hdep hnd
      refine wpOp_step rfl (fun K' hK => ?_)
      go_simp
      refine (HA.out _).mono ?_
      rintro e w1 ⟨rfl, hb1⟩
      exact hK _ _ ⟨_, _, _, _, _, _, rfl, (HI.out.below' hb1).s1 hL8⟩
    | 2, _ =>
      clear hdep hnd
      refine wpOp_step rfl (fun K' hK => ?_)
      go_simp
      exact hK _ _ ⟨_, _, _, _, _, _, rfl, HI.out.s2 hL8⟩
    | 3, _ =>
      have q := HI.out.h2 (hdep _ rfl ⟨2, .data⟩ (by simp) (by kernel_rfl))
      subst q
      clear hdep hnd
      refine wpOp_step rfl (fun K' hK => ?_)
      go_simp
      refine (HB.out _).mono ?_
      rintro e w1 ⟨rfl, hb1⟩
      exact hK _ _ ⟨_, _, _, _, _, _, rfl, (HI.out.below' hb1).s3 hL8⟩
    | 4, _ =>
      have hnd' := Lib.hid hnd
      clear hdep hnd
      refine wpOp_step rfl (fun K' hK => ?_)
      go_simp
      rw [HZ.out]
      exact hK _ _ ⟨_, _, _, _, _, _, rfl, HI.out.s4 hL8 hnd'.out⟩
    | 5, _ =>
      have hnd' := Lib.hid hnd
      clear hdep hnd
      refine wpOp_step rfl (fun K' hK => ?_)
      go_simp
      rw [HZ.out]
      exact hK _ _ ⟨_, _, _, _, _, _, rfl, HI.out.s5 hL8 hnd'.out⟩
    | 6, _ =>
      have q4 := hdep _ rfl ⟨4, .data⟩ (by simp) (by kernel_rfl)
      have q := HI.out.h1 (hdep _ rfl ⟨1, .data⟩ (by simp) (by kernel_rfl))
      subst q
      obtain ⟨g, e1, -, e3⟩ := HI.out.h4 q4
      subst e1
      clear hdep hnd
      refine wpOp_step rfl (fun K' hK => ?_)
      refine store_wanted rfl ?_
      exact wp_store_row 120 (.tmp 5) (.tmp 9) rfl g (rowA fa) rfl rfl 120 _ e3 (by rw [rowA_size]; exact infoRow) (by rw [rowA_size, rowA_size]) (rowA_one _) (hK _ _ ⟨_, _, _, _, _, _, rfl, HI.out.s6 hL8 q4 rfl⟩)
    | 7, _ =>
      have q5 := hdep _ rfl ⟨5, .data⟩ (by simp) (by kernel_rfl)
      have q := HI.out.h3 (hdep _ rfl ⟨3, .data⟩ (by simp) (by kernel_rfl))
      subst q
      obtain ⟨g, e1, -, e3⟩ := HI.out.h5 q5
      subst e1
      clear hdep hnd
      refine wpOp_step rfl (fun K' hK => ?_)
      refine store_wanted rfl ?_
      exact wp_store_row 120 (.tmp 6) (.tmp 11) rfl g (rowA fb) rfl rfl 120 _ e3 (by rw [rowA_size]; exact infoRow) (by rw [rowA_size, rowA_size]) (rowA_one _) (hK _ _ ⟨_, _, _, _, _, _, rfl, HI.out.s7 hL8 q5 rfl⟩)
  · intro i o ho e he
    match i, ho with
    | 0, ho => cases ho; simp at he
    | 1, ho => cases ho; simp at he; subst he; show (0 : Nat) < 1; omega
    | 2, ho => cases ho; simp at he
    | 3, ho => cases ho; simp at he; rcases he with rfl | rfl <;> (simp <;> omega)
    | 4, ho => cases ho; simp at he
    | 5, ho => cases ho; simp at he
    | 6, ho => cases ho; simp at he; rcases he with rfl | rfl | rfl | rfl | rfl | rfl | rfl | rfl | rfl <;> (simp <;> omega)
    | 7, ho => cases ho; simp at he; rcases he with rfl | rfl | rfl | rfl | rfl | rfl | rfl | rfl | rfl | rfl <;> (simp <;> omega)
  rintro L a' w' hall ⟨v5, v6, v8, v9, v10, v11, rfl, hI⟩
  obtain ⟨rfl, rfl, rfl, rfl, gx, gy, hgn, rfl, rfl, hgx, hgy, hrx, hry, hbw⟩ := hI.all hall
  have HRX := Lib.hid hrx
  have HRY := Lib.hid hry
  have HBW := Lib.hid hbw
  have HGN := Lib.hid hgn
  clear hI hall hrx hry hbw hgn HA HB c0 c1 c2 c3
  have crx := (HBW.out.block (w.heap.size + 1 + 1) z2).trans cr
  have hgx0 : w.heap.size + 1 + 1 < gx := by omega
  have hgy0 : w.heap.size + 1 + 1 < gy := by omega
  have H0 : Hid (OpAt and fa fb w gx gy 0 w') := ⟨by rw [HRX.out]; congr 2, HRY.out, ⟨_, _, crx⟩, HBW0.out.trans (HBW.out.mono HBW0.out.size)⟩
  clear crx cr HBW HBW0 z0 z1 z2 HRX HRY
  go_wp2_with fail
  go_loopw [7] (fun i wr => ∃ k : Nat, k ≤ 128 ∧ i = .int .i64 k ∧ Hid (OpAt and fa fb w gx gy k wr)) (fun i _ => 128 - (intOf i).toNat)
  case atStart => exact ⟨0, Nat.zero_le _, rfl, H0⟩
  case round =>
    obtain ⟨k, hk, rfl, HK⟩ := hrel
    by_cases hlt : k < 128
    · obtain ⟨r1, r2, r3⟩ := HK.out.cells hlt
      cases hf1 : fa k <;> cases hf2 : fb k
      all_goals
        rw [hf1] at r1
        rw [hf2] at r2
        have HF1 := Lib.hid hf1
        have HF2 := Lib.hid hf2
        clear hf1 hf2
        go_wp2_with fail
        go_roundw
        case rel => exact ⟨k + 1, by omega, by go_num, HK.out.step hlt HGN.out (by omega) (by rw [HF1.out, HF2.out]; rfl)⟩
        case measure => simp [intOf]; omega
    · obtain rfl : k = 128 := by omega
      obtain ⟨r1, r2, ⟨x0, x1, r3⟩, r4⟩ := HK.out
      have e : (rowA fun i => if i < 128 then and (fa i) (fb i) else fa i) = rowA fun i => and (fa i) (fb i) := rowA_congr fun i hi => by rw [if_pos hi]
      rw [e] at r1
      have HE : Hid (ofBits (fun i => and (fa i) (fb i)) 128 = a &&& b) := by
        show _ = _
        rw [HFA.out, HFB.out]
        refine ofBits_eq (by rw [← BB_pow2]; exact Nat.lt_of_le_of_lt Nat.and_le_left ha) fun i _ => ?_
        simp [Nat.testBit_and]
      have HNUM : Hid (∀ W, Calls Try.prog 89 #[.agg (rowA fun i => and (fa i) (fb i))] W (RetNum W (a &&& b))) := fun W => by rw [← HE.out]; exact refNum_any _ W
      have HB4 := Lib.hid r4
      have H3 := Lib.hid r3
      clear e r2 r3 r4 HE HK H0 HGN
      have hRR : (rowA fun i => and (fa i) (fb i)).size = 128 := rowA_size _
      generalize (rowA fun i => and (fa i) (fb i)) = RR at r1 HNUM hRR
      go_wp2_with (first
        | (refine wpList_load_row rfl 120 (.tmp 5) rfl gx rfl 120 RR (0, 0) _ r1 Try.underlying120 rfl (by rw [hRR]; exact infoRow) ?_))
      clear r1
      obtain ⟨h3, l3, e3, -, -⟩ := numV_parts (a &&& b)
      have HE3 := Lib.hid e3
      have HNUM2 : Hid (∀ W, Calls Try.prog 89 #[.agg RR] W fun e w' => e = .returned (.agg #[.int .u64 (h3 : Int), .int .u64 (l3 : Int)]) ∧ Below W.heap.size W w') := fun W => by rw [← HE3.out]; exact HNUM.out W
      clear HNUM e3
      refine (HNUM2.out _).mono ?_
      rintro e w1 ⟨rfl, hb1⟩
      have hr := (hb1.block (w.heap.size + 1 + 1) (lt_of_block H3.out)).trans H3.out
      have q0 : w1.cell? ⟨w.heap.size + 1 + 1, 0, none⟩ = some x0 := by simp [World.cell?, hr]
      have q1 : w1.cell? ⟨w.heap.size + 1 + 1, 1, none⟩ = some x1 := by simp [World.cell?, hr]
      have qz : ∀ j, w1.frozen? ⟨w.heap.size + 1 + 1, j, none⟩ = false := fun j => by simp [World.frozen?, hr]
      have HR := Lib.hid hr
      have HB1 : Hid (Below w.heap.size w w1) := HB4.out.trans (hb1.mono HB4.out.size)
      clear hr hb1
      go_wp2_with fail
      have hg := set_lo (.int .u64 (l3 : Int)) (set_hi (.int .u64 (h3 : Int)) HR.out)
      exact bodyPost_ret (v := .agg #[.int .u64 (h3 : Int), .int .u64 (l3 : Int)]) (results_cell_row Try.results32 _ _ (w.heap.size + 1 + 1) _ _ _ _ (by simp [go_sem]) hg Try.underlying41 rfl (by kernel_rfl)) rfl ⟨by rw [HE3.out], (HB1.out.setCell (by show w.heap.size ≤ w.heap.size + 1 + 1; omega) _).setCell (by show w.heap.size ≤ w.heap.size + 1 + 1; omega) _⟩

end Go.Proofs.Ytlnkflmnjkmhkaa

/-
  Contracts of the reference's Holds, Eval and Is, and of symbv.Is at a store that is there.
-/
namespace Go.Proofs.Ytlnkflmnjkmhkaa
open Go.RowKit Go.Maps

def HoldsAt (m : Nat) : Prop := ∀ (b : Nat) (O : Nat → Prop) (s : BS) (a : Int) (vb : Value) (bs : List Bool) (w : World), RSto w b O s → BVec w vb bs → bs.length ≤ 1000000 → (rightP s.nodes a).toNat < m →
  Calls Try.prog 107 #[.pointer (some ⟨b, 0, none⟩), .int .i64 a, vb] w fun e w' => e = .returned (.bool (valP s.nodes (qOf bs) (rightP s.nodes a))) ∧ Below w.heap.size w w'

set_option maxRecDepth 100000 in
set_option maxHeartbeats 2000000 in
theorem holds_step (m : Nat) (ih : Hid (HoldsAt m)) : HoldsAt (m + 1) := by
  intro b O s a vb bs w hs hbv hbl hm
  obtain ⟨hI, ho⟩ := hs
  have HR := Lib.hid (right_ref b O s a w hI)
  have HIS : Hid (Is s.nodes (rightP s.nodes a)) := rightP_is _ _
  have HS : Hid (RSto w b O s) := ⟨hI, ho⟩
  have HBV := Lib.hid hbv
  obtain ⟨pa, cb, rfl, hb1, hb2, hb3⟩ := hbv
  have HB := Lib.hid hb3
  generalize rightP s.nodes a = r at *
  by_cases h2 : r < 2
  · have HV := Lib.hid (valP_two (l := s.nodes) (q := qOf bs) h2)
    clear hI ho hb3
    by_cases h1 : r = 1
    · subst h1
      go_enter Try.func107, Try.ntmps107
      go_wp2_with fail
      refine HR.out.mono ?_
      rintro e w1 ⟨rfl, rfl⟩
      go_wp2_with fail
      go_ret
      exact ⟨by rw [HV.out]; rfl, Below.refl _ _⟩
    · have h1' : (r == 1) = false := by simp [h1]
      rw [h1'] at HV
      go_enter Try.func107, Try.ntmps107
      go_wp2_with fail
      refine HR.out.mono ?_
      rintro e w1 ⟨rfl, rfl⟩
      go_wp2_with fail
      go_ret
      exact ⟨by rw [HV.out]; simp [h1, h1'], Below.refl _ _⟩
  · obtain ⟨k, rfl⟩ : ∃ k : Nat, r = (k : Int) + 2 := ⟨(r - 2).toNat, by omega⟩
    have hk : k < s.nodes.length := by have := HIS.out; unfold Is at this; omega
    obtain ⟨g, cn, t, ht, c1, hcn, hle, n0, n1, n2⟩ := hI.node k hk
    have e2 : ((k : Int) + 2 - 2).toNat = k := by omega
    have HV : Hid (valP s.nodes (qOf bs) ((k : Int) + 2) = if qOf bs t.a then valP s.nodes (qOf bs) t.c else valP s.nodes (qOf bs) t.b) := by
      show _ = _
      rw [valP_node ho _ HIS.out (by omega) (by rw [e2]; exact ht)]
    have q1 := ho.lo _ _ ht
    have q2 := ho.hi _ _ ht
    have q3 := ho.var _ _ ht
    have ib : rightP s.nodes t.b = t.b := rightP_of_is (by unfold Is; omega)
    have ic : rightP s.nodes t.c = t.c := rightP_of_is (by unfold Is; omega)
    have HLO : Hid (∀ W, Below w.heap.size w W → Calls Try.prog 107 #[.pointer (some ⟨b, 0, none⟩), .int .i64 t.b, .slice pa bs.length cb] W fun e w' => e = .returned (.bool (valP s.nodes (qOf bs) t.b)) ∧ Below W.heap.size W w') := fun W hW => by
      have := ih.out b O s t.b _ bs W (HS.out.below hW) (HBV.out.below hW) hbl (by rw [ib]; omega)
      rw [ib] at this; exact this
    have HHI : Hid (∀ W, Below w.heap.size w W → Calls Try.prog 107 #[.pointer (some ⟨b, 0, none⟩), .int .i64 t.c, .slice pa bs.length cb] W fun e w' => e = .returned (.bool (valP s.nodes (qOf bs) t.c)) ∧ Below W.heap.size W w') := fun W hW => by
      have := ih.out b O s t.c _ bs W (HS.out.below hW) (HBV.out.below hW) hbl (by rw [ic]; omega)
      rw [ic] at this; exact this
    have hv0 : 0 ≤ t.a := q3.1
    have hv1 : t.a < 64 := q3.2
    have HBW : Hid (∀ o, Below w.heap.size w (w.alloc o)) := fun o => (Below.refl _ _).alloc (Nat.le_refl _) o
    clear hI ho hb3 ht e2 q1 q2 q3 ib ic HIS hm h2 ih HBV HS
    by_cases hin : t.a < bs.length
    · obtain ⟨bb, ob, rfl, hbb, hbc⟩ := HB.out (by omega)
      obtain ⟨v, hv⟩ : ∃ v : Nat, t.a = (v : Int) := ⟨t.a.toNat, by omega⟩
      have r1 : w.cell? ⟨bb, ob + v, none⟩ = some (.bool (qOf bs t.a)) := by
        rw [hbc v (by omega), hv]
        rfl
      have r2 : ∀ o, (w.alloc o).cell? ⟨bb, ob + v, none⟩ = some (.bool (qOf bs t.a)) := fun o => (World.cell?_alloc_lt w o ⟨bb, ob + v, none⟩ hbb).trans r1
      have HQ : Hid (qOf bs (v : Int) = qOf bs t.a) := by show _ = _; rw [hv]
      rw [hv] at n0 hin hv0 hv1 r1 r2
      clear hbc hv HB
      cases hq : qOf bs (v : Int)
      all_goals
        rw [hq] at r1 r2
        have HQ2 : Hid (qOf bs t.a = _) := HQ.out.symm.trans hq
        rw [HQ2.out] at HV
        simp only [Bool.false_eq_true, reduceIte] at HV
        clear hq HQ HQ2
        generalize valP s.nodes (qOf bs) t.b = zb at *
        generalize valP s.nodes (qOf bs) t.c = zc at *
        generalize valP s.nodes (qOf bs) ((k : Int) + 2) = zr at *
        generalize t.a = ta at *
        generalize t.b = tb at *
        generalize t.c = tc at *
        go_enter Try.func107, Try.ntmps107
        go_wp2_with fail
        refine HR.out.mono ?_
        rintro e w1 ⟨rfl, rfl⟩
        clear HR
        go_wp2_with fail
        first | (with_reducible refine (HLO.out _ (HBW.out _)).mono ?_) | (with_reducible refine (HHI.out _ (HBW.out _)).mono ?_)
        rintro e w2 ⟨rfl, hb⟩
        have HBB := Lib.hid ((HBW.out _).trans (hb.mono (HBW.out _).size))
        clear hb
        go_wp2_with fail
        go_ret
        exact ⟨by rw [HV.out]; rfl, HBB.out⟩
    · have HQ2 : qOf bs t.a = false := by unfold qOf; rw [List.getD_eq_getElem?_getD, List.getElem?_eq_none (by omega)]; rfl
      rw [HQ2] at HV
      simp only [Bool.false_eq_true, reduceIte] at HV
      clear HQ2 HB
      generalize valP s.nodes (qOf bs) t.b = zb at *
      generalize valP s.nodes (qOf bs) t.c = zc at *
      generalize valP s.nodes (qOf bs) ((k : Int) + 2) = zr at *
      generalize t.a = ta at *
      generalize t.b = tb at *
      generalize t.c = tc at *
      go_enter Try.func107, Try.ntmps107
      go_wp2_with fail
      refine HR.out.mono ?_
      rintro e w1 ⟨rfl, rfl⟩
      clear HR
      go_wp2_with fail
      refine (HLO.out _ (HBW.out _)).mono ?_
      rintro e w2 ⟨rfl, hb⟩
      have HBB := Lib.hid ((HBW.out _).trans (hb.mono (HBW.out _).size))
      clear hb
      go_wp2_with fail
      go_ret
      exact ⟨by rw [HV.out]; rfl, HBB.out⟩

theorem holds_at : ∀ m, HoldsAt m
  | 0 => fun _ _ _ _ _ _ _ _ _ _ h => absurd h (Nat.not_lt_zero _)
  | m + 1 => holds_step m (holds_at m)
theorem holds_rs (b : Nat) (O : Nat → Prop) (s : BS) (a : Int) (vb : Value) (bs : List Bool) (w : World) (hs : RSto w b O s) (hbv : BVec w vb bs) (hbl : bs.length ≤ 1000000) :
    Calls Try.prog 107 #[.pointer (some ⟨b, 0, none⟩), .int .i64 a, vb] w fun e w' => e = .returned (.bool (valP s.nodes (qOf bs) (rightP s.nodes a))) ∧ Below w.heap.size w w' :=
  holds_at _ b O s a vb bs w hs hbv hbl (Nat.lt_succ_self _)


theorem bitAt_high (k : Nat) (h : 128 ≤ k) : bitAt k = 0 := by
  unfold bitAt
  have e1 : sh (k : Int) = 128 := by unfold sh; omega
  have e2 : sh 128 = 128 := rfl
  rw [e1, e2]
  decide +kernel
theorem evalN_high (hold : Nat → Bool) : ∀ j, evalN hold (128 + j) = evalN hold 128
  | 0 => rfl
  | j + 1 => by
    rw [show 128 + (j + 1) = (128 + j) + 1 from rfl, evalN, bitAt_high _ (by omega), Nat.or_zero, evalN_high hold j]
    split <;> rfl
theorem ofBits_evalN (hold : Nat → Bool) (n : Nat) : ofBits (fun i => decide (i < min n 128) && hold i) 128 = evalN hold n := by
  have e : evalN hold n = evalN hold (min n 128) := by
    by_cases h : n ≤ 128
    · rw [Nat.min_eq_left h]
    · rw [Nat.min_eq_right (by omega), show n = 128 + (n - 128) by omega, evalN_high]
  rw [e]
  refine ofBits_eq (by rw [← BB_pow2]; exact evalN_lt _ _) fun i _ => ?_
  rw [evalN_bit hold _ (by omega)]

/-- A row of truths under way: the ones laid so far. -/
def EvAt (w : World) (hold : Nat → Bool) (k : Nat) (wr : World) : Prop :=
  wr.heap[w.heap.size + 1]? = some (.cells (rowA fun i => decide (i < k) && hold i) 120 (0, 0)) ∧ wr.heap[w.heap.size]? = some (.cells #[.int .u64 0, .int .u64 0] 41 (0, 0)) ∧ Below w.heap.size w wr
theorem EvAt.later {w wr w1 : World} {hold : Nat → Bool} {k : Nat} (h : EvAt w hold k wr) (hb : Below wr.heap.size wr w1) : EvAt w hold k w1 := by
  obtain ⟨h1, h2, h3⟩ := h
  exact ⟨(hb.block _ (lt_of_block h1)).trans h1, (hb.block _ (lt_of_block h2)).trans h2, h3.trans (hb.mono h3.size)⟩
theorem EvAt.cells {w wr : World} {hold : Nat → Bool} {k i : Nat} (h : EvAt w hold k wr) (hi : i < 128) : wr.cell? ⟨w.heap.size + 1, i, none⟩ = some (.bool (decide (i < k) && hold i)) ∧ wr.frozen? ⟨w.heap.size + 1, i, none⟩ = false := by
  obtain ⟨h1, h2, h3⟩ := h
  refine ⟨?_, by simp [World.frozen?, h1]⟩
  have := rowA_at (fun i => decide (i < k) && hold i) i hi
  simp [World.cell?, h1, this]
theorem EvAt.step {w wr : World} {hold : Nat → Bool} {k : Nat} (h : EvAt w hold k wr) : EvAt w hold (k + 1) (wr.setCell ⟨w.heap.size + 1, k, none⟩ (.bool (hold k))) := by
  obtain ⟨h1, h2, h3⟩ := h
  refine ⟨?_, ?_, h3.setCell (by show w.heap.size ≤ w.heap.size + 1; omega) _⟩
  · rw [setCell_row (hold k) h1]
    congr 2
    apply rowA_congr
    intro i hi
    unfold put
    by_cases e : i = k
    · subst e; simp
    · rw [if_neg e]
      have : decide (i < k + 1) = decide (i < k) := by simp; omega
      rw [this]
  · rw [setCell_heap (by omega)]; exact h2

set_option maxRecDepth 100000 in
set_option maxHeartbeats 1600000 in
theorem evalR_bel (s va bits : Value) (xs : List Int) (hold : Nat → Bool) (w : World) (ha : IVec w va xs) (hxl : xs.length ≤ 1000000)
    (hH : ∀ k, k < xs.length → ∀ W, Below w.heap.size w W → Calls Try.prog 107 #[s, .int .i64 (xs.getD k 0), bits] W fun e w' => e = .returned (.bool (hold k)) ∧ Below W.heap.size W w') :
    Calls Try.prog 47 #[s, va, bits] w (RetNum w (evalN hold xs.length)) := by
  obtain ⟨pa, ca, rfl, ha3, ha4, ha5⟩ := ha.shape
  clear ha
  have HA := Lib.hid ha5; clear ha5
  have HH := Lib.hid hH; clear hH
  obtain ⟨M, hM⟩ : ∃ M, M = min xs.length 128 := ⟨_, rfl⟩
  have hM1 : M ≤ 128 := by omega
  have hM2 : M ≤ xs.length := by omega
  have hM3 : M = xs.length ∨ (M = 128 ∧ 128 < xs.length) := by omega
  have HNE : Hid (∀ W, Calls Try.prog 89 #[.agg (rowA fun i => decide (i < M) && hold i)] W (RetNum W (evalN hold xs.length))) := fun W => by
    rw [← ofBits_evalN, ← hM]; exact refNum_any _ W
  clear hM
  go_enter Try.func47, Try.ntmps47
  go_wp2_with fail
  have hZ : Try.zeroCells120 = rowA fun _ => false := by kernel_rfl
  obtain ⟨A, hA⟩ : ∃ A, A = (w.alloc (.cells #[.int .u64 0, .int .u64 0] 41)).alloc (.cells Try.zeroCells120 120) := ⟨_, rfl⟩
  have H0 : Hid (EvAt w hold 0 A) := by
    refine ⟨?_, ?_, by rw [hA]; exact (by repeat (first | exact Below.refl _ _ | assumption | refine Below.drew ?_ | refine Below.alloc ?_ (by first | omega | (simp <;> omega)) _ | refine Below.setCell ?_ (by first | omega | (simp <;> omega)) _ | refine Below.trans ?_ (Below.mono (by assumption) (by first | omega | (simp <;> omega)))))⟩
    · rw [hA, hZ]
      have := heap_new (w.alloc (.cells #[.int .u64 0, .int .u64 0] 41)) (.cells (rowA fun _ => false) 120)
      simp only [World.size_alloc] at this
      rw [this]
      congr 2
    · rw [hA, Below.heap_alloc _ _ _ (by simp), heap_new]
  rw [← hA]
  clear hA hZ
  go_loopw [8] (fun i wr => ∃ k : Nat, k ≤ M ∧ i = .int .i64 k ∧ Hid (EvAt w hold k wr)) (fun i _ => M - (intOf i).toNat)
  case atStart => exact ⟨0, Nat.zero_le _, rfl, H0⟩
  case round =>
    obtain ⟨k, hk, rfl, HK⟩ := hrel
    by_cases hlt : k < M
    · have hk1 : k < xs.length := by omega
      have hk2 : k < 128 := by omega
      obtain ⟨ba, oa, rfl, ha2, ha5⟩ := HA.out (by omega)
      have ga := (HK.out.2.2.cell (p := ⟨ba, oa + k, none⟩) ha2).trans (ha5 k hk1)
      clear ha5
      have HC := Lib.hid (HH.out k hk1 wr HK.out.2.2)
      obtain ⟨x, hx⟩ : ∃ x, x = xs.getD k 0 := ⟨_, rfl⟩
      rw [← hx] at ga HC
      clear hx
      go_wp2_with fail
      refine HC.out.mono ?_
      rintro e w1 ⟨rfl, hb1⟩
      have HK1 : Hid (EvAt w hold k w1) := HK.out.later hb1
      obtain ⟨c1, f1⟩ := HK1.out.cells hk2
      have HS : Hid (EvAt w hold (k + 1) (w1.setCell ⟨w.heap.size + 1, k, none⟩ (.bool (hold k)))) := HK1.out.step
      generalize hold k = hb at *
      clear hb1 HC HK ga
      go_wp2_with fail
      go_roundw
      case rel => exact ⟨k + 1, by omega, by go_num, HS⟩
      case measure => simp [intOf]; omega
    · obtain rfl : k = M := by omega
      obtain ⟨r1, r2, r3⟩ := HK.out
      have HB3 := Lib.hid r3
      have H2 := Lib.hid r2
      clear r2 r3 H0 HK
      have hRR : (rowA fun i => decide (i < k) && hold i).size = 128 := rowA_size _
      obtain ⟨h3, l3, e3, -, -⟩ := numV_parts (evalN hold xs.length)
      have HE3 := Lib.hid e3
      have HNUM2 : Hid (∀ W, Calls Try.prog 89 #[.agg (rowA fun i => decide (i < k) && hold i)] W fun e w' => e = .returned (.agg #[.int .u64 (h3 : Int), .int .u64 (l3 : Int)]) ∧ Below W.heap.size W w') := fun W => by rw [← HE3.out]; exact HNE.out W
      generalize (rowA fun i => decide (i < k) && hold i) = RR at r1 HNUM2 hRR
      clear HNE e3
      rcases hM3 with hM3 | ⟨hM3, hM4⟩
      all_goals
        go_wp2_with (first
          | (refine wpList_load_row rfl 120 (.tmp 7) rfl (w.heap.size + 1) rfl 120 RR (0, 0) _ r1 Try.underlying120 rfl (by rw [hRR]; exact infoRow) ?_))
        clear r1
        refine (HNUM2.out _).mono ?_
        rintro e w1 ⟨rfl, hb1⟩
        have hr := (hb1.block w.heap.size (lt_of_block H2.out)).trans H2.out
        have q0 : w1.cell? ⟨w.heap.size, 0, none⟩ = some (.int .u64 0) := by simp [World.cell?, hr]
        have q1 : w1.cell? ⟨w.heap.size, 1, none⟩ = some (.int .u64 0) := by simp [World.cell?, hr]
        have qz : ∀ j, w1.frozen? ⟨w.heap.size, j, none⟩ = false := fun j => by simp [World.frozen?, hr]
        have HR := Lib.hid hr
        have HB1 : Hid (Below w.heap.size w w1) := HB3.out.trans (hb1.mono HB3.out.size)
        clear hr hb1
        go_wp2_with fail
        have hg := set_lo (.int .u64 (l3 : Int)) (set_hi (.int .u64 (h3 : Int)) HR.out)
        exact bodyPost_ret (v := .agg #[.int .u64 (h3 : Int), .int .u64 (l3 : Int)]) (results_cell_row Try.results47 _ _ w.heap.size _ _ _ _ (by simp [go_sem]) hg Try.underlying41 rfl (by kernel_rfl)) rfl ⟨by rw [HE3.out], (HB1.out.setCell (Nat.le_refl _) _).setCell (Nat.le_refl _) _⟩

theorem eval_rs (b : Nat) (O : Nat → Prop) (s : BS) (va vb : Value) (xs : List Int) (bs : List Bool) (w : World) (hs : RSto w b O s) (ha : IVec w va xs) (hxl : xs.length ≤ 1000000) (hbv : BVec w vb bs) (hbl : bs.length ≤ 1000000) :
    Calls Try.prog 47 #[.pointer (some ⟨b, 0, none⟩), va, vb] w (RetNum w (evalV s.nodes (qOf bs) xs)) :=
  evalR_bel _ va vb xs _ w ha hxl fun k _ W hW => holds_rs b O s (xs.getD k 0) vb bs W (hs.below hW) (hbv.below hW) hbl

/-- Is a vector one number? -/
def isB (xs : List Int) : Bool := decide (xs.length ≤ 128) && xs.all fun x => decide (0 ≤ x) && decide (x ≤ 1)
theorem isB_no {xs : List Int} {k : Nat} (hk : k < xs.length) (h : ¬ (0 ≤ xs.getD k 0 ∧ xs.getD k 0 ≤ 1)) : isB xs = false := by
  unfold isB
  rw [Bool.and_eq_false_iff]
  right
  rw [List.all_eq_false]
  refine ⟨xs[k], List.getElem_mem _, ?_⟩
  simp [hk] at h ⊢
  omega
theorem isB_yes {xs : List Int} (h0 : xs.length ≤ 128) (h : ∀ k, k < xs.length → 0 ≤ xs.getD k 0 ∧ xs.getD k 0 ≤ 1) : isB xs = true := by
  unfold isB
  rw [Bool.and_eq_true]
  refine ⟨by simpa using h0, ?_⟩
  rw [List.all_eq_true]
  intro x hx
  obtain ⟨k, hk, rfl⟩ := List.getElem_of_mem hx
  have := h k hk
  simp [hk] at this ⊢
  omega
def isN (l : List T3) (xs : List Int) : Nat := if isB xs then evalV l (qOf []) xs else 0
theorem BVec.nil (w : World) : BVec w (.slice none 0 0) [] := ⟨none, 0, rfl, Nat.le_refl _, Nat.zero_le _, fun h => absurd h (Nat.lt_irrefl 0)⟩

set_option maxRecDepth 100000 in
set_option maxHeartbeats 1600000 in
theorem is_rs (b : Nat) (O : Nat → Prop) (s : BS) (va : Value) (xs : List Int) (w : World) (hs : RSto w b O s) (ha : IVec w va xs) (hxl : xs.length ≤ 1000000) :
    Calls Try.prog 46 #[.pointer (some ⟨b, 0, none⟩), va] w fun e w' => e = .returned (.tuple #[numV (isN s.nodes xs), .bool (isB xs)]) ∧ Below w.heap.size w w' := by
  have HE : Hid (∀ W, Below w.heap.size w W → Calls Try.prog 47 #[.pointer (some ⟨b, 0, none⟩), va, .slice none 0 0] W (RetNum W (evalV s.nodes (qOf []) xs))) := fun W hW =>
    eval_rs b O s va _ xs [] W (hs.below hW) (ha.below hW) hxl (BVec.nil W) (by simp)
  have HNO : Hid (isB xs = false → Value.tuple #[numV (isN s.nodes xs), .bool (isB xs)] = .tuple #[.agg #[.int .u64 0, .int .u64 0], .bool false]) := fun e => by
    unfold isN; rw [e]; simp only [Bool.false_eq_true, if_false]; rw [← zero_eq_numV]
  have HYES : Hid (isB xs = true → Value.tuple #[numV (isN s.nodes xs), .bool (isB xs)] = .tuple #[numV (evalV s.nodes (qOf []) xs), .bool true]) := fun e => by
    unfold isN; rw [e]; simp
  have HK : Hid (∀ k, k < xs.length → ¬ (0 ≤ xs.getD k 0 ∧ xs.getD k 0 ≤ 1) → isB xs = false) := fun k => isB_no
  have HKY := Lib.hid (@isB_yes xs)
  obtain ⟨pa, ca, rfl, ha3, ha4, ha5⟩ := ha.shape
  clear ha hs
  have HA := Lib.hid ha5; clear ha5
  by_cases hlen : 128 < xs.length
  · have HN := Lib.hid (HNO.out (by unfold isB; simp; omega))
    clear HNO HYES HK HKY HE HA
    go_enter Try.func46, Try.ntmps46
    go_wp2_with fail
    exact bodyPost_ret (v := .tuple #[.agg #[.int .u64 0, .int .u64 0], .bool false]) (by simp [results, Try.results46, go_sem]) rfl ⟨by rw [HN.out], (by repeat (first | exact Below.refl _ _ | assumption | refine Below.drew ?_ | refine Below.alloc ?_ (by first | omega | (simp <;> omega)) _ | refine Below.setCell ?_ (by first | omega | (simp <;> omega)) _ | refine Below.trans ?_ (Below.mono (by assumption) (by first | omega | (simp <;> omega)))))⟩
  · have hl : xs.length ≤ 128 := by omega
    clear hlen
    go_enter Try.func46, Try.ntmps46
    go_wp2_with fail
    have HB : Hid (Below w.heap.size w (w.alloc (.cells #[.int .u64 0, .int .u64 0] 41))) := (by repeat (first | exact Below.refl _ _ | assumption | refine Below.drew ?_ | refine Below.alloc ?_ (by first | omega | (simp <;> omega)) _ | refine Below.setCell ?_ (by first | omega | (simp <;> omega)) _ | refine Below.trans ?_ (Below.mono (by assumption) (by first | omega | (simp <;> omega)))))
    go_loop [6] (fun i => ∃ k : Nat, k ≤ xs.length ∧ i = .int .i64 k ∧ Hid (∀ j, j < k → 0 ≤ xs.getD j 0 ∧ xs.getD j 0 ≤ 1)) (fun i => xs.length - (intOf i).toNat)
    case atStart => exact ⟨0, Nat.zero_le _, rfl, fun j hj => absurd hj (Nat.not_lt_zero j)⟩
    case round =>
      obtain ⟨k, hk, rfl, HJ⟩ := hrel
      by_cases hlt : k < xs.length
      · obtain ⟨ba, oa, rfl, ha2, ha5⟩ := HA.out (by omega)
        have ga := ha5 k hlt
        clear ha5
        by_cases hok : 0 ≤ xs.getD k 0 ∧ xs.getD k 0 ≤ 1
        · have HJ2 : Hid (∀ j, j < k + 1 → 0 ≤ xs.getD j 0 ∧ xs.getD j 0 ≤ 1) := fun j hj => by
            by_cases e : j = k
            · subst e; exact hok
            · exact HJ.out j (by omega)
          obtain ⟨o1, o2⟩ := hok
          generalize xs.getD k 0 = x at *
          go_wp2_with fail
          go_round
          case rel => exact ⟨k + 1, by omega, by go_num, HJ2⟩
          case measure => simp [intOf]; omega
        · have HN := Lib.hid (HNO.out (HK.out _ hlt hok))
          by_cases o1 : xs.getD k 0 < 0
          · clear hok
            generalize xs.getD k 0 = x at *
            clear HNO HYES HK HKY HE HA
            go_wp2_with fail
            exact bodyPost_ret (v := .tuple #[.agg #[.int .u64 0, .int .u64 0], .bool false]) (by simp [results, Try.results46, go_sem]) rfl ⟨by rw [HN.out], (by repeat (first | exact Below.refl _ _ | assumption | refine Below.drew ?_ | refine Below.alloc ?_ (by first | omega | (simp <;> omega)) _ | refine Below.setCell ?_ (by first | omega | (simp <;> omega)) _ | refine Below.trans ?_ (Below.mono (by assumption) (by first | omega | (simp <;> omega)))))⟩
          · have o2 : 1 < xs.getD k 0 := by omega
            clear hok
            generalize xs.getD k 0 = x at *
            clear HNO HYES HK HKY HE HA
            go_wp2_with fail
            exact bodyPost_ret (v := .tuple #[.agg #[.int .u64 0, .int .u64 0], .bool false]) (by simp [results, Try.results46, go_sem]) rfl ⟨by rw [HN.out], (by repeat (first | exact Below.refl _ _ | assumption | refine Below.drew ?_ | refine Below.alloc ?_ (by first | omega | (simp <;> omega)) _ | refine Below.setCell ?_ (by first | omega | (simp <;> omega)) _ | refine Below.trans ?_ (Below.mono (by assumption) (by first | omega | (simp <;> omega)))))⟩
      · obtain rfl : k = xs.length := by omega
        have HN := Lib.hid (HYES.out (HKY.out hl HJ.out))
        obtain ⟨u, v, he, -, -⟩ := numV_parts (evalV s.nodes (qOf []) xs)
        have HM := Lib.hid he; clear he
        clear HNO HYES HK HKY HA
        go_wp2_with fail
        refine (HE.out _ HB.out).mono ?_
        rintro e w1 ⟨rfl, hb⟩
        rw [HM.out]
        obtain ⟨ec, ef⟩ := bcell hb
        have HBB := Lib.hid (HB.out.trans (hb.mono HB.out.size))
        go_wp2_with fail
        exact bodyPost_ret (v := .tuple #[.agg #[.int .u64 (u : Int), .int .u64 (v : Int)], .bool true]) (by simp [results, Try.results46, go_sem, ec, ef]) rfl ⟨by rw [HN.out, HM.out], (HBB.out.setCell (Nat.le_refl _) _).setCell (Nat.le_refl _) _⟩

set_option maxRecDepth 100000 in
set_option maxHeartbeats 1600000 in
theorem is_sto (b : Nat) (O : Nat → Prop) (s : BS) (va : Value) (xs : List Int) (w : World) (hs : Sto w b O s) (ha : IVec w va xs) (hxl : xs.length ≤ 1000000) :
    Calls Try.prog 45 #[.pointer (some ⟨b, 0, none⟩), va] w fun e w' => e = .returned (.tuple #[numV (isN s.nodes xs), .bool (isB xs)]) ∧ Below w.heap.size w w' := by
  have HE : Hid (∀ W, Below w.heap.size w W → Calls Try.prog 40 #[.pointer (some ⟨b, 0, none⟩), va, .slice none 0 0] W (RetNum W (evalV s.nodes (qOf []) xs))) := fun W hW =>
    eval_sto b O s va _ xs [] W (hs.below hW) (ha.below hW) hxl (BVec.nil W) (by simp)
  have HNO : Hid (isB xs = false → Value.tuple #[numV (isN s.nodes xs), .bool (isB xs)] = .tuple #[.agg #[.int .u64 0, .int .u64 0], .bool false]) := fun e => by
    unfold isN; rw [e]; simp only [Bool.false_eq_true, if_false]; rw [← zero_eq_numV]
  have HYES : Hid (isB xs = true → Value.tuple #[numV (isN s.nodes xs), .bool (isB xs)] = .tuple #[numV (evalV s.nodes (qOf []) xs), .bool true]) := fun e => by
    unfold isN; rw [e]; simp
  have HK : Hid (∀ k, k < xs.length → ¬ (0 ≤ xs.getD k 0 ∧ xs.getD k 0 ≤ 1) → isB xs = false) := fun k => isB_no
  have HKY := Lib.hid (@isB_yes xs)
  have HLN : Hid (128 < xs.length → isB xs = false) := fun h => by unfold isB; simp; omega
  obtain ⟨pa, ca, rfl, ha3, ha4, ha5⟩ := ha.shape
  clear ha hs
  have HA := Lib.hid ha5; clear ha5
  go_enter Try.func45, Try.ntmps45
  go_wp2_with fail
  have HB : Hid (Below w.heap.size w (w.alloc (.cells #[.int .u64 0, .int .u64 0] 41))) := (by repeat (first | exact Below.refl _ _ | assumption | refine Below.drew ?_ | refine Below.alloc ?_ (by first | omega | (simp <;> omega)) _ | refine Below.setCell ?_ (by first | omega | (simp <;> omega)) _ | refine Below.trans ?_ (Below.mono (by assumption) (by first | omega | (simp <;> omega)))))
  go_loop [10] (fun i => ∃ k : Nat, k ≤ xs.length ∧ i = .int .i64 k ∧ Hid (∀ j, j < k → 0 ≤ xs.getD j 0 ∧ xs.getD j 0 ≤ 1) ∧ (0 < k → xs.length ≤ 128)) (fun i => xs.length - (intOf i).toNat)
  case atStart => exact ⟨0, Nat.zero_le _, rfl, (fun j hj => absurd hj (Nat.not_lt_zero j)), fun h => absurd h (Nat.lt_irrefl 0)⟩
  case round =>
    obtain ⟨k, hk, rfl, HJ, hle⟩ := hrel
    by_cases hlt : k < xs.length
    · obtain ⟨ba, oa, rfl, ha2, ha5⟩ := HA.out (by omega)
      have ga := ha5 k hlt
      clear ha5
      by_cases hok : 0 ≤ xs.getD k 0 ∧ xs.getD k 0 ≤ 1
      · by_cases hl : xs.length ≤ 128
        · have HJ2 : Hid (∀ j, j < k + 1 → 0 ≤ xs.getD j 0 ∧ xs.getD j 0 ≤ 1) := fun j hj => by
            by_cases e : j = k
            · subst e; exact hok
            · exact HJ.out j (by omega)
          clear hle
          rcases (show xs.getD k 0 = 0 ∨ xs.getD k 0 = 1 by omega) with hz | hz
          all_goals
            rw [hz] at ga
            clear hok hz
            go_wp2_with fail
            go_round
            case rel => exact ⟨k + 1, by omega, by go_num, HJ2, fun _ => hl⟩
            case measure => simp [intOf]; omega
        · have HN := Lib.hid (HNO.out (HLN.out (by omega)))
          have hl' : 128 < xs.length := by omega
          clear hle hl
          rcases (show xs.getD k 0 = 0 ∨ xs.getD k 0 = 1 by omega) with hz | hz
          all_goals
            rw [hz] at ga
            clear hok hz
            clear HNO HYES HK HKY HE HA HLN
            go_wp2_with fail
            exact bodyPost_ret (v := .tuple #[.agg #[.int .u64 0, .int .u64 0], .bool false]) (by simp [results, Try.results45, go_sem]) rfl ⟨by rw [HN.out], (by repeat (first | exact Below.refl _ _ | assumption | refine Below.drew ?_ | refine Below.alloc ?_ (by first | omega | (simp <;> omega)) _ | refine Below.setCell ?_ (by first | omega | (simp <;> omega)) _ | refine Below.trans ?_ (Below.mono (by assumption) (by first | omega | (simp <;> omega)))))⟩
      · have HN := Lib.hid (HNO.out (HK.out _ hlt hok))
        have o1 : ¬ (xs.getD k 0 = 0) := by omega
        have o2 : ¬ (xs.getD k 0 = 1) := by omega
        clear hok hle
        generalize xs.getD k 0 = x at *
        clear HNO HYES HK HKY HE HA HLN
        go_wp2_with fail
        exact bodyPost_ret (v := .tuple #[.agg #[.int .u64 0, .int .u64 0], .bool false]) (by simp [results, Try.results45, go_sem]) rfl ⟨by rw [HN.out], (by repeat (first | exact Below.refl _ _ | assumption | refine Below.drew ?_ | refine Below.alloc ?_ (by first | omega | (simp <;> omega)) _ | refine Below.setCell ?_ (by first | omega | (simp <;> omega)) _ | refine Below.trans ?_ (Below.mono (by assumption) (by first | omega | (simp <;> omega)))))⟩
    · obtain rfl : k = xs.length := by omega
      have HN := Lib.hid (HYES.out (HKY.out (by omega) HJ.out))
      obtain ⟨u, v, he, -, -⟩ := numV_parts (evalV s.nodes (qOf []) xs)
      have HM := Lib.hid he; clear he
      clear HNO HYES HK HKY HA HLN hle
      go_wp2_with fail
      refine (HE.out _ HB.out).mono ?_
      rintro e w1 ⟨rfl, hb⟩
      rw [HM.out]
      obtain ⟨ec, ef⟩ := bcell hb
      have HBB := Lib.hid (HB.out.trans (hb.mono HB.out.size))
      go_wp2_with fail
      exact bodyPost_ret (v := .tuple #[.agg #[.int .u64 (u : Int), .int .u64 (v : Int)], .bool true]) (by simp [results, Try.results45, go_sem, ec, ef]) rfl ⟨by rw [HN.out, HM.out], (HBB.out.setCell (Nat.le_refl _) _).setCell (Nat.le_refl _) _⟩

end Go.Proofs.Ytlnkflmnjkmhkaa
