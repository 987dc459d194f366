/-
  Lemmas, joined: FolX, GrtB, FolY, OpenG.
-/
import Derived.Test.YtehcclcokgmplaaJA25
import Derived.Test.YtehcclcokgmplaaJA12
import Derived.BigQuiet
import Derived.Test.YtehcclcokgmplaaRows
import Derived.WalkKit
import Derived.ProofKit
import Derived.OpenShut
import Derived.ChangeOld
import Derived.Below
import Derived.Deep.Slices
import Derived.Test.YtehcclcokgmplaaJA01
/-
  Layer 35's law FoldLess, walked.
-/
namespace Go.Proofs.Ytehcclcokgmplaa
open Go.RowKit Go.Maps

/-- A code folded is never longer; folded again it is the same; as calls. -/
theorem code_twice (s : PgS) (p : Prg) (act : Int) (c : List Nod) (cp : Option Addr) (cn cc : Nat) (w : World) (hp : PgOk w s p) (hc : CRow w (.slice cp cn cc) c) (hl : c.length ≤ 500) :
    Calls Try.prog 6 #[pgV s, .int .i64 act, .slice cp cn cc] w fun e w' => (∃ (r : List Nod) (px : Option Addr) (R cx : Nat), e = .returned (.slice px R cx) ∧ R ≤ cn ∧ R ≤ 500 ∧
      (∀ W, Below w'.heap.size w' W → CRow W (.slice px R cx) r) ∧ r.length = R ∧
      (∀ W, Below w'.heap.size w' W → Calls Try.prog 6 #[pgV s, .int .i64 act, .slice px R cx] W fun e w' => (∃ p2 c2, e = .returned (.slice p2 R c2) ∧ CRow w' (.slice p2 R c2) r) ∧ Below W.heap.size W w')) ∧ Below w.heap.size w w' :=
  (code_any s p act c cp cn cc w hp hc hl).mono fun e w' ⟨⟨r, v, h1, h2, h3⟩, h4⟩ => by
    have hle := h2.le
    have hcn := hc.ln.1
    obtain ⟨px, cx, rfl⟩ := h3.shape
    refine ⟨⟨r, px, r.length, cx, h1, by omega, by omega, fun W h => h3.row.below keepNd h, rfl, fun W h => ?_⟩, h4⟩
    refine (code_any s p act r px r.length cx W ((hp.below h4).below (h.mono (Nat.le_refl _))) (h3.row.below keepNd h) (by omega)).mono fun e w2 ⟨⟨r2, v2, k1, k2, k3⟩, k4⟩ => ?_
    obtain rfl := h2.twice k2 hl
    obtain ⟨p2, c2, rfl⟩ := k3.shape
    exact ⟨⟨p2, c2, k1, k3.row⟩, k4⟩

set_option maxRecDepth 100000 in
set_option maxHeartbeats 6400000 in
theorem foldLaw_of (s : PgS) (p : Prg) (act : Int) (c : List Nod) (cp : Option Addr) (cn cc : Nat) (w : World) (hp : PgOk w s p) (hc : CRow w (.slice cp cn cc) c)
    (hG : ∀ W, Below w.heap.size w W → Calls Try.prog 4 #[pgV s] W fun e w' => (∃ b, e = .returned (.bool b)) ∧ Below W.heap.size W w') :
    Calls Try.prog 3 #[pgV s, .int .i64 act, .slice cp cn cc] w fun e w' => e = .returned (.bool true) ∧ Below w.heap.size w w' := by
  have HKN : Hid (∀ W, Calls Try.prog 5 #[] W fun e w' => e = .returned (.bool true) ∧ Below W.heap.size W w') := fun W => known35_true W
  have HG := Lib.hid hG
  have hcl : cn = c.length := hc.ln.1
  have HCD : Hid (cn ≤ 500 → ∀ W, Below w.heap.size w W → Calls Try.prog 6 #[pgV s, .int .i64 act, .slice cp cn cc] W fun e w' => (∃ (r : List Nod) (px : Option Addr) (R cx : Nat), e = .returned (.slice px R cx) ∧ R ≤ cn ∧ R ≤ 500 ∧
      (∀ W, Below w'.heap.size w' W → CRow W (.slice px R cx) r) ∧ r.length = R ∧
      (∀ W, Below w'.heap.size w' W → Calls Try.prog 6 #[pgV s, .int .i64 act, .slice px R cx] W fun e w' => (∃ p2 c2, e = .returned (.slice p2 R c2) ∧ CRow w' (.slice p2 R c2) r) ∧ Below W.heap.size W w')) ∧ Below W.heap.size W w') := fun h W hb => code_twice s p act c cp cn cc W (hp.below hb) (hc.below keepNd hb) (by omega)
  clear hp hc hG hcl
  unfold pgV at HG HCD ⊢
  go_enter Try.func3, Try.ntmps3
  go_upto_region 1 with fail
  obtain ⟨W0, hW0⟩ : ∃ W0, W0 = w.alloc (.cells #[.slice s.hp s.hn s.hc, .slice s.mp s.mn s.mc, .slice s.sp s.sn s.sc, .slice s.ap s.an s.ac, .slice s.tp s.tn s.tc, .slice s.cp s.cn s.cc, .slice s.ep s.en s.ec, .slice s.v1 s.n1 s.c1, .slice s.v2 s.n2 s.c2, .slice s.v3 s.n3 s.c3, .slice s.v4 s.n4 s.c4, .slice s.v5 s.n5 s.c5] 33) := ⟨_, rfl⟩
  have HB0 : Hid (Below w.heap.size w W0) := by show Below _ _ _; rw [hW0]; exact (by repeat (first | exact Below.refl _ _ | assumption | refine Below.drew ?_ | refine Below.alloc ?_ (by first | omega | (simp <;> omega)) _ | refine Below.setCell ?_ (by first | omega | (simp <;> omega)) _ | refine Below.trans ?_ (Below.mono (by assumption) (by first | omega | (simp <;> omega)))))
  have HPB : Hid (PBox W0 w.heap.size s) := by show _ = _; rw [hW0]; exact heap_new _ _
  rw [← hW0]
  clear hW0
  obtain ⟨q0, q1, q2, q3, q4, q5, q6, q7, q8, q9, q10, q11⟩ := HPB.out.cells
  by_cases h500 : cn ≤ 500
  case neg =>
    have h5 : (500 : Int) < (cn : Int) := by omega
    go_wp2_with (first
      | (go_at_call 4; refine (HG.out _ HB0.out).mono ?_; rintro e w2 ⟨⟨b, rfl⟩, g2⟩; have HE2 : Hid (Below w.heap.size w w2) := HB0.out.trans (g2.mono HB0.out.size); clear g2 q0 q1 q2 q3 q4 q5 q6 q7 q8 q9 q10 q11; cases b)
      | (go_at_call 5; refine (HKN.out _).mono ?_; rintro e w3 ⟨rfl, g3⟩; have HE3 : Hid (Below w.heap.size w w3) := HE2.out.trans (g3.mono HE2.out.size); clear g3))
    all_goals
      go_ret
      exact ⟨rfl, HE3.out⟩
  have h5 : ¬ (500 : Int) < (cn : Int) := by omega
  replace HCD := Lib.hid (HCD.out h500)
  go_wp2_with (first
    | (go_at_call 4; refine (HG.out _ HB0.out).mono ?_; rintro e w2 ⟨⟨b, rfl⟩, g2⟩; have HE2 : Hid (Below w.heap.size w w2) := HB0.out.trans (g2.mono HB0.out.size); have HP2 : Hid (PBox w2 w.heap.size s) := HPB.out.below g2; clear g2 q0 q1 q2 q3 q4 q5 q6 q7 q8 q9 q10 q11; obtain ⟨q0, q1, q2, q3, q4, q5, q6, q7, q8, q9, q10, q11⟩ := HP2.out.cells; cases b)
    | (go_at_call 5; refine (HKN.out _).mono ?_; rintro e w8 ⟨rfl, g3⟩; first | (have HE8 : Hid (Below w.heap.size w w8) := HE7.out.trans (g3.mono HE7.out.size)) | (have HE8 : Hid (Below w.heap.size w w8) := HE2.out.trans (g3.mono HE2.out.size)); clear g3)
    | (go_at_call 6; (with_reducible refine (HCD.out _ HE2.out).mono ?_); rintro e w3 ⟨⟨r, px, R, cx, rfl, hRn, hR5, g4, g5, g6⟩, g3⟩; have hRi : (R : Int) ≤ (cn : Int) := (by omega); have HE3 : Hid (Below w.heap.size w w3) := HE2.out.trans (g3.mono HE2.out.size); have HP3 : Hid (PBox w3 w.heap.size s) := HP2.out.below g3; have HR3 := Lib.hid g4; have HL3 := Lib.hid g5; have HD3 := Lib.hid g6; clear g3 g4 g5 g6 q0 q1 q2 q3 q4 q5 q6 q7 q8 q9 q10 q11; obtain ⟨q0, q1, q2, q3, q4, q5, q6, q7, q8, q9, q10, q11⟩ := HP3.out.cells)
    | (go_at_call 6; (with_reducible refine (HD3.out _ (Below.refl _ _)).mono ?_); rintro e w4 ⟨⟨p2, c2, rfl, g4⟩, g3⟩; have HS4 := Lib.hid g4; have HB4 : Hid (Below w3.heap.size w3 w4) := g3; have HE4 : Hid (Below w.heap.size w w4) := HE3.out.trans (g3.mono HE3.out.size); clear g3 g4 q0 q1 q2 q3 q4 q5 q6 q7 q8 q9 q10 q11)
    | (go_at_call 7; refine (sameC_any _ _ r w4 HS4.out (HR3.out _ HB4.out) (by have := HL3.out; omega)).mono ?_; rintro e w7 ⟨rfl, g3⟩; have HE7 : Hid (Below w.heap.size w w7) := HE4.out.trans (g3.mono HE4.out.size); clear g3))
  all_goals
    go_ret
    exact ⟨rfl, HE8.out⟩

end Go.Proofs.Ytehcclcokgmplaa

/-
  Layer 10's document: Great answers, whatever the program is.
-/
namespace Go.Proofs.Ytehcclcokgmplaa
open Go.RowKit

theorem RowAt.big {α : Type} {sz : Nat} {At : World → Nat → Nat → α → Prop} {w : World} {p : Option Addr} {n c : Nat} {l : List α} (h : RowAt sz At w (.slice p n c) l) : n ≤ 9223372036854775807 := by
  have h1 := h.ln
  have h2 := h1.2.1
  have h3 := h1.2.2.1
  unfold maxLen at h3
  omega
theorem out_addR {ops : Array Oper} {Q : Exit → Act → World → Prop} {o : Oper} {l : Nat → Value} {a : Act} {w : World} {t1 t2 : Nat} {x z : Int} (hw : Region.wanted o (yielded ops a.tmps) = true) (ho : o.op = Op.binOp .add 3 (.tmp t1) (.tmp t2) 3) (e1 : a.eval (.tmp t1) = .int .i64 x) (e2 : a.eval (.tmp t2) = .int .i64 z) :
    OutStep Try.prog ops Q o (.rel fun _ v => ∃ z : Int, v = .int .i64 z) l a w := by
  refine out_new (v := .int .i64 (IntKind.i64.wrap (x + z))) hw ?_ (Below.refl _ _) ⟨_, rfl⟩
  generalize a.eval = ev at *
  simp [execOp, ho, e1, e2, go_sem]
/-- What weigh adds up, as the machine does. -/
def wzP (l : List Ist) (k : Nat) : Int := (l.take k).foldl (fun z i => wrap64 (z + (i.e.length : Int))) (l.length : Int)
theorem wzP_succ {l : List Ist} {k : Nat} {x : Ist} (h : l[k]? = some x) : wzP l (k + 1) = wrap64 (wzP l k + (x.e.length : Int)) := by
  unfold wzP
  rw [List.take_add_one, h, List.foldl_append]
  rfl
set_option maxRecDepth 100000 in
set_option maxHeartbeats 4000000 in
theorem weigh10b_any (l : List Ist) (p : Option Addr) (n c : Nat) (w : World) (h : IstRow w (.slice p n c) l) :
    Calls Try.prog 8 #[.slice p n c] w fun e w' => e = .returned (.int .i64 (wzP l l.length)) ∧ w' = w := by
  have hbig := h.big
  obtain ⟨hl1, -, -, -⟩ := h.ln
  subst hl1
  have HV := Lib.hid h
  clear h
  obtain ⟨RR, hRR⟩ : ∃ RR, RR = wzP l l.length := ⟨_, rfl⟩
  rw [← hRR]
  have HRR := Lib.hid hRR
  clear hRR
  go_enter Try.func8, Try.ntmps8
  go_wp2_with fail
  go_loopw [3, 4] (fun z i wr => ∃ (k : Nat) (q : Int), k ≤ l.length ∧ i = .int .i64 k ∧ z = .int .i64 q ∧ Hid (q = wzP l k) ∧ wr = w) (fun _ i _ => l.length - (intOf i).toNat)
  case atStart => exact ⟨0, _, Nat.zero_le _, rfl, rfl, rfl, rfl⟩
  case round =>
    obtain ⟨k, q, hk, rfl, rfl, HQ, rfl⟩ := hrel
    by_cases hlt : k < l.length
    · have hki : (k : Int) < (l.length : Int) := by omega
      obtain ⟨x, hx⟩ : ∃ x, l[k]? = some x := ⟨_, List.getElem?_eq_getElem hlt⟩
      obtain ⟨b, o, rfl, hb, -, -, -, ⟨ep, en, ec, y3, hy⟩, -⟩ := HV.out.get hx
      have HS : Hid (wrap64 (q + (en : Int)) = wzP l (k + 1)) := by show _ = _; rw [wzP_succ hx, HQ.out, hy.ln.1]
      clear hx hy
      go_wp2_with fail
      go_roundw
      case rel => exact ⟨k + 1, _, by omega, by go_num, rfl, HS.out, by trivial⟩
      case measure => simp [intOf]; omega
    · obtain rfl : k = l.length := by omega
      have hki : ¬ ((l.length : Nat) : Int) < (l.length : Int) := by omega
      obtain rfl : q = RR := HQ.out.trans HRR.out.symm
      go_wp2_with fail
      go_ret
      exact ⟨rfl, rfl⟩

set_option maxRecDepth 100000 in
set_option maxHeartbeats 12800000 in
theorem great10b_any (s : PgS) (p : Prg) (w : World) (hp : PgOk w s p) :
    Calls Try.prog 4 #[pgV s] w fun e w' => (∃ b, e = .returned (.bool b)) ∧ Below w.heap.size w w' := by
  have HCW : Hid (∀ W, Below w.heap.size w W → Calls Try.prog 8 #[.slice s.cp s.cn s.cc] W fun e w' => (∃ z : Int, e = .returned (.int .i64 z)) ∧ Below W.heap.size W w') := fun W h => Calls.mono (weigh10b_any _ _ _ _ _ (hp.ctl.below keepIst h)) fun _ _ h => ⟨⟨_, h.1⟩, h.2 ▸ Below.refl _ _⟩
  have HP := Lib.hid hp
  have HN : Hid (s.hn = p.heads.length ∧ s.sn = p.steps.length ∧ s.an = p.acts.length ∧ s.tn = p.tabs.length) := ⟨hp.heads.ln.1, hp.steps.ln.1, hp.acts.ln.1, hp.tabs.ln.1⟩
  have HBG : Hid (s.hn ≤ 9223372036854775807 ∧ s.sn ≤ 9223372036854775807 ∧ s.an ≤ 9223372036854775807 ∧ s.tn ≤ 9223372036854775807) := ⟨hp.heads.big, hp.steps.big, hp.acts.big, hp.tabs.big⟩
  clear hp
  unfold pgV
  go_enter Try.func4, Try.ntmps4
  go_upto_region 1 with fail
  obtain ⟨W0, hW0⟩ : ∃ W0, W0 = w.alloc (.cells #[.slice s.hp s.hn s.hc, .slice s.mp s.mn s.mc, .slice s.sp s.sn s.sc, .slice s.ap s.an s.ac, .slice s.tp s.tn s.tc, .slice s.cp s.cn s.cc, .slice s.ep s.en s.ec, .slice s.v1 s.n1 s.c1, .slice s.v2 s.n2 s.c2, .slice s.v3 s.n3 s.c3, .slice s.v4 s.n4 s.c4, .slice s.v5 s.n5 s.c5] 33) := ⟨_, rfl⟩
  have HB0 : Hid (Below w.heap.size w W0) := by show Below _ _ _; rw [hW0]; exact (by repeat (first | exact Below.refl _ _ | assumption | refine Below.drew ?_ | refine Below.alloc ?_ (by first | omega | (simp <;> omega)) _ | refine Below.setCell ?_ (by first | omega | (simp <;> omega)) _ | refine Below.trans ?_ (Below.mono (by assumption) (by first | omega | (simp <;> omega)))))
  have HPB : Hid (PBox W0 w.heap.size s) := by show _ = _; rw [hW0]; exact heap_new _ _
  rw [← hW0]
  clear hW0
  have HCE := Lib.hid (fun W (h : Below W0.heap.size W0 W) => (HPB.out.below h).cells)
  have HC1 := Lib.hid (fun W (h : Below W0.heap.size W0 W) => HCW.out W (HB0.out.trans (h.mono HB0.out.size)))
  refine region_outS (by kernel_rfl) (fun Wk => Below W0.heap.size W0 Wk) (fun w1 w2 h1 h2 => h1.trans (h2.mono h1.size)) (by kernel_rfl) (Below.drew (Below.refl _ _)) ?_
  refine ⟨.eq ?_, trivial, rfl, fun aa ww ll hh => ?_, ?_⟩
  rotate_left
  · have e1 := (hh.old 1 (by kernel_rfl)).trans (evalO rfl)
    simp only [nthO] at e1
    refine out_val (wanted_none rfl) ?_
    clear hh
    generalize aa.eval = ev at e1 ⊢
    go_simp
    try rfl
  refine ⟨.eq ?_, trivial, rfl, fun aa ww ll hh => ?_, ?_⟩
  rotate_left
  · have e11 := hh.get 0 0 (by kernel_rfl) rfl rfl rfl
    obtain ⟨q0, q1, q2, q3, q4, q5, q6, q7, q8, q9, q10, q11⟩ := HCE.out ww hh.inv
    refine out_val (wanted_none rfl) ?_
    clear hh
    generalize aa.eval = ev at e11 ⊢
    go_simp
    try rfl
  refine ⟨.eq ?_, trivial, rfl, fun aa ww ll hh => ?_, ?_⟩
  rotate_left
  · have e12 := hh.get 1 0 (by kernel_rfl) rfl rfl rfl
    obtain ⟨q0, q1, q2, q3, q4, q5, q6, q7, q8, q9, q10, q11⟩ := HCE.out ww hh.inv
    refine out_val (wanted_none rfl) ?_
    clear hh
    generalize aa.eval = ev at e12 ⊢
    go_simp
    try rfl
  refine ⟨.eq ?_, trivial, rfl, fun aa ww ll hh => ?_, ?_⟩
  rotate_left
  · have e1 := (hh.old 1 (by kernel_rfl)).trans (evalO rfl)
    simp only [nthO] at e1
    refine out_val (wanted_none rfl) ?_
    clear hh
    generalize aa.eval = ev at e1 ⊢
    go_simp
    try rfl
  refine ⟨.eq ?_, trivial, rfl, fun aa ww ll hh => ?_, ?_⟩
  rotate_left
  · have e14 := hh.get 3 0 (by kernel_rfl) rfl rfl rfl
    obtain ⟨q0, q1, q2, q3, q4, q5, q6, q7, q8, q9, q10, q11⟩ := HCE.out ww hh.inv
    refine out_val (wanted_none rfl) ?_
    clear hh
    generalize aa.eval = ev at e14 ⊢
    go_simp
    try rfl
  refine ⟨.eq ?_, trivial, rfl, fun aa ww ll hh => ?_, ?_⟩
  rotate_left
  · have e15 := hh.get 4 0 (by kernel_rfl) rfl rfl rfl
    obtain ⟨q0, q1, q2, q3, q4, q5, q6, q7, q8, q9, q10, q11⟩ := HCE.out ww hh.inv
    refine out_val (wanted_none rfl) ?_
    clear hh
    generalize aa.eval = ev at e15 ⊢
    go_simp
    try rfl
  refine ⟨.eq ?_, trivial, rfl, fun aa ww ll hh => ?_, ?_⟩
  rotate_left
  · have e13 := hh.get 2 3 (by kernel_rfl) rfl rfl rfl
    have e16 := hh.get 5 0 (by kernel_rfl) rfl rfl rfl
    refine out_val (wanted_none rfl) ?_
    clear hh
    generalize aa.eval = ev at e13 e16 ⊢
    go_simp
    try rfl
  refine ⟨.eq ?_, trivial, rfl, fun aa ww ll hh => ?_, ?_⟩
  rotate_left
  · have e1 := (hh.old 1 (by kernel_rfl)).trans (evalO rfl)
    simp only [nthO] at e1
    refine out_val (wanted_none rfl) ?_
    clear hh
    generalize aa.eval = ev at e1 ⊢
    go_simp
    try rfl
  refine ⟨.eq ?_, trivial, rfl, fun aa ww ll hh => ?_, ?_⟩
  rotate_left
  · have e18 := hh.get 7 0 (by kernel_rfl) rfl rfl rfl
    obtain ⟨q0, q1, q2, q3, q4, q5, q6, q7, q8, q9, q10, q11⟩ := HCE.out ww hh.inv
    refine out_val (wanted_none rfl) ?_
    clear hh
    generalize aa.eval = ev at e18 ⊢
    go_simp
    try rfl
  refine ⟨.eq ?_, trivial, rfl, fun aa ww ll hh => ?_, ?_⟩
  rotate_left
  · have e19 := hh.get 8 0 (by kernel_rfl) rfl rfl rfl
    obtain ⟨q0, q1, q2, q3, q4, q5, q6, q7, q8, q9, q10, q11⟩ := HCE.out ww hh.inv
    refine out_val (wanted_none rfl) ?_
    clear hh
    generalize aa.eval = ev at e19 ⊢
    go_simp
    try rfl
  refine ⟨.eq ?_, trivial, rfl, fun aa ww ll hh => ?_, ?_⟩
  rotate_left
  · have e17 := hh.get 6 3 (by kernel_rfl) rfl rfl rfl
    have e20 := hh.get 9 0 (by kernel_rfl) rfl rfl rfl
    refine out_val (wanted_none rfl) ?_
    clear hh
    generalize aa.eval = ev at e17 e20 ⊢
    go_simp
    try rfl
  refine ⟨.eq ?_, trivial, rfl, fun aa ww ll hh => ?_, ?_⟩
  rotate_left
  · have e1 := (hh.old 1 (by kernel_rfl)).trans (evalO rfl)
    simp only [nthO] at e1
    refine out_val (wanted_none rfl) ?_
    clear hh
    generalize aa.eval = ev at e1 ⊢
    go_simp
    try rfl
  refine ⟨.eq ?_, trivial, rfl, fun aa ww ll hh => ?_, ?_⟩
  rotate_left
  · have e22 := hh.get 11 0 (by kernel_rfl) rfl rfl rfl
    obtain ⟨q0, q1, q2, q3, q4, q5, q6, q7, q8, q9, q10, q11⟩ := HCE.out ww hh.inv
    refine out_val (wanted_none rfl) ?_
    clear hh
    generalize aa.eval = ev at e22 ⊢
    go_simp
    try rfl
  refine ⟨.rel (fun _ v => ∃ z : Int, v = .int .i64 z), (fun _ _ _ h _ => h), rfl, fun aa ww ll hh => ?_, ?_⟩
  · have e23 := hh.get 12 0 (by kernel_rfl) rfl rfl rfl
    have ef : ∀ f, aa.eval (.func f) = .func (.func f) #[] #[] := fun _ => rfl
    obtain ⟨q0, q1, q2, q3, q4, q5, q6, q7, q8, q9, q10, q11⟩ := HCE.out ww hh.inv
    refine out_call (wanted_none rfl) ?_ ((HC1.out ww hh.inv).mono fun e w9 ⟨⟨z, h1⟩, h2⟩ => ⟨_, h1, ⟨z, rfl⟩, h2⟩)
    clear hh
    generalize aa.eval = ev at e23 ef ⊢
    go_simp
    try rfl
  refine ⟨.rel (fun _ v => ∃ z : Int, v = .int .i64 z), (fun _ _ _ h _ => h), rfl, fun aa ww ll hh => ?_, ?_⟩
  · have e21 := hh.get 10 3 (by kernel_rfl) rfl rfl rfl
    obtain ⟨x24, e24, -, p24⟩ := hh.got 13 0 (by kernel_rfl) rfl rfl rfl
    obtain ⟨z, rfl⟩ := p24
    exact out_addR (wanted_none rfl) rfl e21 e24
  refine ⟨.rel (fun _ v => ∃ z : Int, v = .int .i64 z), (fun _ _ _ h _ => h), rfl, fun aa ww ll hh => ?_, ?_⟩
  · obtain ⟨x25, e25, -, p25⟩ := hh.got 14 0 (by kernel_rfl) rfl rfl rfl
    refine out_new (v := x25) (wanted_none rfl) ?_ (Below.refl _ _) p25
    rw [ex_moveO (by first | exact .inl rfl | exact .inr rfl) e25]
  intro ll w2 hS hok
  have p15 := hok 15 _ rfl
  clear hok
  simp only [List.reverse_cons, List.reverse_nil, List.nil_append, List.cons_append, layO, Out.val, Act.put, List.setIfInBounds_toArray, List.set_cons_zero, List.set_cons_succ]
  clear HC1 HCW HCE
  have HB1 := Lib.hid hS
  clear hS
  obtain ⟨vz, hvz⟩ : ∃ vz, vz = ll 15 := ⟨_, rfl⟩
  rw [← hvz] at p15 ⊢
  clear hvz
  obtain ⟨T0, rfl⟩ := p15
  go_wp2_with fail
  -- heads
  go_loopw [3, 4] (fun z u wr => ∃ (k : Nat) (q : Int), k ≤ s.hn ∧ u = .int .i64 k ∧ z = .int .i64 q ∧ Hid (Below W0.heap.size W0 wr)) (fun _ u _ => s.hn - (intOf u).toNat)
  case atStart => exact ⟨0, _, Nat.zero_le _, rfl, rfl, HB1.out⟩
  case round =>
    obtain ⟨k, T1, hk, rfl, rfl, HW⟩ := hrel
    obtain ⟨q0, q1, q2, q3, q4, q5, q6, q7, q8, q9, q10, q11⟩ := (HPB.out.below HW.out).cells
    by_cases hlt : k < s.hn
    · have hki : (k : Int) < (s.hn : Int) := by omega
      have hb6 : s.hn ≤ 9223372036854775807 := HBG.out.1
      obtain ⟨x, hx⟩ : ∃ x, p.heads[k]? = some x := ⟨_, List.getElem?_eq_getElem (by have := HN.out.1; omega)⟩
      obtain ⟨b, o, ep, en, ec, hps, hb, y0, hy⟩ := IsRow.elG (HP.out.heads.below keepIs (HB0.out.trans (HW.out.mono HB0.out.size))) hx
      rw [hps] at q0
      clear hx hy hps
      go_wp2_with fail
      go_roundw
      case rel => exact ⟨k + 1, _, by omega, by go_num, rfl, HW.out⟩
      case measure => simp [intOf]; omega
    · obtain rfl : k = s.hn := by omega
      have hki : ¬ (s.hn : Int) < (s.hn : Int) := by omega
      have HWA := HW
      clear hk
      go_wp2_with fail
      clear hlt hki q0 q1 q2 q3 q4 q5 q6 q7 q8 q9 q10 q11
      go_loopw [3, 5, 6, 7] (fun z u u6 u7 wr => ∃ (k : Nat) (q : Int), k ≤ s.sn ∧ u = .int .i64 k ∧ z = .int .i64 q ∧ Hid (Below W0.heap.size W0 wr)) (fun _ u _ _ _ => s.sn - (intOf u).toNat)
      case atStart => exact ⟨0, _, Nat.zero_le _, rfl, rfl, HWA.out⟩
      case round =>
        clear HWA HW
        obtain ⟨k, T2, hk, rfl, rfl, HW⟩ := hrel
        by_cases hlt : k < s.sn
        · have hki : (k : Int) < (s.sn : Int) := by omega
          have hb6 : s.sn ≤ 9223372036854775807 := HBG.out.2.1
          obtain ⟨x, hx⟩ : ∃ x, p.steps[k]? = some x := ⟨_, List.getElem?_eq_getElem (by have := HN.out.2.1; omega)⟩
          obtain ⟨sb, so, hps, hsb, ⟨tp, tn, tc, y0, hy0⟩, ⟨kp, kn, kc, y1, hy1⟩, ⟨bp, bn, bc, y2, hy2⟩, y3⟩ := HP.out.steps.get hx
          have HLK : Hid (kn = x.keys.length ∧ bn = x.brs.length ∧ kn ≤ 9223372036854775807 ∧ bn ≤ 9223372036854775807) := ⟨hy1.ln.1, hy2.ln.1, hy1.big, hy2.big⟩
          have HKR := Lib.hid hy1
          have HBR := Lib.hid hy2
          have HCE : Hid (∀ W, Below W0.heap.size W0 W → W.cell? ⟨w.heap.size, 2, none⟩ = some (.slice (some ⟨sb, so, none⟩) s.sn s.sc) ∧ W.cell? ⟨sb, so + k * 4, none⟩ = some (.slice tp tn tc) ∧ W.cell? ⟨sb, so + k * 4 + 1, none⟩ = some (.slice kp kn kc) ∧ W.cell? ⟨sb, so + k * 4 + 2, none⟩ = some (.slice bp bn bc)) := fun W h => by
            obtain ⟨-, -, q2, -⟩ := (HPB.out.below h).cells
            rw [hps] at q2
            have hb := HB0.out.trans (h.mono HB0.out.size)
            exact ⟨q2, (hb.cell (p := ⟨sb, so + k * 4, none⟩) hsb).trans y0, (hb.cell (p := ⟨sb, so + k * 4 + 1, none⟩) hsb).trans y1, (hb.cell (p := ⟨sb, so + k * 4 + 2, none⟩) hsb).trans y2⟩
          clear hx hps hsb y0 y1 y2 y3 hy0 hy1 hy2
          obtain ⟨q2, q3, q4, q5⟩ := HCE.out wr HW.out
          go_upto_region 9 with fail
          go_quiet (fail)
          have hS : Below wr.heap.size wr (wr.drewN nq) := below_drewN (Below.refl _ _) _
          generalize wr.drewN nq = w2 at *
          clear q2 q3 q4 q5
          have HW2 : Hid (Below W0.heap.size W0 w2) := HW.out.trans (hS.mono HW.out.size)
          clear hS
          obtain ⟨q2, q3, q4, q5⟩ := HCE.out w2 HW2.out
          go_wp2_with fail
          go_loopw [3, 6] (fun zz u wq => ∃ (j : Nat) (q : Int), j ≤ kn ∧ u = .int .i64 j ∧ zz = .int .i64 q ∧ Hid (Below W0.heap.size W0 wq)) (fun _ u _ => kn - (intOf u).toNat)
          case atStart => exact ⟨0, _, Nat.zero_le _, rfl, rfl, HW2.out⟩
          case round =>
            clear q2 q3 q4 q5 HW2
            obtain ⟨j, T3, hj, rfl, rfl, HWQ⟩ := hrel
            obtain ⟨q2, q3, q4, q5⟩ := HCE.out _ HWQ.out
            by_cases hjl : j < kn
            · have hjli : (j : Int) < (kn : Int) := by omega
              have hk6 : kn ≤ 9223372036854775807 := by have := HLK.out; omega
              obtain ⟨c, hc⟩ : ∃ c, x.keys[j]? = some c := ⟨_, List.getElem?_eq_getElem (by have := HLK.out.1; omega)⟩
              obtain ⟨kb, ko, cp, cn, cc, hkp, hkb, y6, hy6⟩ := CsRow.elG (HKR.out.below keepCs (HB0.out.trans (HWQ.out.mono HB0.out.size))) hc
              rw [hkp] at q4
              clear hc hy6 hkp
              go_wp2_with fail
              go_roundw
              case rel => exact ⟨j + 1, _, by omega, by go_num, rfl, HWQ.out⟩
              case measure => simp [intOf]; omega
            · obtain rfl : j = kn := by omega
              have hjli : ¬ (j : Int) < (j : Int) := by omega
              go_wp2_with fail
              go_loopw [3, 7] (fun zz u wq => ∃ (i : Nat) (q : Int), i ≤ bn ∧ u = .int .i64 i ∧ zz = .int .i64 q ∧ Hid (Below W0.heap.size W0 wq)) (fun _ u _ => bn - (intOf u).toNat)
              case atStart => exact ⟨0, _, Nat.zero_le _, rfl, rfl, HWQ.out⟩
              case round =>
                clear q2 q3 q4 q5 HWQ hjli
                obtain ⟨i, T4, hi, rfl, rfl, HWQ⟩ := hrel
                obtain ⟨q2, q3, q4, q5⟩ := HCE.out _ HWQ.out
                by_cases hil : i < bn
                · have hili : (i : Int) < (bn : Int) := by omega
                  have hk6 : bn ≤ 9223372036854775807 := by have := HLK.out; omega
                  obtain ⟨c, hc⟩ : ∃ c, x.brs[i]? = some c := ⟨_, List.getElem?_eq_getElem (by have := HLK.out.2.1; omega)⟩
                  obtain ⟨bb, bo, hbp, hbb, ⟨cp, cn, cc, y6, hy6⟩, -⟩ := (HBR.out.below keepBrn (HB0.out.trans (HWQ.out.mono HB0.out.size))).get hc
                  rw [hbp] at q5
                  clear hc hy6 hbp
                  go_wp2_with fail
                  go_roundw
                  case rel => exact ⟨i + 1, _, by omega, by go_num, rfl, HWQ.out⟩
                  case measure => simp [intOf]; omega
                · obtain rfl : i = bn := by omega
                  have hili : ¬ (i : Int) < (i : Int) := by omega
                  go_wp2_with fail
                  go_roundw
                  case rel => exact ⟨k + 1, _, by omega, by go_num, rfl, HWQ.out⟩
                  case measure => simp [intOf]; omega
        · obtain rfl : k = s.sn := by omega
          have hki : ¬ (s.sn : Int) < (s.sn : Int) := by omega
          obtain ⟨q0, q1, q2, q3, q4, q5, q6, q7, q8, q9, q10, q11⟩ := (HPB.out.below HW.out).cells
          have HWA := HW
          clear hk
          go_wp2_with fail
          clear hlt hki q0 q1 q2 q3 q4 q5 q6 q7 q8 q9 q10 q11
          go_loopw [3, 8] (fun z u wr => ∃ (k : Nat) (q : Int), k ≤ s.an ∧ u = .int .i64 k ∧ z = .int .i64 q ∧ Hid (Below W0.heap.size W0 wr)) (fun _ u _ => s.an - (intOf u).toNat)
          case atStart => exact ⟨0, _, Nat.zero_le _, rfl, rfl, HWA.out⟩
          case round =>
            clear HWA HW
            obtain ⟨k, T5, hk, rfl, rfl, HW⟩ := hrel
            by_cases hlt : k < s.an
            · have hki : (k : Int) < (s.an : Int) := by omega
              have hb6 : s.an ≤ 9223372036854775807 := HBG.out.2.2.1
              obtain ⟨x, hx⟩ : ∃ x, p.acts[k]? = some x := ⟨_, List.getElem?_eq_getElem (by have := HN.out.2.2.1; omega)⟩
              obtain ⟨sb, so, hps, hsb, ⟨tp, tn, tc, y0, hy0⟩, ⟨bp, bn, bc, y1, hy1⟩⟩ := HP.out.acts.get hx
              obtain ⟨zk, hzk⟩ : ∃ n, n = wzP x.body x.body.length := ⟨_, rfl⟩
              have HCW2 : Hid (∀ W, Below wr.heap.size wr W → Calls Try.prog 8 #[.slice bp bn bc] W fun e w' => e = .returned (.int .i64 zk) ∧ w' = W) := fun W h => by
                rw [hzk]
                have hb := HB0.out.trans (HW.out.mono HB0.out.size)
                exact weigh10b_any _ _ _ _ _ ((hy1.below keepIst hb).below keepIst h)
              have HCE : Hid (∀ W, Below W0.heap.size W0 W → W.cell? ⟨w.heap.size, 3, none⟩ = some (.slice (some ⟨sb, so, none⟩) s.an s.ac) ∧ W.cell? ⟨sb, so + k * 2, none⟩ = some (.slice tp tn tc) ∧ W.cell? ⟨sb, so + k * 2 + 1, none⟩ = some (.slice bp bn bc)) := fun W h => by
                obtain ⟨-, -, -, q2, -⟩ := (HPB.out.below h).cells
                rw [hps] at q2
                have hb := HB0.out.trans (h.mono HB0.out.size)
                exact ⟨q2, (hb.cell (p := ⟨sb, so + k * 2, none⟩) hsb).trans y0, (hb.cell (p := ⟨sb, so + k * 2 + 1, none⟩) hsb).trans y1⟩
              clear hx hps hsb y0 y1 hy0 hy1
              obtain ⟨q2, q3, q4⟩ := HCE.out wr HW.out
              clear hzk
              go_upto_region 21 with fail
              go_quiet (first | (go_at_call 8; exact Calls.quiet_of_same ((HCW2.out _ (below_drewN (Below.refl _ _) _)).mono fun _ _ h => ⟨h.1, h.2⟩)))
              have hS : Below wr.heap.size wr (wr.drewN nq) := below_drewN (Below.refl _ _) _
              generalize wr.drewN nq = w2 at *
              clear q2 q3 q4 HCE
              have HW2 : Hid (Below W0.heap.size W0 w2) := HW.out.trans (hS.mono HW.out.size)
              clear hS
              go_wp2_with fail
              go_roundw
              case rel => exact ⟨k + 1, _, by omega, by go_num, rfl, HW2.out⟩
              case measure => simp [intOf]; omega
            · obtain rfl : k = s.an := by omega
              have hki : ¬ (s.an : Int) < (s.an : Int) := by omega
              obtain ⟨q0, q1, q2, q3, q4, q5, q6, q7, q8, q9, q10, q11⟩ := (HPB.out.below HW.out).cells
              have HWA := HW
              clear hk
              go_wp2_with fail
              clear hlt hki q0 q1 q2 q3 q4 q5 q6 q7 q8 q9 q10 q11
              go_loopw [3, 9, 10] (fun z u u10 wr => ∃ (k : Nat) (q : Int), k ≤ s.tn ∧ u = .int .i64 k ∧ z = .int .i64 q ∧ Hid (Below W0.heap.size W0 wr)) (fun _ u _ _ => s.tn - (intOf u).toNat)
              case atStart => exact ⟨0, _, Nat.zero_le _, rfl, rfl, HWA.out⟩
              case round =>
                clear HWA HW
                obtain ⟨k, T6, hk, rfl, rfl, HW⟩ := hrel
                by_cases hlt : k < s.tn
                · have hki : (k : Int) < (s.tn : Int) := by omega
                  have hb6 : s.tn ≤ 9223372036854775807 := HBG.out.2.2.2
                  obtain ⟨x, hx⟩ : ∃ x, p.tabs[k]? = some x := ⟨_, List.getElem?_eq_getElem (by have := HN.out.2.2.2; omega)⟩
                  obtain ⟨sb, so, hps, hsb, ⟨kp, kn, kc, y1, hy1⟩, -, ⟨tp, tn, tc, y0, hy0⟩, -, ⟨bp, bn, bc, y2, hy2⟩⟩ := HP.out.tabs.get hx
                  have HLK : Hid (kn = x.keys.length ∧ kn ≤ 9223372036854775807) := ⟨hy1.ln.1, hy1.big⟩
                  have HKR := Lib.hid hy1
                  have HCE : Hid (∀ W, Below W0.heap.size W0 W → W.cell? ⟨w.heap.size, 4, none⟩ = some (.slice (some ⟨sb, so, none⟩) s.tn s.tc) ∧ W.cell? ⟨sb, so + k * 5 + 2, none⟩ = some (.slice tp tn tc) ∧ W.cell? ⟨sb, so + k * 5, none⟩ = some (.slice kp kn kc) ∧ W.cell? ⟨sb, so + k * 5 + 4, none⟩ = some (.slice bp bn bc)) := fun W h => by
                    obtain ⟨-, -, -, -, q2, -⟩ := (HPB.out.below h).cells
                    rw [hps] at q2
                    have hb := HB0.out.trans (h.mono HB0.out.size)
                    exact ⟨q2, (hb.cell (p := ⟨sb, so + k * 5 + 2, none⟩) hsb).trans y0, (hb.cell (p := ⟨sb, so + k * 5, none⟩) hsb).trans y1, (hb.cell (p := ⟨sb, so + k * 5 + 4, none⟩) hsb).trans y2⟩
                  clear hx hps hsb y0 y1 y2 hy0 hy1 hy2
                  obtain ⟨q2, q3, q4, q5⟩ := HCE.out wr HW.out
                  go_upto_region 25 with fail
                  go_quiet (fail)
                  have hS : Below wr.heap.size wr (wr.drewN nq) := below_drewN (Below.refl _ _) _
                  generalize wr.drewN nq = w2 at *
                  clear q2 q3 q4 q5
                  have HW2 : Hid (Below W0.heap.size W0 w2) := HW.out.trans (hS.mono HW.out.size)
                  clear hS
                  obtain ⟨q2, q3, q4, q5⟩ := HCE.out w2 HW2.out
                  go_wp2_with fail
                  go_loopw [3, 10] (fun zz u wq => ∃ (j : Nat) (q : Int), j ≤ kn ∧ u = .int .i64 j ∧ zz = .int .i64 q ∧ Hid (Below W0.heap.size W0 wq)) (fun _ u _ => kn - (intOf u).toNat)
                  case atStart => exact ⟨0, _, Nat.zero_le _, rfl, rfl, HW2.out⟩
                  case round =>
                    clear q2 q3 q4 q5 HW2
                    obtain ⟨j, T7, hj, rfl, rfl, HWQ⟩ := hrel
                    obtain ⟨q2, q3, q4, q5⟩ := HCE.out _ HWQ.out
                    by_cases hjl : j < kn
                    · have hjli : (j : Int) < (kn : Int) := by omega
                      have hk6 : kn ≤ 9223372036854775807 := by have := HLK.out; omega
                      obtain ⟨c, hc⟩ : ∃ c, x.keys[j]? = some c := ⟨_, List.getElem?_eq_getElem (by have := HLK.out.1; omega)⟩
                      obtain ⟨kb, ko, cp, cn, cc, hkp, hkb, y6, hy6⟩ := CsRow.elG (HKR.out.below keepCs (HB0.out.trans (HWQ.out.mono HB0.out.size))) hc
                      rw [hkp] at q4
                      clear hc hy6 hkp
                      go_wp2_with fail
                      go_roundw
                      case rel => exact ⟨j + 1, _, by omega, by go_num, rfl, HWQ.out⟩
                      case measure => simp [intOf]; omega
                    · obtain rfl : j = kn := by omega
                      have hjli : ¬ (j : Int) < (j : Int) := by omega
                      go_wp2_with fail
                      go_roundw
                      case rel => exact ⟨k + 1, _, by omega, by go_num, rfl, HWQ.out⟩
                      case measure => simp [intOf]; omega
                · obtain rfl : k = s.tn := by omega
                  have hki : ¬ (s.tn : Int) < (s.tn : Int) := by omega
                  obtain ⟨q0, q1, q2, q3, q4, q5, q6, q7, q8, q9, q10, q11⟩ := (HPB.out.below HW.out).cells
                  have hbw := HB0.out.trans (HW.out.mono HB0.out.size)
                  go_wp2_with fail
                  go_ret
                  refine ⟨?_, hbw⟩
                  show Ending.returned (.bool (decide ((6000 : Int) < T6))) = .returned (.bool false) ∨ Ending.returned (.bool (decide ((6000 : Int) < T6))) = .returned (.bool true)
                  generalize decide ((6000 : Int) < T6) = bb
                  cases bb
                  · exact .inl rfl
                  · exact .inr rfl
end Go.Proofs.Ytehcclcokgmplaa

/-
  Layer 35's law FoldLess: folded code is never longer; folded again it is the same. For every program, action, and code.
-/
namespace Go.Proofs.Ytehcclcokgmplaa
open Go.RowKit Go.Maps

theorem foldLaw_any (s : PgS) (p : Prg) (act : Int) (c : List Nod) (cp : Option Addr) (cn cc : Nat) (w : World) (hp : PgOk w s p) (hc : CRow w (.slice cp cn cc) c) :
    Calls Try.prog 3 #[pgV s, .int .i64 act, .slice cp cn cc] w fun e w' => e = .returned (.bool true) ∧ Below w.heap.size w w' :=
  foldLaw_of s p act c cp cn cc w hp hc fun W h => great10b_any s p W (hp.below h)

end Go.Proofs.Ytehcclcokgmplaa

/-
  Opening a parameter: slices of any elements, structs by value, numbers.
-/
namespace Go.Proofs.Ytehcclcokgmplaa
open Go.ChangeShapes Go.WideShapes Go.ChangeAt Go.RowKit Go.Deep

section
variable {H : Type} {enc : TypeId × Value → H} {w : World}

theorem u64_of_wf {n : Int} (h : (Lit.int IntKind.u64 n).wf = true) : ∃ k : Nat, n = (k : Int) ∧ k < 18446744073709551616 := by
  have h0 : IntKind.u64.min = 0 := by decide
  have h1 : IntKind.u64.max = 18446744073709551615 := by decide
  simp only [Lit.wf, Bool.and_eq_true, decide_eq_true_eq, h0, h1] at h
  obtain ⟨n, rfl⟩ := Int.eq_ofNat_of_zero_le h.1
  exact ⟨n, rfl, by omega⟩

/-- A struct's fields, one after the other. -/
theorem trod_field {t : TypeId} {fs : Array Field} {fuel : Nat} {cs : List Value} {x : DataW H × List MemPlace} (ht : Try.prog.underlying t = some (.struct fs)) (h : DataW.trod enc Try.prog w 0 (fun _ => true) true fuel t cs = some x)
    (i : Nat) (f : Field) (hf : fs[i]? = some f) (ty o c : Nat) (h1 : f.type = ty) (h2 : f.offset = o) (h3 : Try.prog.cellsOf ty = c) : ∃ n y, DataW.trod enc Try.prog w 0 (fun _ => true) true n ty ((cs.drop o).take c) = some y := by
  subst h1 h2 h3
  obtain ⟨xs, n, rfl, -, -, hl, hg⟩ := DataW.trod_struct ht h
  have hi : i < fs.size := (Array.getElem?_eq_some_iff.1 hf).1
  exact ⟨n, _, (hg i f hf).trans (List.getElem?_eq_getElem (by omega))⟩

theorem hadd0 (ab ao i : Nat) : (Addr.mk ab ao none).add i = ⟨ab, ao + i, none⟩ := by
  unfold Addr.add
  by_cases hi : i = 0 <;> simp [hi]

set_option maxRecDepth 100000 in
theorem open_rowAt {α : Type} {At : World → Nat → Nat → α → Prop} {t e : TypeId} {c : Nat} {fuel : Nat} {va : Value} {x : DataW H × List MemPlace} (d : α) (ht : Try.prog.underlying t = some (.slice e)) (hc : Try.prog.cellsOf e = c) (hc0 : 0 < c)
    (hel : ∀ (m b o : Nat) (cs : List Value) (y : DataW H × List MemPlace), cs.length = c → CellsAt w b o cs → DataW.trod enc Try.prog w 0 (fun _ => true) true m e cs = some y → ∃ x, At w b o x)
    (h : DataW.trod enc Try.prog w 0 (fun _ => true) true fuel t [va] = some x) : ∃ l, RowAt c At w va l := by
  subst hc
  rcases open_slice ht h with ⟨he, -⟩ | ⟨a, len, cap, m, n, D, Pl, he, -, hl, hm, hmm, hxx, hx⟩
  · simp only [List.cons.injEq, and_true] at he
    exact ⟨[], by rw [he]; exact RowAt.nil⟩
  simp only [List.cons.injEq, and_true] at he
  simp only [if_true] at hmm
  subst hmm he
  have key : ∀ j, j < len → ∃ cs y, cs.length = Try.prog.cellsOf e ∧ (∀ i, i < Try.prog.cellsOf e → w.cell? (a.add (j * Try.prog.cellsOf e + i)) = cs[i]?) ∧ DataW.trod enc Try.prog w 0 (fun _ => true) true n e cs = some y := by
    intro j hj
    obtain ⟨cs, hcs, htr⟩ := hx j (by omega)
    obtain ⟨-, hlen, hat⟩ := World.cells?_some hcs
    refine ⟨cs, _, hlen, fun i hi => ?_, htr⟩
    rw [← Go.Deep.add_add]; exact hat i hi
  by_cases h0 : 0 < len
  · obtain ⟨cs0, -, hl0, hc0', -⟩ := key 0 h0
    have c0 := hc0' 0 hc0
    rw [List.getElem?_eq_getElem (by omega), Nat.zero_mul, Nat.add_zero] at c0
    obtain ⟨ab, ao, asp⟩ := a
    have hsp : asp = none := (cell_there c0).2
    have hblk := (cell_there c0).1
    subst hsp
    rw [hadd0] at hblk
    have key2 : ∀ j, ∃ y : α, j < len → At w ab (ao + j * Try.prog.cellsOf e) y := by
      intro j
      by_cases hj : j < len
      · obtain ⟨cs, y, h1, h2, h3⟩ := key j hj
        obtain ⟨x, hx⟩ := hel n ab (ao + j * Try.prog.cellsOf e) cs y h1 (fun i v hi => by
          have hlt := (List.getElem?_eq_some_iff.1 hi).1
          have := h2 i (by omega)
          rw [hadd0] at this
          rw [Nat.add_assoc, this]; exact hi) h3
        exact ⟨x, fun _ => hx⟩
      · exact ⟨d, fun h => absurd h hj⟩
    obtain ⟨f, hf⟩ := Classical.axiomOfChoice key2
    refine ⟨(List.range len).map f, some ⟨ab, ao, none⟩, _, by simp, by simpa using hl, hm, (fun q => by cases q), fun _ => ⟨ab, ao, rfl, hblk, fun j x hj => ?_⟩⟩
    have hjl : j < len := by have := (List.getElem?_eq_some_iff.1 hj).1; simpa using this
    have : f j = x := by simpa [hjl] using hj
    rw [← this]; exact hf j hjl
  · obtain rfl : len = 0 := by omega
    exact ⟨[], some a, _, rfl, Nat.zero_le _, hm, (fun q => by cases q), fun h => absurd h (Nat.lt_irrefl 0)⟩

set_option maxRecDepth 100000 in
theorem slice_cells {t e : TypeId} {va : Value} {base : Nat} (ht : Try.prog.underlying t = some (.slice e)) (hv : Value.okWide Try.prog w .any base t va) : va.cells.toList = [va] := by
  simp only [Value.okWide, Cell.okWide, ht] at hv
  cases va <;> first | rfl | (simp [Cell.ok, ht] at hv)
set_option maxRecDepth 100000 in
theorem agg_cells {t : TypeId} {fs : Array Field} {va : Value} {base : Nat} (ht : Try.prog.underlying t = some (.struct fs)) (hv : Value.okWide Try.prog w .any base t va) : ∃ cs, va = .agg cs ∧ cs.size = Try.prog.cellsOf t := by
  simp only [Value.okWide, ht] at hv
  obtain ⟨cs, rfl, h1, -⟩ := hv
  exact ⟨cs, rfl, h1⟩
end
end Go.Proofs.Ytehcclcokgmplaa
