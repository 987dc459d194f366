/-
  Lemmas, joined: SumK, SumK2, CmpK, Known18.
-/
import Derived.Test.YtlnkflmnjkmhkaaJR08
import Derived.Test.YtlnkflmnjkmhkaaJR35
import Derived.Test.YtlnkflmnjkmhkaaJR19
/-
  Contracts of symop.sum and its closure at a live store, and constants.
-/
namespace Go.Proofs.Ytlnkflmnjkmhkaa
open Go.RowKit Go.Maps

/-- Live, the store's block beside O. -/
def LiveX (w : World) (O : Nat → Prop) (sp : Value) : Prop := Live w sp ∧ ∀ b, sp = .pointer (some ⟨b, 0, none⟩) → ¬ O b
theorem LiveX.ext {w w' : World} {O O' : Nat → Prop} {sp : Value} (h : LiveX w O sp) (he : Ext O O' w w') : LiveX w' O' sp := by
  obtain ⟨⟨b, cap, n, cn, pn, rfl, h1, h2, h3, h4⟩, hO⟩ := h
  have hl := (cell_there h1).1
  have hb := hO b rfl
  refine ⟨⟨b, cap, n, cn, pn, rfl, (he.cell (p := ⟨b, 0, none⟩) hl hb).1.trans h1, (he.cell (p := ⟨b, 1, none⟩) hl hb).1.trans h2, (he.cell (p := ⟨b, 4, none⟩) hl hb).1.trans h3, h4⟩, fun b' e => ?_⟩
  simp at e
  subst e
  exact (he.cell (p := ⟨b, 0, none⟩) hl hb).2.2

/-- The closure's two variables: the store's pointer; the bits up to now. -/
def SumK (w : World) (O : Nat → Prop) (bS bV : Nat) (po : Option Addr) (bs : List Int) : Prop :=
  w.cell? ⟨bS, 0, none⟩ = some (.pointer po) ∧ ¬ O bS ∧ LiveX w O (.pointer po) ∧ w.frozen? ⟨bV, 0, none⟩ = false ∧
  ∃ vv, w.cell? ⟨bV, 0, none⟩ = some vv ∧ w.ownsRow 0 3 1 vv bs.length (bs.map (.int .i64)) ∧ vv.ownBlock ≠ some bV ∧ ∀ j, O j ↔ j = bV ∨ vv.ownBlock = some j

theorem SumK.below {w w' : World} {O : Nat → Prop} {bS bV : Nat} {bs : List Int} {po : Option Addr} (h : SumK w O bS bV po bs) (hb : Below w.heap.size w w') : SumK w' O bS bV po bs := by
  obtain ⟨h1, h2, h3, h4, vv, h5, h6, h7, h8⟩ := h
  exact ⟨(hb.cell (cell_there h1).1).trans h1, h2, h3.ext (Ext.of_below hb), (hb.frozen (p := ⟨bV, 0, none⟩) (cell_there h5).1).trans h4, vv, (hb.cell (cell_there h5).1).trans h5, own_below h6 hb, h7, h8⟩

theorem sumk_push {w A w3 : World} {O : Nat → Prop} {bS bV : Nat} {bs : List Int} (r : Int) {po : Option Addr} {vv v' : Value} (h : SumK w O bS bV po bs) (hv : w.cell? ⟨bV, 0, none⟩ = some vv) (hA : Below w.heap.size w A)
    (hg : A.grownBy w3 vv.ownBlock) (hwh : v'.ownBlock = vv.ownBlock ∨ ∀ j, v'.ownBlock = some j → A.heap.size ≤ j) (hown : w3.ownsRow 0 3 1 v' (bs.length + 1) (bs.map (.int .i64) ++ [.int .i64 r]))
    (hc : ∃ x, w3.cell? ⟨bV, 0, none⟩ = some x) (hf : w3.frozen? ⟨bV, 0, none⟩ = false) :
    ∃ O', SumK (w3.setCell ⟨bV, 0, none⟩ v') O' bS bV po (bs ++ [r]) ∧ Ext O O' w (w3.setCell ⟨bV, 0, none⟩ v') := by
  obtain ⟨h1, h2, h3, h4, vv', h5, h6, h7, h8⟩ := h
  rw [hv] at h5
  cases h5
  have hAs := hA.size
  have hs3 := hg.size
  have hlV : bV < w.heap.size := (cell_there hv).1
  have hvb : v'.ownBlock ≠ some bV := fun e => by
    rcases hwh with q | q
    · exact h7 (q ▸ e)
    · have := q bV e; omega
  have hE : Ext O (fun j => j = bV ∨ v'.ownBlock = some j) w (w3.setCell ⟨bV, 0, none⟩ v') := by
    refine ⟨⟨hg.os.trans hA.os, hg.tape.trans hA.tape, hg.output.trans hA.output, by simp [World.setCell]; omega, fun j hj hO => ?_⟩, fun j hj => ?_⟩
    · have q1 : j ≠ bV := fun e => hO ((h8 j).2 (.inl e))
      have q2 : vv.ownBlock ≠ some j := fun e => hO ((h8 j).2 (.inr e))
      rw [Below.heap_setCell w3 ⟨bV, 0, none⟩ v' j q1, hg.block j (by omega) (fun e => q2 e.symm)]
      exact hA.block j hj
    · rcases hj with rfl | hj
      · exact .inl ((h8 _).2 (.inl rfl))
      · rcases hwh with q | q
        · exact .inl ((h8 _).2 (.inr (q ▸ hj)))
        · exact .inr (by have := q j hj; omega)
  obtain ⟨x, hc⟩ := hc
  have e := hE.cell (p := ⟨bS, 0, none⟩) (cell_there h1).1 h2
  refine ⟨_, ⟨e.1.trans h1, e.2.2, h3.ext hE, by rw [World.frozen?_setCell]; exact hf, v', World.cell?_setCell_same _ _ _ hc, ?_, hvb, fun j => Iff.rfl⟩, hE⟩
  have h := own_setCell hown hvb v' (b := bV) (j := 0)
  simpa using h

def bitK (c x y : Int) : Int := iteK (iteK x (iteK y 0 1) y) (iteK c 0 1) c
def carryK (c x y : Int) : Int := iteK (iteK x y 0) 1 (iteK c (iteK x (iteK y 0 1) y) 0)

set_option maxRecDepth 100000 in
set_option maxHeartbeats 1600000 in
theorem sum1_k (O : Nat → Prop) (bS bV : Nat) (bs : List Int) (po : Option Addr) (c x y : Int) (w : World) (hk : bs.length ≤ 1000000) (hc01 : Bit01 c) (hx01 : Bit01 x) (hy01 : Bit01 y) (h : SumK w O bS bV po bs) :
    Calls Try.prog 145 #[.int .i64 c, .agg #[.int .i64 x, .int .i64 y], .pointer (some ⟨bS, 0, none⟩), .pointer (some ⟨bV, 0, none⟩)] w (RetJ fun r w' => r = carryK c x y ∧ ∃ O', SumK w' O' bS bV po (bs ++ [bitK c x y]) ∧ Ext O O' w w') := by
  obtain ⟨i0, hi, hz0, hz1, hz2⟩ := info_parts Try.infoInt
  have HS := Lib.hid h
  obtain ⟨h1, h2, h3, h4, vv, h5, h6, h7, h8⟩ := h
  obtain ⟨K, eK⟩ : ∃ K, bs.length = K := ⟨_, rfl⟩
  rw [eK] at h6 hk
  obtain ⟨pv, cv, rfl, -⟩ := own_shape h6
  have HD : Hid (∀ W, Below w.heap.size w W → Live W (.pointer po)) := fun W hW => h3.1.below hW
  have hlS := (cell_there h1).1
  have hlV := (cell_there h5).1
  have h5' := h5
  have HROW : Hid (∀ j, (Value.slice pv K cv).ownBlock = some j → j < w.heap.size) := fun j hj => (h6.lt j hj).2
  have H7 := Lib.hid h7
  have H8 := Lib.hid h8
  clear h2 h3 h7 h8
  have H01 : Hid (Bit01 c ∧ Bit01 x ∧ Bit01 y) := ⟨hc01, hx01, hy01⟩
  have HK : Hid (bs.length = K) := eK
  clear hc01 hx01 hy01
  go_enter Try.func145, Try.ntmps145
  go_wp2_with fail
  refine (xor_live _ _ _ (HD.out _ (by repeat (first | exact Below.refl _ _ | assumption | refine Below.drew ?_ | refine Below.alloc ?_ (by first | omega | (simp <;> omega)) _ | refine Below.setCell ?_ (by first | omega | (simp <;> omega)) _ | refine Below.trans ?_ (Below.mono (by assumption) (by first | omega | (simp <;> omega)))))) H01.out.2.1 H01.out.2.2).mono ?_
  rintro e w1 ⟨rfl, hb1⟩
  have HONE : Hid (Bit01 (iteK x (iteK y 0 1) y)) := iteK_ok (iteK_ok bit0 bit1) H01.out.2.2
  obtain ⟨one, hone⟩ : ∃ one, one = iteK x (iteK y 0 1) y := ⟨_, rfl⟩
  rw [← hone] at HONE ⊢
  have HO := Lib.hid hone
  clear hone
  have hB1 : Below w.heap.size w w1 := (by repeat (first | exact Below.refl _ _ | assumption | refine Below.drew ?_ | refine Below.alloc ?_ (by first | omega | (simp <;> omega)) _ | refine Below.setCell ?_ (by first | omega | (simp <;> omega)) _ | refine Below.trans ?_ (Below.mono (by assumption) (by first | omega | (simp <;> omega)))))
  have hs1 := hb1.size
  simp at hs1
  have x0 : w1.cell? ⟨w.heap.size, 0, none⟩ = some (.int .i64 x) := by rw [hb1.cell (p := ⟨w.heap.size, 0, none⟩) (by simp)]; simp [go_sem]
  have x1 : w1.cell? ⟨w.heap.size, 1, none⟩ = some (.int .i64 y) := by rw [hb1.cell (p := ⟨w.heap.size, 1, none⟩) (by simp)]; simp [go_sem]
  have s1 : w1.cell? ⟨bS, 0, none⟩ = some (.pointer po) := (hB1.cell hlS).trans h1
  have v1 : w1.cell? ⟨bV, 0, none⟩ = some (.slice pv K cv) := (hB1.cell hlV).trans h5
  have f1 : w1.frozen? ⟨bV, 0, none⟩ = false := (hB1.frozen (p := ⟨bV, 0, none⟩) hlV).trans h4
  have own1 := own_below h6 hB1
  have HB1 := Lib.hid hB1
  clear hb1 h1 h4 h5 h6
  go_wp2_with fail
  go_region_law (first
    | (refine step_append_two rfl (.tmp 16) (.tmp 21) 34 rfl 3 i0 (.int .i64 0) 1 8 Try.underlying34 hi hz0 hz1 hz2 rfl (by decide) _ K _ rfl ((own_below own1.drew hb2).alloc _) ⟨w2.heap.size, 0, none⟩ 1 1 [.int .i64 (iteK one (iteK c 0 1) c)] rfl rfl (cell_one_new _ _ _) (ints_oneCell .i64 [_]) (by unfold maxLen; omega) (by omega) ?_; intro v' w3 hown3 hgrow3 hwhere; obtain ⟨pv', cv', rfl, hlv⟩ := own_shape hown3; have v3 : w3.cell? ⟨bV, 0, none⟩ = some (.slice pv K cv) := hgrow3.cell (a := ⟨bV, 0, none⟩) ((World.cell?_alloc_lt _ _ _ l2).trans v2) (fun h => H7.out h.symm); have f3 : w3.frozen? ⟨bV, 0, none⟩ = false := (World.frozen?_of_block (a := ⟨bV, 0, none⟩) (hgrow3.block bV (by simp; omega) (fun h => H7.out h.symm))).trans ((((Below.refl w2.heap.size w2).alloc (Nat.le_refl _) _).frozen (p := ⟨bV, 0, none⟩) l2).trans f2))
    | (go_simp; go_at_call 84; refine (xor_live _ _ _ (HD.out _ (below_drewN HB1.out 1)) HONE.out H01.out.1).mono ?_; rintro e w2 ⟨rfl, hb2⟩; have v2 : w2.cell? ⟨bV, 0, none⟩ = some (.slice pv K cv) := (hb2.cell (p := ⟨bV, 0, none⟩) (by show bV < w1.heap.size; omega)).trans v1; have f2 : w2.frozen? ⟨bV, 0, none⟩ = false := (hb2.frozen (p := ⟨bV, 0, none⟩) (by show bV < w1.heap.size; omega)).trans f1; have l2 : bV < w2.heap.size := (cell_there v2).1))
  all_goals
    have hA : Below w.heap.size w (w2.alloc (.cells #[.int .i64 (iteK one (iteK c 0 1) c)] 3)) := (((below_drewN HB1.out 1).trans (hb2.mono (by show w.heap.size ≤ w1.heap.size; omega)))).alloc (by have := hb2.size; have : w1.heap.size ≤ w2.heap.size := this; omega) _
    have HP := Lib.hid (sumk_push (iteK one (iteK c 0 1) c) HS.out h5' hA hgrow3 hwhere (HK.out ▸ hown3) ⟨_, v3⟩ f3)
    have y0 : w2.cell? ⟨w.heap.size, 0, none⟩ = some (.int .i64 x) := (hb2.cell (p := ⟨w.heap.size, 0, none⟩) (by show w.heap.size < w1.heap.size; omega)).trans x0
    have y1 : w2.cell? ⟨w.heap.size, 1, none⟩ = some (.int .i64 y) := (hb2.cell (p := ⟨w.heap.size, 1, none⟩) (by show w.heap.size < w1.heap.size; omega)).trans x1
    have hwr : some w.heap.size ≠ (Value.slice pv K cv).ownBlock := fun h => by have := (HROW.out _ h.symm); omega
    have z0 : w3.cell? ⟨w.heap.size, 0, none⟩ = some (.int .i64 x) := hgrow3.cell (a := ⟨w.heap.size, 0, none⟩) ((World.cell?_alloc_lt w2 _ ⟨w.heap.size, 0, none⟩ (cell_there y0).1).trans y0) hwr
    have z1 : w3.cell? ⟨w.heap.size, 1, none⟩ = some (.int .i64 y) := hgrow3.cell (a := ⟨w.heap.size, 1, none⟩) ((World.cell?_alloc_lt w2 _ ⟨w.heap.size, 1, none⟩ (cell_there y0).1).trans y1) hwr
    have hVw : ¬ bV = w.heap.size := by omega
    have g0 : (w3.setCell ⟨bV, 0, none⟩ (.slice pv' (K + 1) cv')).cell? ⟨w.heap.size, 0, none⟩ = some (.int .i64 x) := (World.cell?_setCell_other _ _ _ _ (by simp [hVw])).trans z0
    have g1 : (w3.setCell ⟨bV, 0, none⟩ (.slice pv' (K + 1) cv')).cell? ⟨w.heap.size, 1, none⟩ = some (.int .i64 y) := (World.cell?_setCell_other _ _ _ _ (by simp [hVw])).trans z1
    clear hA hgrow3 hwhere hown3 v3 f3 y0 y1 z0 z1 hwr v2 f2 l2 v1 f1 s1 x0 x1 own1 hb2
    generalize w3.setCell ⟨bV, 0, none⟩ (.slice pv' (K + 1) cv') = Y at *
    have HP2 := Lib.hid HP
    obtain ⟨O', hst, hext⟩ := HP.out
    have HST := Lib.hid hst
    have HEX := Lib.hid hext
    have s1 := hst.1
    have hlS' := (cell_there s1).1
    have hlY := (cell_there g0).1
    have HD' : Hid (∀ W, Below Y.heap.size Y W → Live W (.pointer po)) := fun W hW => HST.out.2.2.1.1.below hW
    clear hst hext HP HP2
    go_wp2_with fail
    refine (and_live _ _ _ (HD'.out _ (Below.refl _ _)) H01.out.2.1 H01.out.2.2).mono ?_
    rintro e w5 ⟨rfl, hb5⟩
    have s5 : w5.cell? ⟨bS, 0, none⟩ = some (.pointer po) := (hb5.cell (p := ⟨bS, 0, none⟩) hlS').trans s1
    go_wp2_with fail
    refine (and_live _ _ _ (HD'.out _ hb5) H01.out.1 HONE.out).mono ?_
    rintro e w6 ⟨rfl, hb6⟩
    have hB6 : Below Y.heap.size Y w6 := hb5.trans (hb6.mono hb5.size)
    have s6 : w6.cell? ⟨bS, 0, none⟩ = some (.pointer po) := (hB6.cell (p := ⟨bS, 0, none⟩) hlS').trans s1
    go_wp2_with fail
    refine (or_live _ _ _ (HD'.out _ hB6) (iteK_ok H01.out.2.2 bit0) (iteK_ok HONE.out bit0)).mono ?_
    rintro e w7 ⟨rfl, hb7⟩
    have hB7 : Below Y.heap.size Y w7 := hB6.trans (hb7.mono hB6.size)
    go_wp2_with fail
    go_ret
    exact ⟨_, rfl, by rw [HO.out]; rfl, O', by rw [bitK, ← HO.out]; exact HST.out.below hB7, HEX.out.trans (Ext.of_below hB7)⟩

end Go.Proofs.Ytlnkflmnjkmhkaa

/-
  Contracts of symop.sum and Add at a live store, and constants.
-/
namespace Go.Proofs.Ytlnkflmnjkmhkaa
open Go.RowKit Go.Maps

def carryAt (p : Nat → Int × Int) (c : Int) : Nat → Int
  | 0 => c
  | k + 1 => carryK (carryAt p c k) (p k).1 (p k).2
def sumL (p : Nat → Int × Int) (c : Int) : Nat → List Int
  | 0 => []
  | k + 1 => sumL p c k ++ [bitK (carryAt p c k) (p k).1 (p k).2]
theorem sumL_succ (p : Nat → Int × Int) (c : Int) (k : Nat) : sumL p c (k + 1) = sumL p c k ++ [bitK (carryAt p c k) (p k).1 (p k).2] := rfl
theorem sumL_len (p : Nat → Int × Int) (c : Int) (k : Nat) : (sumL p c k).length = k := by
  induction k with
  | zero => rfl
  | succ k ih => rw [sumL_succ, List.length_append, ih]; rfl
theorem carryAt_ok {xs ys : List Int} {c : Int} (hc : Bit01 c) (hx : ∀ k, Bit01 (xs.getD k 0)) (hy : ∀ k, Bit01 (ys.getD k 0)) (k : Nat) : Bit01 (carryAt (pairAt xs ys) c k) := by
  induction k with
  | zero => exact hc
  | succ k ih => exact iteK_ok bit1 (iteK_ok (iteK_ok (iteK_ok bit0 bit1) (hy k)) bit0)

set_option maxRecDepth 100000 in
set_option maxHeartbeats 1600000 in
theorem sum_k {sp : Value} (va vb : Value) (xs ys : List Int) (c : Int) (w : World) (hc01 : Bit01 c) (hx01 : ∀ k, Bit01 (xs.getD k 0)) (hy01 : ∀ k, Bit01 (ys.getD k 0)) (hd : Live w sp) (ha : IVec w va xs) (hb : IVec w vb ys) (hxl : xs.length ≤ 1000000) (hyl : ys.length ≤ 1000000) :
    Calls Try.prog 108 #[sp, va, vb, .int .i64 c] w (RetVec w (sumL (pairAt xs ys) c (max xs.length ys.length))) := by
  have HD := Lib.hid hd
  have HA := Lib.hid ha
  have HB := Lib.hid hb
  obtain ⟨bd, rfl⟩ := hd.shape
  obtain ⟨po, hpo⟩ : ∃ po : Option Addr, po = some ⟨bd, 0, none⟩ := ⟨_, rfl⟩
  rw [← hpo] at HD ⊢
  clear hpo
  have H01 : Hid (Bit01 c ∧ (∀ k, Bit01 (xs.getD k 0)) ∧ ∀ k, Bit01 (ys.getD k 0)) := ⟨hc01, hx01, hy01⟩
  have HL := Lib.hid (sumL_len (pairAt xs ys) c (max xs.length ys.length))
  clear hd ha hb hc01 hx01 hy01
  have hmf := run_makeFunc
  go_enter Try.func108, Try.ntmps108
  go_wp2_with fail
  obtain ⟨A, hA⟩ : ∃ A, A = ((w.alloc (.cells #[.pointer po] 23)).alloc (.cells #[] 3)).alloc (.cells #[.slice (some ⟨w.heap.size + 1, 0, none⟩) 0 0] 34) := ⟨_, rfl⟩
  have hBA : Below w.heap.size w A := by rw [hA]; exact (by repeat (first | exact Below.refl _ _ | assumption | refine Below.drew ?_ | refine Below.alloc ?_ (by first | omega | (simp <;> omega)) _ | refine Below.setCell ?_ (by first | omega | (simp <;> omega)) _ | refine Below.trans ?_ (Below.mono (by assumption) (by first | omega | (simp <;> omega)))))
  have hAs : A.heap.size = w.heap.size + 3 := by rw [hA]; simp
  have a0 : A.cell? ⟨w.heap.size, 0, none⟩ = some (.pointer po) := by rw [hA]; simp [go_sem]
  have aV : A.cell? ⟨w.heap.size + 1 + 1, 0, none⟩ = some (.slice (some ⟨w.heap.size + 1, 0, none⟩) 0 0) := by rw [hA]; simp [go_sem]
  have aF : A.frozen? ⟨w.heap.size + 1 + 1, 0, none⟩ = false := by rw [hA]; simp [go_sem]
  have aO : A.heap[w.heap.size + 1]? = some (.cells #[] 3 (0, 0)) := by
    rw [hA, Below.heap_alloc _ _ _ (by simp)]
    show ((w.heap.push (.cells #[.pointer po] 23)).push (.cells #[] 3))[w.heap.size + 1]? = _
    rw [Array.getElem?_push]
    simp
  let O : Nat → Prop := fun j => j = w.heap.size + 1 + 1 ∨ (Value.slice (some ⟨w.heap.size + 1, 0, none⟩) 0 0).ownBlock = some j
  have hOlo : ∀ j, O j → w.heap.size < j ∧ j < A.heap.size := by
    rintro j (h | h)
    · omega
    · simp [Value.ownBlock] at h; omega
  have hDX : LiveX A O (.pointer po) := by
    refine ⟨HD.out.below hBA, fun b hb hO => ?_⟩
    obtain ⟨b', cap, n, cn, pn, e, h1, -⟩ := HD.out
    have := (cell_there h1).1
    rw [e] at hb
    simp at hb
    subst hb
    have := hOlo _ hO
    simp at *
    omega
  have hST : SumK A O w.heap.size (w.heap.size + 1 + 1) po [] :=
    ⟨a0, fun h => by have := hOlo _ h; omega, hDX, aF, _, aV, ⟨rfl, .inr ⟨w.heap.size + 1, 0, #[], rfl, Nat.zero_le _, aO, Nat.le_refl _, Nat.zero_le _, rfl, rfl⟩⟩, by simp [Value.ownBlock], fun j => Iff.rfl⟩
  have hOA : ∀ k, O k → k < A.heap.size := fun k hk => (hOlo k hk).2
  have HST := Lib.hid hST
  have HOL : Hid (∀ j, O j → w.heap.size < j ∧ j < A.heap.size) := hOlo
  have hp := pairs_any O va vb xs ys A hOA (HA.out.below hBA) (HB.out.below hBA) hxl hyl
  have HP := Lib.hid hp
  have HBA := Lib.hid hBA
  rw [← hA]
  clear hST hOlo hDX aO aF aV a0 hAs hA hOA hp hBA
  clear_value O
  refine HP.out.mono ?_
  rintro e w1 ⟨v, rfl, hv, hb1⟩
  have HV := Lib.hid hv
  have HB1 := Lib.hid hb1
  clear hv hb1 HP
  have hF : Calls Try.prog 110 #[v, .int .i64 c, .func (.func 145) #[] #[.pointer (some ⟨w.heap.size, 0, none⟩), .pointer (some ⟨w.heap.size + 1 + 1, 0, none⟩)]] w1
      (RetJ fun _ W => ∃ O', PVecX W O' v (max xs.length ys.length) (pairAt xs ys) ∧ SumK W O' w.heap.size (w.heap.size + 1 + 1) po (sumL (pairAt xs ys) c (max xs.length ys.length)) ∧ Ext O O' w1 W) := by
    refine (fold_bits 145 #[] _ v (max xs.length ys.length) (pairAt xs ys) (fun k t W => t = carryAt (pairAt xs ys) c k ∧ ∃ O', PVecX W O' v (max xs.length ys.length) (pairAt xs ys) ∧ SumK W O' w.heap.size (w.heap.size + 1 + 1) po (sumL (pairAt xs ys) c k) ∧ Ext O O' w1 W) c w1 (by omega) ⟨rfl, O, HV.out, HST.out.below HB1.out, Ext.refl _ _⟩ ?_ ?_ call_sum1 ?_).mono fun e w' ⟨r, h1, h2, h3⟩ => ⟨r, h1, h3⟩
    · rintro k t W ⟨-, O', h1, -⟩
      exact h1.pvec
    · rintro k t W W' ⟨h0, O', h1, h2, h3⟩ hb
      exact ⟨h0, O', h1.ext (Ext.of_below hb), h2.below hb, h3.trans (Ext.of_below hb)⟩
    · rintro k hk t W ⟨rfl, O', h1, h2, h3⟩
      exact (sum1_k O' w.heap.size (w.heap.size + 1 + 1) (sumL (pairAt xs ys) c k) po _ _ _ W (by rw [sumL_len]; omega) (carryAt_ok H01.out.1 H01.out.2.1 H01.out.2.2 k) (H01.out.2.1 k) (H01.out.2.2 k) h2).mono
        fun e w' ⟨r, hr, hr2, O'', h4, h5⟩ => ⟨r, hr, hr2, O'', h1.ext h5, by rw [sumL_succ]; exact h4, h3.trans h5⟩
  go_wp2_with fail
  refine hF.mono ?_
  rintro e w2 ⟨r, rfl, O', h1, h2, h3⟩
  obtain ⟨q1, q2, q3, q4, vv, q5, q6, q7, q8⟩ := h2
  rw [HL.out] at q6
  obtain ⟨pv, cv, rfl, -⟩ := own_shape q6
  have hR : Below w.heap.size w w2 := below_ext (HBA.out.trans (HB1.out.mono HBA.out.size)) h3 (fun k hk => by have := HOL.out k hk; omega) (Nat.le_trans HBA.out.size HB1.out.size)
  have hV : IVec w2 (.slice pv (max xs.length ys.length) cv) (sumL (pairAt xs ys) c (max xs.length ys.length)) := IVec.of_owns (n := max xs.length ys.length) HL.out q6
  have HR := Lib.hid hR
  have HVV := Lib.hid hV
  clear q1 q2 q3 q4 q6 q7 q8 h1 h3 hR hV hF
  go_wp2_with fail
  go_ret
  exact ⟨_, rfl, HVV.out, HR.out⟩

set_option maxRecDepth 100000 in
set_option maxHeartbeats 400000 in
theorem add_k {sp : Value} (va vb : Value) (xs ys : List Int) (w : World) (hx01 : ∀ k, Bit01 (xs.getD k 0)) (hy01 : ∀ k, Bit01 (ys.getD k 0)) (hd : Live w sp) (ha : IVec w va xs) (hb : IVec w vb ys) (hxl : xs.length ≤ 1000000) (hyl : ys.length ≤ 1000000) :
    Calls Try.prog 48 #[sp, va, vb] w (RetVec w (sumL (pairAt xs ys) 0 (max xs.length ys.length))) := by
  have HS := Lib.hid (sum_k va vb xs ys 0 w bit0 hx01 hy01 hd ha hb hxl hyl)
  clear hd ha hb hx01 hy01
  go_enter Try.func48, Try.ntmps48
  go_wp2_with fail
  refine HS.out.mono ?_
  rintro e w1 ⟨v, rfl, hv, hb1⟩
  go_wp2_with fail
  go_ret
  exact ⟨_, rfl, hv, hb1⟩

end Go.Proofs.Ytlnkflmnjkmhkaa

/-
  Less, and Eq of nothing, at a live store, and constants.
-/
namespace Go.Proofs.Ytlnkflmnjkmhkaa
open Go.RowKit Go.Maps

def lessK (t x y : Int) : Int := iteK (iteK x (iteK y 0 1) y) y t
def lessAt (p : Nat → Int × Int) : Nat → Int
  | 0 => 0
  | k + 1 => lessK (lessAt p k) (p k).1 (p k).2
theorem lessAt_ok {xs ys : List Int} (hy : ∀ k, Bit01 (ys.getD k 0)) (k : Nat) : Bit01 (lessAt (pairAt xs ys) k) := by
  induction k with
  | zero => exact bit0
  | succ k ih => exact iteK_ok (hy k) ih

set_option maxRecDepth 100000 in
set_option maxHeartbeats 800000 in
theorem less1_k (bS : Nat) (po : Option Addr) (t x y : Int) (w : World) (ht01 : Bit01 t) (hx01 : Bit01 x) (hy01 : Bit01 y) (hd : Live w (.pointer po)) (hS : w.cell? ⟨bS, 0, none⟩ = some (.pointer po)) :
    Calls Try.prog 113 #[.int .i64 t, .agg #[.int .i64 x, .int .i64 y], .pointer (some ⟨bS, 0, none⟩)] w (RetInt w (lessK t x y)) := by
  have HD : Hid (∀ W, Below w.heap.size w W → Live W (.pointer po)) := fun W hW => hd.below hW
  have hlS := (cell_there hS).1
  have H01 : Hid (Bit01 t ∧ Bit01 x ∧ Bit01 y) := ⟨ht01, hx01, hy01⟩
  clear hd ht01 hx01 hy01
  go_enter Try.func113, Try.ntmps113
  go_wp2_with fail
  refine (xor_live _ _ _ (HD.out _ (by repeat (first | exact Below.refl _ _ | assumption | refine Below.drew ?_ | refine Below.alloc ?_ (by first | omega | (simp <;> omega)) _ | refine Below.setCell ?_ (by first | omega | (simp <;> omega)) _ | refine Below.trans ?_ (Below.mono (by assumption) (by first | omega | (simp <;> omega)))))) H01.out.2.1 H01.out.2.2).mono ?_
  rintro e w1 ⟨rfl, hb1⟩
  have hB1 : Below w.heap.size w w1 := (by repeat (first | exact Below.refl _ _ | assumption | refine Below.drew ?_ | refine Below.alloc ?_ (by first | omega | (simp <;> omega)) _ | refine Below.setCell ?_ (by first | omega | (simp <;> omega)) _ | refine Below.trans ?_ (Below.mono (by assumption) (by first | omega | (simp <;> omega)))))
  have s1 : w1.cell? ⟨bS, 0, none⟩ = some (.pointer po) := (hB1.cell hlS).trans hS
  have x1 : w1.cell? ⟨w.heap.size, 1, none⟩ = some (.int .i64 y) := by rw [hb1.cell (p := ⟨w.heap.size, 1, none⟩) (by simp)]; simp [go_sem]
  have HB := Lib.hid hB1
  clear hS hb1 hB1
  go_wp2_with fail
  refine (ite_live _ _ _ _ (HD.out _ HB.out) (iteK_ok (iteK_ok bit0 bit1) H01.out.2.2) H01.out.2.2 H01.out.1).mono ?_
  rintro e w2 ⟨rfl, hb2⟩
  go_wp2_with fail
  go_ret
  exact ⟨rfl, HB.out.trans (hb2.mono HB.out.size)⟩

theorem fold_less_k (po : Option Addr) (bS : Nat) (v : Value) (n : Nat) (xs ys : List Int) (w : World) (hn : n ≤ 1000000) (hv : PVec w v n (pairAt xs ys)) (hx : ∀ k, Bit01 (xs.getD k 0)) (hy : ∀ k, Bit01 (ys.getD k 0)) (hd : Live w (.pointer po)) (hS : w.cell? ⟨bS, 0, none⟩ = some (.pointer po)) :
    Calls Try.prog 110 #[v, .int .i64 0, .func (.func 113) #[] #[.pointer (some ⟨bS, 0, none⟩)]] w (RetInt w (lessAt (pairAt xs ys) n)) :=
  (fold_bits 113 #[] #[.pointer (some ⟨bS, 0, none⟩)] v n (pairAt xs ys) (fun k t W => t = lessAt (pairAt xs ys) k ∧ Below w.heap.size w W) 0 w hn ⟨rfl, Below.refl _ _⟩ (fun k t W h => hv.below h.2) (fun k t W W' h hb => ⟨h.1, h.2.trans (hb.mono h.2.size)⟩) call_less1
    (fun k hk t W h => (less1_k bS po t _ _ W (h.1 ▸ lessAt_ok hy k) (hx k) (hy k) (hd.below h.2) ((h.2.cell (cell_there hS).1).trans hS)).mono fun e w' ⟨h1, h2⟩ => ⟨_, h1, by rw [h.1]; rfl, h.2.trans (h2.mono h.2.size)⟩)).mono
    fun e w' ⟨r, h1, h2, h3⟩ => ⟨h2 ▸ h1, h3⟩
theorem fold_eq0 (p : Nat → Int × Int) (po : Option Addr) (bS : Nat) (v : Value) (w : World) (hv : PVec w v 0 p) :
    Calls Try.prog 110 #[v, .int .i64 1, .func (.func 112) #[] #[.pointer (some ⟨bS, 0, none⟩)]] w (RetInt w 1) :=
  (fold_bits 112 #[] #[.pointer (some ⟨bS, 0, none⟩)] v 0 p (fun k t W => t = 1 ∧ Below w.heap.size w W) 1 w (by omega) ⟨rfl, Below.refl _ _⟩ (fun k t W h => hv.below h.2) (fun k t W W' h hb => ⟨h.1, h.2.trans (hb.mono h.2.size)⟩) call_eq1
    (fun k hk t W h => absurd hk (Nat.not_lt_zero _))).mono
    fun e w' ⟨r, h1, h2, h3⟩ => ⟨h2 ▸ h1, h3⟩

set_option maxRecDepth 100000 in
set_option maxHeartbeats 1600000 in
theorem less_k {sp : Value} (va vb : Value) (xs ys : List Int) (w : World) (hx01 : ∀ k, Bit01 (xs.getD k 0)) (hy01 : ∀ k, Bit01 (ys.getD k 0)) (hd : Live w sp) (ha : IVec w va xs) (hb : IVec w vb ys) (hxl : xs.length ≤ 1000000) (hyl : ys.length ≤ 1000000) :
    Calls Try.prog 52 #[sp, va, vb] w (RetInt w (lessAt (pairAt xs ys) (max xs.length ys.length))) := by
  have HD : Hid (∀ W, Below w.heap.size w W → Live W sp) := fun W hW => hd.below hW
  have HA := Lib.hid ha
  have HB := Lib.hid hb
  obtain ⟨bd, rfl⟩ := hd.shape
  obtain ⟨po, hpo⟩ : ∃ po : Option Addr, po = some ⟨bd, 0, none⟩ := ⟨_, rfl⟩
  rw [← hpo] at HD ⊢
  have H01 : Hid ((∀ k, Bit01 (xs.getD k 0)) ∧ ∀ k, Bit01 (ys.getD k 0)) := ⟨hx01, hy01⟩
  clear hd ha hb hx01 hy01 hpo
  have hmf := run_makeFunc
  go_enter Try.func52, Try.ntmps52
  go_wp2_with fail
  generalize hX : w.alloc (.cells #[.pointer po] 23) = X
  have hBX : Below w.heap.size w X := by rw [← hX]; exact (by repeat (first | exact Below.refl _ _ | assumption | refine Below.drew ?_ | refine Below.alloc ?_ (by first | omega | (simp <;> omega)) _ | refine Below.setCell ?_ (by first | omega | (simp <;> omega)) _ | refine Below.trans ?_ (Below.mono (by assumption) (by first | omega | (simp <;> omega)))))
  have hsX : w.heap.size < X.heap.size := by rw [← hX]; simp
  have sX : X.cell? ⟨w.heap.size, 0, none⟩ = some (.pointer po) := by rw [← hX]; simp [go_sem]
  have HBX := Lib.hid hBX
  have HPR : Hid (Calls Try.prog 111 #[va, vb] X.drew fun e w' => ∃ v, e = .returned v ∧ PVecX w' (fun _ => False) v (max xs.length ys.length) (pairAt xs ys) ∧ Below X.drew.heap.size X.drew w') :=
    pairs_any (fun _ => False) va vb xs ys X.drew (fun _ h => h.elim) (HA.out.below (below_drewN HBX.out 1)) (HB.out.below (below_drewN HBX.out 1)) hxl hyl
  clear hX hBX
  go_region_with (first
    | (go_at_call 111; refine HPR.out.mono ?_; rintro e w1 ⟨v, rfl, hv, hb1⟩; have s1 : w1.cell? ⟨w.heap.size, 0, none⟩ = some (.pointer po) := (hb1.cell (p := ⟨w.heap.size, 0, none⟩) hsX).trans sX; have hB1 : Below w.heap.size w w1 := (below_drewN HBX.out 1).trans (hb1.mono (Nat.le_of_lt hsX)))
    | (go_at_call 110; refine (fold_less_k po w.heap.size v _ xs ys w1 (by omega) hv.pvec H01.out.1 H01.out.2 (HD.out _ hB1) s1).mono ?_; rintro e w2 ⟨rfl, hb2⟩; have s2 : w2.cell? ⟨w.heap.size, 0, none⟩ = some (.pointer po) := (hb2.cell (p := ⟨w.heap.size, 0, none⟩) (cell_there s1).1).trans s1; have hB2 : Below w.heap.size w w2 := hB1.trans (hb2.mono hB1.size))
    | (go_at_call 109; refine (truth_live _ _ (HD.out _ hB2)).mono ?_; rintro e w3 ⟨rfl, rfl⟩))
  all_goals
    go_wp2_with fail
    go_ret
    exact ⟨rfl, hB2⟩

set_option maxRecDepth 100000 in
set_option maxHeartbeats 1600000 in
theorem eq_nil_k {sp : Value} (va vb : Value) (xs ys : List Int) (w : World) (hx0 : xs.length = 0) (hy0 : ys.length = 0) (hd : Live w sp) (ha : IVec w va xs) (hb : IVec w vb ys) (hxl : xs.length ≤ 1000000) (hyl : ys.length ≤ 1000000) :
    Calls Try.prog 51 #[sp, va, vb] w (RetInt w 1) := by
  have HD : Hid (∀ W, Below w.heap.size w W → Live W sp) := fun W hW => hd.below hW
  have HA := Lib.hid ha
  have HB := Lib.hid hb
  obtain ⟨bd, rfl⟩ := hd.shape
  obtain ⟨po, hpo⟩ : ∃ po : Option Addr, po = some ⟨bd, 0, none⟩ := ⟨_, rfl⟩
  rw [← hpo] at HD ⊢
  have H00 : Hid (max xs.length ys.length = 0) := by show _ = _; omega
  clear hd ha hb hpo hx0 hy0
  have hmf := run_makeFunc
  go_enter Try.func51, Try.ntmps51
  go_wp2_with fail
  generalize hX : w.alloc (.cells #[.pointer po] 23) = X
  have hBX : Below w.heap.size w X := by rw [← hX]; exact (by repeat (first | exact Below.refl _ _ | assumption | refine Below.drew ?_ | refine Below.alloc ?_ (by first | omega | (simp <;> omega)) _ | refine Below.setCell ?_ (by first | omega | (simp <;> omega)) _ | refine Below.trans ?_ (Below.mono (by assumption) (by first | omega | (simp <;> omega)))))
  have hsX : w.heap.size < X.heap.size := by rw [← hX]; simp
  have sX : X.cell? ⟨w.heap.size, 0, none⟩ = some (.pointer po) := by rw [← hX]; simp [go_sem]
  have HBX := Lib.hid hBX
  have HPR : Hid (Calls Try.prog 111 #[va, vb] X.drew fun e w' => ∃ v, e = .returned v ∧ PVecX w' (fun _ => False) v (max xs.length ys.length) (pairAt xs ys) ∧ Below X.drew.heap.size X.drew w') :=
    pairs_any (fun _ => False) va vb xs ys X.drew (fun _ h => h.elim) (HA.out.below (below_drewN HBX.out 1)) (HB.out.below (below_drewN HBX.out 1)) hxl hyl
  clear hX hBX
  go_region_with (first
    | (go_at_call 111; refine HPR.out.mono ?_; rintro e w1 ⟨v, rfl, hv, hb1⟩; have s1 : w1.cell? ⟨w.heap.size, 0, none⟩ = some (.pointer po) := (hb1.cell (p := ⟨w.heap.size, 0, none⟩) hsX).trans sX; have hB1 : Below w.heap.size w w1 := (below_drewN HBX.out 1).trans (hb1.mono (Nat.le_of_lt hsX)))
    | (go_at_call 110; refine (fold_eq0 (pairAt xs ys) po w.heap.size v w1 (H00.out ▸ hv.pvec)).mono ?_; rintro e w2 ⟨rfl, hb2⟩; have s2 : w2.cell? ⟨w.heap.size, 0, none⟩ = some (.pointer po) := (hb2.cell (p := ⟨w.heap.size, 0, none⟩) (cell_there s1).1).trans s1; have hB2 : Below w.heap.size w w2 := hB1.trans (hb2.mono hB1.size))
    | (go_at_call 109; refine (truth_live _ _ (HD.out _ hB2)).mono ?_; rintro e w3 ⟨rfl, rfl⟩))
  all_goals
    go_wp2_with fail
    go_ret
    exact ⟨rfl, hB2⟩

end Go.Proofs.Ytlnkflmnjkmhkaa

/-
  The page's examples of layer 18 answer true.
-/
namespace Go.Proofs.Ytlnkflmnjkmhkaa
open Go.RowKit Go.Maps

theorem lit2 (w : World) (a b : Int) (t : TypeId) : IVec (w.alloc (.cells #[.int .i64 a, .int .i64 b] t)) (.slice (some ⟨w.heap.size, 0, none⟩) 2 2) [a, b] := by
  refine ⟨some ⟨w.heap.size, 0, none⟩, 2, rfl, by simp, by unfold maxLen; omega, fun _ => ⟨w.heap.size, 0, rfl, by simp, fun i hi => ?_⟩⟩
  simp at hi
  match i, hi with
  | 0, _ => simp [go_sem]
  | 1, _ => simp [go_sem]

theorem bits_two (a b : Int) (ha : Bit01 a) (hb : Bit01 b) (k : Nat) : Bit01 ([a, b].getD k 0) := by
  match k with
  | 0 => exact ha
  | 1 => exact hb
  | k + 2 => exact .inl rfl
theorem sum_21 : sumL (pairAt [0, 1] [1, 0]) 0 (max ([0, 1] : List Int).length ([1, 0] : List Int).length) = [1, 1] := by decide +kernel
theorem less_21 : lessAt (pairAt [0, 1] [1, 0]) (max ([0, 1] : List Int).length ([1, 0] : List Int).length) = 0 := by decide +kernel
theorem less_12 : lessAt (pairAt [1, 0] [0, 1]) (max ([1, 0] : List Int).length ([0, 1] : List Int).length) = 1 := by decide +kernel

theorem new_live (w : World) (c : Nat) (h0 : 2 ≤ c) (h1 : c ≤ 1048576) : Live (newWorld w c) (.pointer (some ⟨w.heap.size + 2, 0, none⟩)) :=
  ⟨w.heap.size + 2, c, 0, 0, none, rfl, by simp [newWorld, newCells, go_sem], by simp [newWorld, newCells, go_sem], by simp [newWorld, newCells, go_sem], h0, h1, by omega⟩

set_option maxRecDepth 100000 in
set_option maxHeartbeats 1600000 in
theorem known18_true (w : World) : Calls Try.prog 9 #[] w fun e w' => e = .returned (.bool true) ∧ Below w.heap.size w w' := by
  have HN : Hid (∀ W, Calls Try.prog 8 #[.int .i64 2] W fun e w' => e = .returned (.tuple #[.pointer (some ⟨W.heap.size + 2, 0, none⟩), .int .i64 0]) ∧ newWorld W 2 = w') := fun W => new_ok 2 W (by omega) (by omega)
  go_enter Try.func9, Try.ntmps9
  go_wp2_with fail
  refine (HN.out _).mono ?_
  rintro e w1 ⟨rfl, hw1⟩
  have hB1 : Below w.heap.size w w1 := by rw [← hw1]; unfold newWorld; exact (by repeat (first | exact Below.refl _ _ | assumption | refine Below.drew ?_ | refine Below.alloc ?_ (by first | omega | (simp <;> omega)) _ | refine Below.setCell ?_ (by first | omega | (simp <;> omega)) _ | refine Below.trans ?_ (Below.mono (by assumption) (by first | omega | (simp <;> omega)))))
  have hL : Live w1 (.pointer (some ⟨w.heap.size + 2, 0, none⟩)) := hw1 ▸ new_live w 2 (by omega) (by omega)
  have HB1 := Lib.hid hB1
  have HL := Lib.hid hL
  clear hw1 hB1 hL
  go_wp2_with fail
  obtain ⟨X, hX⟩ : ∃ X, X = (w1.alloc (.cells #[.int .i64 0, .int .i64 1] 3)).alloc (.cells #[.int .i64 1, .int .i64 0] 3) := ⟨_, rfl⟩
  have hBX : Below w1.heap.size w1 X := by rw [hX]; exact (by repeat (first | exact Below.refl _ _ | assumption | refine Below.drew ?_ | refine Below.alloc ?_ (by first | omega | (simp <;> omega)) _ | refine Below.setCell ?_ (by first | omega | (simp <;> omega)) _ | refine Below.trans ?_ (Below.mono (by assumption) (by first | omega | (simp <;> omega)))))
  have HT : Hid (IVec X (.slice (some ⟨w1.heap.size, 0, none⟩) 2 2) [0, 1]) := by
    rw [hX]; exact (lit2 w1 0 1 _).below (by repeat (first | exact Below.refl _ _ | assumption | refine Below.drew ?_ | refine Below.alloc ?_ (by first | omega | (simp <;> omega)) _ | refine Below.setCell ?_ (by first | omega | (simp <;> omega)) _ | refine Below.trans ?_ (Below.mono (by assumption) (by first | omega | (simp <;> omega)))))
  have HO : Hid (IVec X (.slice (some ⟨w1.heap.size + 1, 0, none⟩) 2 2) [1, 0]) := by
    rw [hX]; have h := lit2 (w1.alloc (.cells #[.int .i64 0, .int .i64 1] 3)) 1 0 3; refine Lib.hid ?_; simpa using h
  have HS : Hid (∀ W, Below X.heap.size X W → Live W (.pointer (some ⟨w.heap.size + 2, 0, none⟩))) := fun W hW => (HL.out.below hBX).below hW
  have HW : Hid (Below w.heap.size w X) := HB1.out.trans (hBX.mono HB1.out.size)
  have HA : Hid (Calls Try.prog 48 #[.pointer (some ⟨w.heap.size + 2, 0, none⟩), .slice (some ⟨w1.heap.size, 0, none⟩) 2 2, .slice (some ⟨w1.heap.size + 1, 0, none⟩) 2 2] X (RetVec X [1, 1])) := by
    have h := add_k _ _ [0, 1] [1, 0] X (bits_two 0 1 bit0 bit1) (bits_two 1 0 bit1 bit0) (HS.out X (Below.refl _ _)) HT.out HO.out (by simp) (by simp)
    rw [sum_21] at h
    exact h
  have HL1 : Hid (∀ W, Below X.heap.size X W → Calls Try.prog 52 #[.pointer (some ⟨w.heap.size + 2, 0, none⟩), .slice (some ⟨w1.heap.size, 0, none⟩) 2 2, .slice (some ⟨w1.heap.size + 1, 0, none⟩) 2 2] W (RetInt W 0)) := by
    intro W hW
    have h := less_k _ _ [0, 1] [1, 0] W (bits_two 0 1 bit0 bit1) (bits_two 1 0 bit1 bit0) (HS.out W hW) (HT.out.below hW) (HO.out.below hW) (by simp) (by simp)
    rw [less_21] at h
    exact h
  have HL2 : Hid (∀ W, Below X.heap.size X W → Calls Try.prog 52 #[.pointer (some ⟨w.heap.size + 2, 0, none⟩), .slice (some ⟨w1.heap.size + 1, 0, none⟩) 2 2, .slice (some ⟨w1.heap.size, 0, none⟩) 2 2] W (RetInt W 1)) := by
    intro W hW
    have h := less_k _ _ [1, 0] [0, 1] W (bits_two 1 0 bit1 bit0) (bits_two 0 1 bit0 bit1) (HS.out W hW) (HO.out.below hW) (HT.out.below hW) (by simp) (by simp)
    rw [less_12] at h
    exact h
  have HE : Hid (∀ W, Below X.heap.size X W → Calls Try.prog 51 #[.pointer (some ⟨w.heap.size + 2, 0, none⟩), .slice none 0 0, .slice none 0 0] W (RetInt W 1)) :=
    fun W hW => eq_nil_k _ _ [] [] W rfl rfl (HS.out W hW) (IVec.nil W) (IVec.nil W) (by simp) (by simp)
  rw [← hX]
  clear hX hBX HT HO HS HL HB1 HN
  refine HA.out.mono ?_
  rintro e w2 ⟨v, rfl, hv, hb2⟩
  have HV := Lib.hid hv
  have HB2 := Lib.hid hb2
  clear hv hb2
  go_wp2_with fail
  refine (same_any _ _ [1, 1] [1, 1] _ (HV.out.below (by repeat (first | exact Below.refl _ _ | assumption | refine Below.drew ?_ | refine Below.alloc ?_ (by first | omega | (simp <;> omega)) _ | refine Below.setCell ?_ (by first | omega | (simp <;> omega)) _ | refine Below.trans ?_ (Below.mono (by assumption) (by first | omega | (simp <;> omega)))))) (lit2 w2 1 1 _) rfl (by simp) rfl).mono ?_
  rintro e w3 ⟨rfl, hb3⟩
  have hB3 : Below X.heap.size X w3 := HB2.out.trans (((Below.refl w2.heap.size w2).alloc (Nat.le_refl _) _).trans (hb3.mono (by simp)) |>.mono HB2.out.size)
  have HB3 := Lib.hid hB3
  clear hB3 hb3
  go_wp2_with fail
  refine (HL1.out _ HB3.out).mono ?_
  rintro e w4 ⟨rfl, hb4⟩
  have HB4 := Lib.hid (HB3.out.trans (hb4.mono HB3.out.size))
  clear hb4
  go_wp2_with fail
  refine (HL2.out _ HB4.out).mono ?_
  rintro e w5 ⟨rfl, hb5⟩
  have HB5 := Lib.hid (HB4.out.trans (hb5.mono HB4.out.size))
  clear hb5
  go_wp2_with fail
  refine (HE.out _ HB5.out).mono ?_
  rintro e w6 ⟨rfl, hb6⟩
  go_wp2_with fail
  go_ret
  exact ⟨rfl, HW.out.trans ((HB5.out.trans (hb6.mono HB5.out.size)).mono HW.out.size)⟩

end Go.Proofs.Ytlnkflmnjkmhkaa
