/-
  Contracts of symop.sum and its closure at a live store, and constants.
-/
import Derived.Test.YtlihbbeodclncaaSymopD
import Derived.Test.YtlihbbeodclncaaConst
namespace Go.Proofs.Ytlihbbeodclncaa
open Go.RowKit Go.Maps

/-- Live, the store's block beside O. -/
def LiveX (w : World) (O : Nat → Prop) (sp : Value) : Prop := Live w sp ∧ ∀ b, sp = .pointer (some ⟨b, 0, none⟩) → ¬ O b
theorem LiveX.ext {w w' : World} {O O' : Nat → Prop} {sp : Value} (h : LiveX w O sp) (he : Ext O O' w w') : LiveX w' O' sp := by
  obtain ⟨⟨b, cap, n, cn, pn, rfl, h1, h2, h3, h4⟩, hO⟩ := h
  have hl := (cell_there h1).1
  have hb := hO b rfl
  refine ⟨⟨b, cap, n, cn, pn, rfl, (he.cell (p := ⟨b, 0, none⟩) hl hb).1.trans h1, (he.cell (p := ⟨b, 1, none⟩) hl hb).1.trans h2, (he.cell (p := ⟨b, 4, none⟩) hl hb).1.trans h3, h4⟩, fun b' e => ?_⟩
  simp at e
  subst e
  exact (he.cell (p := ⟨b, 0, none⟩) hl hb).2.2

/-- The closure's two variables: the store's pointer; the bits up to now. -/
def SumK (w : World) (O : Nat → Prop) (bS bV : Nat) (po : Option Addr) (bs : List Int) : Prop :=
  w.cell? ⟨bS, 0, none⟩ = some (.pointer po) ∧ ¬ O bS ∧ LiveX w O (.pointer po) ∧ w.frozen? ⟨bV, 0, none⟩ = false ∧
  ∃ vv, w.cell? ⟨bV, 0, none⟩ = some vv ∧ w.ownsRow 0 3 1 vv bs.length (bs.map (.int .i64)) ∧ vv.ownBlock ≠ some bV ∧ ∀ j, O j ↔ j = bV ∨ vv.ownBlock = some j

theorem SumK.below {w w' : World} {O : Nat → Prop} {bS bV : Nat} {bs : List Int} {po : Option Addr} (h : SumK w O bS bV po bs) (hb : Below w.heap.size w w') : SumK w' O bS bV po bs := by
  obtain ⟨h1, h2, h3, h4, vv, h5, h6, h7, h8⟩ := h
  exact ⟨(hb.cell (cell_there h1).1).trans h1, h2, h3.ext (Ext.of_below hb), (hb.frozen (p := ⟨bV, 0, none⟩) (cell_there h5).1).trans h4, vv, (hb.cell (cell_there h5).1).trans h5, own_below h6 hb, h7, h8⟩

theorem sumk_push {w A w3 : World} {O : Nat → Prop} {bS bV : Nat} {bs : List Int} (r : Int) {po : Option Addr} {vv v' : Value} (h : SumK w O bS bV po bs) (hv : w.cell? ⟨bV, 0, none⟩ = some vv) (hA : Below w.heap.size w A)
    (hg : A.grownBy w3 vv.ownBlock) (hwh : v'.ownBlock = vv.ownBlock ∨ ∀ j, v'.ownBlock = some j → A.heap.size ≤ j) (hown : w3.ownsRow 0 3 1 v' (bs.length + 1) (bs.map (.int .i64) ++ [.int .i64 r]))
    (hc : ∃ x, w3.cell? ⟨bV, 0, none⟩ = some x) (hf : w3.frozen? ⟨bV, 0, none⟩ = false) :
    ∃ O', SumK (w3.setCell ⟨bV, 0, none⟩ v') O' bS bV po (bs ++ [r]) ∧ Ext O O' w (w3.setCell ⟨bV, 0, none⟩ v') := by
  obtain ⟨h1, h2, h3, h4, vv', h5, h6, h7, h8⟩ := h
  rw [hv] at h5
  cases h5
  have hAs := hA.size
  have hs3 := hg.size
  have hlV : bV < w.heap.size := (cell_there hv).1
  have hvb : v'.ownBlock ≠ some bV := fun e => by
    rcases hwh with q | q
    · exact h7 (q ▸ e)
    · have := q bV e; omega
  have hE : Ext O (fun j => j = bV ∨ v'.ownBlock = some j) w (w3.setCell ⟨bV, 0, none⟩ v') := by
    refine ⟨⟨hg.os.trans hA.os, hg.tape.trans hA.tape, hg.output.trans hA.output, by simp [World.setCell]; omega, fun j hj hO => ?_⟩, fun j hj => ?_⟩
    · have q1 : j ≠ bV := fun e => hO ((h8 j).2 (.inl e))
      have q2 : vv.ownBlock ≠ some j := fun e => hO ((h8 j).2 (.inr e))
      rw [Below.heap_setCell w3 ⟨bV, 0, none⟩ v' j q1, hg.block j (by omega) (fun e => q2 e.symm)]
      exact hA.block j hj
    · rcases hj with rfl | hj
      · exact .inl ((h8 _).2 (.inl rfl))
      · rcases hwh with q | q
        · exact .inl ((h8 _).2 (.inr (q ▸ hj)))
        · exact .inr (by have := q j hj; omega)
  obtain ⟨x, hc⟩ := hc
  have e := hE.cell (p := ⟨bS, 0, none⟩) (cell_there h1).1 h2
  refine ⟨_, ⟨e.1.trans h1, e.2.2, h3.ext hE, by rw [World.frozen?_setCell]; exact hf, v', World.cell?_setCell_same _ _ _ hc, ?_, hvb, fun j => Iff.rfl⟩, hE⟩
  have h := own_setCell hown hvb v' (b := bV) (j := 0)
  simpa using h

def bitK (c x y : Int) : Int := iteK (iteK x (iteK y 0 1) y) (iteK c 0 1) c
def carryK (c x y : Int) : Int := iteK (iteK x y 0) 1 (iteK c (iteK x (iteK y 0 1) y) 0)

set_option maxHeartbeats 1600000 in
theorem sum1_k (O : Nat → Prop) (bS bV : Nat) (bs : List Int) (po : Option Addr) (c x y : Int) (w : World) (hk : bs.length ≤ 1000000) (hc01 : Bit01 c) (hx01 : Bit01 x) (hy01 : Bit01 y) (h : SumK w O bS bV po bs) :
    Calls Try.prog 53 #[.int .i64 c, .agg #[.int .i64 x, .int .i64 y], .pointer (some ⟨bS, 0, none⟩), .pointer (some ⟨bV, 0, none⟩)] w (RetJ fun r w' => r = carryK c x y ∧ ∃ O', SumK w' O' bS bV po (bs ++ [bitK c x y]) ∧ Ext O O' w w') := by
  obtain ⟨i0, hi, hz0, hz1, hz2⟩ := info_parts Try.infoInt
  have HS := Lib.hid h
  obtain ⟨h1, h2, h3, h4, vv, h5, h6, h7, h8⟩ := h
  obtain ⟨K, eK⟩ : ∃ K, bs.length = K := ⟨_, rfl⟩
  rw [eK] at h6 hk
  obtain ⟨pv, cv, rfl, -⟩ := own_shape h6
  have HD : Hid (∀ W, Below w.heap.size w W → Live W (.pointer po)) := fun W hW => h3.1.below hW
  have hlS := (cell_there h1).1
  have hlV := (cell_there h5).1
  have h5' := h5
  have HROW : Hid (∀ j, (Value.slice pv K cv).ownBlock = some j → j < w.heap.size) := fun j hj => (h6.lt j hj).2
  have H7 := Lib.hid h7
  have H8 := Lib.hid h8
  clear h2 h3 h7 h8
  have H01 : Hid (Bit01 c ∧ Bit01 x ∧ Bit01 y) := ⟨hc01, hx01, hy01⟩
  have HK : Hid (bs.length = K) := eK
  clear hc01 hx01 hy01
  go_enter Try.func53, Try.ntmps53
  go_wp2_with fail
  refine (xor_live _ _ _ (HD.out _ (by repeat (first | exact Below.refl _ _ | assumption | refine Below.drew ?_ | refine Below.alloc ?_ (by first | omega | (simp <;> omega)) _ | refine Below.setCell ?_ (by first | omega | (simp <;> omega)) _ | refine Below.trans ?_ (Below.mono (by assumption) (by first | omega | (simp <;> omega)))))) H01.out.2.1 H01.out.2.2).mono ?_
  rintro e w1 ⟨rfl, hb1⟩
  have HONE : Hid (Bit01 (iteK x (iteK y 0 1) y)) := iteK_ok (iteK_ok bit0 bit1) H01.out.2.2
  obtain ⟨one, hone⟩ : ∃ one, one = iteK x (iteK y 0 1) y := ⟨_, rfl⟩
  rw [← hone] at HONE ⊢
  have HO := Lib.hid hone
  clear hone
  have hB1 : Below w.heap.size w w1 := (by repeat (first | exact Below.refl _ _ | assumption | refine Below.drew ?_ | refine Below.alloc ?_ (by first | omega | (simp <;> omega)) _ | refine Below.setCell ?_ (by first | omega | (simp <;> omega)) _ | refine Below.trans ?_ (Below.mono (by assumption) (by first | omega | (simp <;> omega)))))
  have hs1 := hb1.size
  simp at hs1
  have x0 : w1.cell? ⟨w.heap.size, 0, none⟩ = some (.int .i64 x) := by rw [hb1.cell (p := ⟨w.heap.size, 0, none⟩) (by simp)]; simp [go_sem]
  have x1 : w1.cell? ⟨w.heap.size, 1, none⟩ = some (.int .i64 y) := by rw [hb1.cell (p := ⟨w.heap.size, 1, none⟩) (by simp)]; simp [go_sem]
  have s1 : w1.cell? ⟨bS, 0, none⟩ = some (.pointer po) := (hB1.cell hlS).trans h1
  have v1 : w1.cell? ⟨bV, 0, none⟩ = some (.slice pv K cv) := (hB1.cell hlV).trans h5
  have f1 : w1.frozen? ⟨bV, 0, none⟩ = false := (hB1.frozen (p := ⟨bV, 0, none⟩) hlV).trans h4
  have own1 := own_below h6 hB1
  have HB1 := Lib.hid hB1
  clear hb1 h1 h4 h5 h6
  go_wp2_with fail
  go_region_law (first
    | (refine step_append_two rfl (.tmp 16) (.tmp 21) 23 rfl 3 i0 (.int .i64 0) 1 8 Try.underlying23 hi hz0 hz1 hz2 rfl (by decide) _ K _ rfl ((own_below own1.drew hb2).alloc _) ⟨w2.heap.size, 0, none⟩ 1 1 [.int .i64 (iteK one (iteK c 0 1) c)] rfl rfl (cell_one_new _ _ _) (ints_oneCell .i64 [_]) (by unfold maxLen; omega) (by omega) ?_; intro v' w3 hown3 hgrow3 hwhere; obtain ⟨pv', cv', rfl, hlv⟩ := own_shape hown3; have v3 : w3.cell? ⟨bV, 0, none⟩ = some (.slice pv K cv) := hgrow3.cell (a := ⟨bV, 0, none⟩) ((World.cell?_alloc_lt _ _ _ l2).trans v2) (fun h => H7.out h.symm); have f3 : w3.frozen? ⟨bV, 0, none⟩ = false := (World.frozen?_of_block (a := ⟨bV, 0, none⟩) (hgrow3.block bV (by simp; omega) (fun h => H7.out h.symm))).trans ((((Below.refl w2.heap.size w2).alloc (Nat.le_refl _) _).frozen (p := ⟨bV, 0, none⟩) l2).trans f2))
    | (go_simp; go_at_call 35; refine (xor_live _ _ _ (HD.out _ (below_drewN HB1.out 1)) HONE.out H01.out.1).mono ?_; rintro e w2 ⟨rfl, hb2⟩; have v2 : w2.cell? ⟨bV, 0, none⟩ = some (.slice pv K cv) := (hb2.cell (p := ⟨bV, 0, none⟩) (by show bV < w1.heap.size; omega)).trans v1; have f2 : w2.frozen? ⟨bV, 0, none⟩ = false := (hb2.frozen (p := ⟨bV, 0, none⟩) (by show bV < w1.heap.size; omega)).trans f1; have l2 : bV < w2.heap.size := (cell_there v2).1))
  all_goals
    have hA : Below w.heap.size w (w2.alloc (.cells #[.int .i64 (iteK one (iteK c 0 1) c)] 3)) := (((below_drewN HB1.out 1).trans (hb2.mono (by show w.heap.size ≤ w1.heap.size; omega)))).alloc (by have := hb2.size; have : w1.heap.size ≤ w2.heap.size := this; omega) _
    have HP := Lib.hid (sumk_push (iteK one (iteK c 0 1) c) HS.out h5' hA hgrow3 hwhere (HK.out ▸ hown3) ⟨_, v3⟩ f3)
    have y0 : w2.cell? ⟨w.heap.size, 0, none⟩ = some (.int .i64 x) := (hb2.cell (p := ⟨w.heap.size, 0, none⟩) (by show w.heap.size < w1.heap.size; omega)).trans x0
    have y1 : w2.cell? ⟨w.heap.size, 1, none⟩ = some (.int .i64 y) := (hb2.cell (p := ⟨w.heap.size, 1, none⟩) (by show w.heap.size < w1.heap.size; omega)).trans x1
    have hwr : some w.heap.size ≠ (Value.slice pv K cv).ownBlock := fun h => by have := (HROW.out _ h.symm); omega
    have z0 : w3.cell? ⟨w.heap.size, 0, none⟩ = some (.int .i64 x) := hgrow3.cell (a := ⟨w.heap.size, 0, none⟩) ((World.cell?_alloc_lt w2 _ ⟨w.heap.size, 0, none⟩ (cell_there y0).1).trans y0) hwr
    have z1 : w3.cell? ⟨w.heap.size, 1, none⟩ = some (.int .i64 y) := hgrow3.cell (a := ⟨w.heap.size, 1, none⟩) ((World.cell?_alloc_lt w2 _ ⟨w.heap.size, 1, none⟩ (cell_there y0).1).trans y1) hwr
    have hVw : ¬ bV = w.heap.size := by omega
    have g0 : (w3.setCell ⟨bV, 0, none⟩ (.slice pv' (K + 1) cv')).cell? ⟨w.heap.size, 0, none⟩ = some (.int .i64 x) := (World.cell?_setCell_other _ _ _ _ (by simp [hVw])).trans z0
    have g1 : (w3.setCell ⟨bV, 0, none⟩ (.slice pv' (K + 1) cv')).cell? ⟨w.heap.size, 1, none⟩ = some (.int .i64 y) := (World.cell?_setCell_other _ _ _ _ (by simp [hVw])).trans z1
    clear hA hgrow3 hwhere hown3 v3 f3 y0 y1 z0 z1 hwr v2 f2 l2 v1 f1 s1 x0 x1 own1 hb2
    generalize w3.setCell ⟨bV, 0, none⟩ (.slice pv' (K + 1) cv') = Y at *
    have HP2 := Lib.hid HP
    obtain ⟨O', hst, hext⟩ := HP.out
    have HST := Lib.hid hst
    have HEX := Lib.hid hext
    have s1 := hst.1
    have hlS' := (cell_there s1).1
    have hlY := (cell_there g0).1
    have HD' : Hid (∀ W, Below Y.heap.size Y W → Live W (.pointer po)) := fun W hW => HST.out.2.2.1.1.below hW
    clear hst hext HP HP2
    go_wp2_with fail
    refine (and_live _ _ _ (HD'.out _ (Below.refl _ _)) H01.out.2.1 H01.out.2.2).mono ?_
    rintro e w5 ⟨rfl, hb5⟩
    have s5 : w5.cell? ⟨bS, 0, none⟩ = some (.pointer po) := (hb5.cell (p := ⟨bS, 0, none⟩) hlS').trans s1
    go_wp2_with fail
    refine (and_live _ _ _ (HD'.out _ hb5) H01.out.1 HONE.out).mono ?_
    rintro e w6 ⟨rfl, hb6⟩
    have hB6 : Below Y.heap.size Y w6 := hb5.trans (hb6.mono hb5.size)
    have s6 : w6.cell? ⟨bS, 0, none⟩ = some (.pointer po) := (hB6.cell (p := ⟨bS, 0, none⟩) hlS').trans s1
    go_wp2_with fail
    refine (or_live _ _ _ (HD'.out _ hB6) (iteK_ok H01.out.2.2 bit0) (iteK_ok HONE.out bit0)).mono ?_
    rintro e w7 ⟨rfl, hb7⟩
    have hB7 : Below Y.heap.size Y w7 := hB6.trans (hb7.mono hB6.size)
    go_wp2_with fail
    go_ret
    exact ⟨_, rfl, by rw [HO.out]; rfl, O', by rw [bitK, ← HO.out]; exact HST.out.below hB7, HEX.out.trans (Ext.of_below hB7)⟩

end Go.Proofs.Ytlihbbeodclncaa
