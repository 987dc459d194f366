/-
  Contracts of symop.sum, Add, Sub and Neg at a store that is there, once more: the vector told lies in new memory.
-/
import Derived.Test.YtlnkflmnjkmhkaaJR14
import Derived.Test.YtlnkflmnjkmhkaaJR12

namespace Go.Proofs.Ytlnkflmnjkmhkaa
open Go.RowKit Go.Maps

/-- Behind a call the store is r.1, and a vector of new memory is told. -/
def RetVF (b : Nat) (O : Nat → Prop) (w : World) (r : BS × List Int) (e : Ending) (w' : World) : Prop := ∃ v O', e = .returned v ∧ IVecF w w' O' v r.2 ∧ Sto w' b O' r.1 ∧ Ext O O' w w'

set_option maxRecDepth 100000 in
set_option maxHeartbeats 1600000 in
theorem sum1_new (b : Nat) (Os O : Nat → Prop) (s : BS) (bS bV : Nat) (bits : List Int) (c x y : Int) (w : World) (hk : bits.length ≤ 1000000) (h : SumStS w b Os s O bS bV bits) :
    Calls Try.prog 145 #[.int .i64 c, .agg #[.int .i64 x, .int .i64 y], .pointer (some ⟨bS, 0, none⟩), .pointer (some ⟨bV, 0, none⟩)] w fun e w' => e = .returned (.int .i64 (carryS s c x y).2) ∧
      ∃ Os' O', SumStS w' b Os' (carryS s c x y).1 O' bS bV (bits ++ [(bitS s c x y).2]) ∧ Ext (fun j => Os j ∨ O j) (fun j => Os' j ∨ O' j) w w' ∧ ∀ j, O' j → O j ∨ w.heap.size ≤ j := by
  obtain ⟨i0, hi, hz0, hz1, hz2⟩ := info_parts Try.infoInt
  have HS := Lib.hid h
  obtain ⟨vv, h5, h6, h7, h8⟩ := h.vec
  obtain ⟨pv, cv, rfl, -⟩ := own_shape h6
  have h1 := h.cS
  have hlS := (cell_there h1).1
  have hlV := (cell_there h5).1
  have H1 : Hid (∀ W, Below w.heap.size w W → Calls Try.prog 84 #[.pointer (some ⟨b, 0, none⟩), .int .i64 x, .int .i64 y] W (RetS b Os W (oneS s x y))) := fun W hW => xor_sto b Os s x y W (h.sto.below hW)
  have H2 : Hid (∀ Os' W, Sto W b Os' (oneS s x y).1 → Calls Try.prog 84 #[.pointer (some ⟨b, 0, none⟩), .int .i64 (oneS s x y).2, .int .i64 c] W (RetS b Os' W (bitS s c x y))) := fun Os' W hW => xor_sto b Os' _ _ _ W hW
  have H3 : Hid (∀ Os' W, Sto W b Os' (bitS s c x y).1 → Calls Try.prog 82 #[.pointer (some ⟨b, 0, none⟩), .int .i64 x, .int .i64 y] W (RetS b Os' W (bothS s c x y))) := fun Os' W hW => and_sto b Os' _ _ _ W hW
  have H4 : Hid (∀ Os' W, Sto W b Os' (bothS s c x y).1 → Calls Try.prog 82 #[.pointer (some ⟨b, 0, none⟩), .int .i64 c, .int .i64 (oneS s x y).2] W (RetS b Os' W (otherS s c x y))) := fun Os' W hW => and_sto b Os' _ _ _ W hW
  have H5 : Hid (∀ Os' W, Sto W b Os' (otherS s c x y).1 → Calls Try.prog 83 #[.pointer (some ⟨b, 0, none⟩), .int .i64 (bothS s c x y).2, .int .i64 (otherS s c x y).2] W (RetS b Os' W (carryS s c x y))) := fun Os' W hW => or_sto b Os' _ _ _ W hW
  generalize carryS s c x y = r5 at *
  generalize otherS s c x y = r4 at *
  generalize bothS s c x y = r3 at *
  generalize bitS s c x y = r2 at *
  generalize oneS s x y = r1 at *
  obtain ⟨s1, i1⟩ := r1
  obtain ⟨s2, i2⟩ := r2
  obtain ⟨s3, i3⟩ := r3
  obtain ⟨s4, i4⟩ := r4
  obtain ⟨s5, i5⟩ := r5
  dsimp only at H1 H2 H3 H4 H5 ⊢
  clear h h6 h7 h8
  go_enter Try.func145, Try.ntmps145
  go_wp2_with fail
  refine (H1.out _ (by repeat (first | exact Below.refl _ _ | assumption | refine Below.drew ?_ | refine Below.alloc ?_ (by first | omega | (simp <;> omega)) _ | refine Below.setCell ?_ (by first | omega | (simp <;> omega)) _ | refine Below.trans ?_ (Below.mono (by assumption) (by first | omega | (simp <;> omega)))))).mono ?_
  rintro e w1 ⟨rfl, Os1, hs1, he1⟩
  dsimp only at hs1
  have hbA : Below w.heap.size w (w.alloc (.cells #[.int .i64 x, .int .i64 y] 131)) := (by repeat (first | exact Below.refl _ _ | assumption | refine Below.drew ?_ | refine Below.alloc ?_ (by first | omega | (simp <;> omega)) _ | refine Below.setCell ?_ (by first | omega | (simp <;> omega)) _ | refine Below.trans ?_ (Below.mono (by assumption) (by first | omega | (simp <;> omega)))))
  have hst1 := (HS.out.below hbA).ext hs1 he1
  have hn : ¬ Os w.heap.size := fun hh => by have := HS.out.sto.lt _ hh; omega
  have hnO : ¬ O w.heap.size := fun hh => by have := HS.out.ltO _ hh; omega
  have kx := he1.cell (p := ⟨w.heap.size, 0, none⟩) (by simp) hn
  have x0 : w1.cell? ⟨w.heap.size, 0, none⟩ = some (.int .i64 x) := by rw [kx.1]; simp [go_sem]
  have x1 : w1.cell? ⟨w.heap.size, 1, none⟩ = some (.int .i64 y) := by rw [(he1.cell (p := ⟨w.heap.size, 1, none⟩) (by simp) hn).1]; simp [go_sem]
  have k1 := (HS.out.below hbA).keep he1
  have s1c : w1.cell? ⟨bS, 0, none⟩ = some (.pointer (some ⟨b, 0, none⟩)) := hst1.cS
  have v1 : w1.cell? ⟨bV, 0, none⟩ = some (.slice pv bits.length cv) := k1.2.1.trans ((hbA.cell (p := ⟨bV, 0, none⟩) hlV).trans h5)
  have f1 : w1.frozen? ⟨bV, 0, none⟩ = false := hst1.fV
  have hsz1 : w.heap.size < w1.heap.size := (cell_there x0).1
  have hn1 : ¬ Os1 w.heap.size := kx.2.2
  have HE1 : Hid (Ext (fun j => Os j ∨ O j) (fun j => Os1 j ∨ O j) w w1) := ((Ext.of_below hbA).trans he1).wider
  have HST1 := Lib.hid hst1
  clear hs1 he1 hbA hst1 kx k1 hn h1 h5 H1 HS
  go_wp2_with fail
  go_region_law (first
    | (refine step_append_two rfl (.tmp 16) (.tmp 21) 34 rfl 3 i0 (.int .i64 0) 1 8 Try.underlying34 hi hz0 hz1 hz2 rfl (by decide) _ bits.length _ rfl ((HST2.out.row v2).1.alloc _) ⟨w2.heap.size, 0, none⟩ 1 1 [.int .i64 i2] rfl rfl (cell_one_new _ _ _) (ints_oneCell .i64 [i2]) (by unfold maxLen; omega) (by omega) ?_; intro v' w3 hown3 hgrow3 hwhere; obtain ⟨pv', cv', rfl, hlv⟩ := own_shape hown3; have v3 : w3.cell? ⟨bV, 0, none⟩ = some (.slice pv bits.length cv) := hgrow3.cell (a := ⟨bV, 0, none⟩) ((World.cell?_alloc_lt _ _ _ l2).trans v2) (fun h => (HST2.out.row v2).2.1 h.symm); have f3 : w3.frozen? ⟨bV, 0, none⟩ = false := (World.frozen?_of_block (a := ⟨bV, 0, none⟩) (hgrow3.block bV (by simp; omega) (fun h => (HST2.out.row v2).2.1 h.symm))).trans ((((Below.refl w2.heap.size w2).alloc (Nat.le_refl _) _).frozen (p := ⟨bV, 0, none⟩) l2).trans f2))
    | (go_simp; go_at_call 84; refine (H2.out Os1 _ (HST1.out.sto.below (below_drewN (Below.refl _ _) 1))).mono ?_; rintro e w2 ⟨rfl, Os2, hs2, he2⟩; dsimp only at hs2; have HST2 := Lib.hid ((HST1.out.below (below_drewN (Below.refl _ _) 1)).ext hs2 he2); have v2 : w2.cell? ⟨bV, 0, none⟩ = some (.slice pv bits.length cv) := ((HST1.out.below (below_drewN (Below.refl _ _) 1)).keep he2).2.1.trans v1; have f2 : w2.frozen? ⟨bV, 0, none⟩ = false := HST2.out.fV; have l2 : bV < w2.heap.size := (cell_there v2).1; have y0 : w2.cell? ⟨w.heap.size, 0, none⟩ = some (.int .i64 x) := (he2.cell (p := ⟨w.heap.size, 0, none⟩) hsz1 hn1).1.trans x0; have y1 : w2.cell? ⟨w.heap.size, 1, none⟩ = some (.int .i64 y) := (he2.cell (p := ⟨w.heap.size, 1, none⟩) hsz1 hn1).1.trans x1; have hn2 : ¬ Os2 w.heap.size := (he2.cell (p := ⟨w.heap.size, 0, none⟩) hsz1 hn1).2.2; have HE2 : Hid (Ext (fun j => Os1 j ∨ O j) (fun j => Os2 j ∨ O j) w1 w2) := ((Ext.of_below (below_drewN (Below.refl _ _) 1)).trans he2).wider; clear hs2 he2))
  all_goals
    have HP := Lib.hid (sumstS_push HST2.out v2 ((Below.refl w2.heap.size w2).alloc (Nat.le_refl _) _) hgrow3 hwhere hown3 ⟨_, v3⟩ f3)
    have hwr : some w.heap.size ≠ (Value.slice pv bits.length cv).ownBlock := fun h => hnO (((HST2.out.row v2).2.2 _).2 (.inr h.symm))
    have hVw : ¬ bV = w.heap.size := fun h => hnO (h ▸ HST2.out.nV.2)
    have z0 : w3.cell? ⟨w.heap.size, 0, none⟩ = some (.int .i64 x) := hgrow3.cell (a := ⟨w.heap.size, 0, none⟩) ((World.cell?_alloc_lt w2 _ ⟨w.heap.size, 0, none⟩ (cell_there y0).1).trans y0) hwr
    have z1 : w3.cell? ⟨w.heap.size, 1, none⟩ = some (.int .i64 y) := hgrow3.cell (a := ⟨w.heap.size, 1, none⟩) ((World.cell?_alloc_lt w2 _ ⟨w.heap.size, 1, none⟩ (cell_there y0).1).trans y1) hwr
    have g0 : (w3.setCell ⟨bV, 0, none⟩ (.slice pv' (bits.length + 1) cv')).cell? ⟨w.heap.size, 0, none⟩ = some (.int .i64 x) := (World.cell?_setCell_other _ _ _ _ (by simp [hVw])).trans z0
    have g1 : (w3.setCell ⟨bV, 0, none⟩ (.slice pv' (bits.length + 1) cv')).cell? ⟨w.heap.size, 1, none⟩ = some (.int .i64 y) := (World.cell?_setCell_other _ _ _ _ (by simp [hVw])).trans z1
    clear hgrow3 hwhere hown3 v3 f3 y0 y1 z0 z1 hwr v2 f2 l2 v1 f1 s1c x0 x1
    generalize w3.setCell ⟨bV, 0, none⟩ (.slice pv' (bits.length + 1) cv') = Y at *
    obtain ⟨O', hst, hext⟩ := HP.out
    have HFR : Hid (∀ j, O' j → O j ∨ w.heap.size ≤ j) := fun j hj => by
      have z1 := HE1.out.1.size
      have z2 := HE2.out.1.size
      rcases hext.2 j (.inr hj) with (q | q) | q
      · exact absurd hj (hst.apart j q)
      · exact .inl q
      · exact .inr (by omega)
    have HST := Lib.hid hst
    have HEX := Lib.hid hext
    have s3c := hst.cS
    have hlY := (cell_there g0).1
    clear hst hext HP
    go_wp2_with fail
    refine (H3.out Os2 _ HST.out.sto).mono ?_
    rintro e w5 ⟨rfl, Os3, hs3, he3⟩
    dsimp only at hs3
    have hst3 := HST.out.ext hs3 he3
    have s5c : w5.cell? ⟨bS, 0, none⟩ = some (.pointer (some ⟨b, 0, none⟩)) := hst3.cS
    have HST3 := Lib.hid hst3
    have HE3 := Lib.hid he3
    clear hst3 hs3 he3
    go_wp2_with fail
    refine (H4.out Os3 _ HST3.out.sto).mono ?_
    rintro e w6 ⟨rfl, Os4, hs4, he4⟩
    dsimp only at hs4
    have hst4 := HST3.out.ext hs4 he4
    have s6c : w6.cell? ⟨bS, 0, none⟩ = some (.pointer (some ⟨b, 0, none⟩)) := hst4.cS
    have HST4 := Lib.hid hst4
    have HE4 := Lib.hid he4
    clear hst4 hs4 he4
    go_wp2_with fail
    refine (H5.out Os4 _ HST4.out.sto).mono ?_
    rintro e w7 ⟨rfl, Os5, hs5, he5⟩
    dsimp only at hs5
    have HST5 := Lib.hid (HST4.out.ext hs5 he5)
    have HE5 := Lib.hid he5
    clear hs5 he5
    go_wp2_with fail
    go_ret
    exact ⟨rfl, Os5, O', HST5.out, HE1.out.trans (HE2.out.trans (HEX.out.trans (HE3.out.wider.trans (HE4.out.wider.trans HE5.out.wider)))), HFR.out⟩

set_option maxRecDepth 100000 in
set_option maxHeartbeats 1600000 in
theorem sum_new (b : Nat) (Os : Nat → Prop) (s : BS) (va vb : Value) (xs ys : List Int) (c : Int) (w : World) (hs : Sto w b Os s) (ha : IVec w va xs) (hb : IVec w vb ys) (hxl : xs.length ≤ 1000000) (hyl : ys.length ≤ 1000000) :
    Calls Try.prog 108 #[.pointer (some ⟨b, 0, none⟩), va, vb, .int .i64 c] w (RetVF b Os w ((sumA xs ys c s (max xs.length ys.length)).1, (sumA xs ys c s (max xs.length ys.length)).2.2)) := by
  have HD := Lib.hid hs
  have HA := Lib.hid ha
  have HB := Lib.hid hb
  clear hs ha hb
  obtain ⟨M, hM⟩ : ∃ M, M = max xs.length ys.length := ⟨_, rfl⟩
  have hMm : M ≤ 1000000 := by omega
  rw [← hM]
  have HMM := Lib.hid hM
  clear hM
  obtain ⟨st, hst⟩ : ∃ st, st = sumA xs ys c s := ⟨_, rfl⟩
  rw [← hst]
  have HST0 := Lib.hid hst
  clear hst
  have hmf := run_makeFunc
  go_enter Try.func108, Try.ntmps108
  go_wp2_with fail
  obtain ⟨A, hA⟩ : ∃ A, A = ((w.alloc (.cells #[.pointer (some ⟨b, 0, none⟩)] 23)).alloc (.cells #[] 3)).alloc (.cells #[.slice (some ⟨w.heap.size + 1, 0, none⟩) 0 0] 34) := ⟨_, rfl⟩
  have hBA : Below w.heap.size w A := by rw [hA]; exact (by repeat (first | exact Below.refl _ _ | assumption | refine Below.drew ?_ | refine Below.alloc ?_ (by first | omega | (simp <;> omega)) _ | refine Below.setCell ?_ (by first | omega | (simp <;> omega)) _ | refine Below.trans ?_ (Below.mono (by assumption) (by first | omega | (simp <;> omega)))))
  have hAs : A.heap.size = w.heap.size + 3 := by rw [hA]; simp
  have a0 : A.cell? ⟨w.heap.size, 0, none⟩ = some (.pointer (some ⟨b, 0, none⟩)) := by rw [hA]; simp [go_sem]
  have aV : A.cell? ⟨w.heap.size + 1 + 1, 0, none⟩ = some (.slice (some ⟨w.heap.size + 1, 0, none⟩) 0 0) := by rw [hA]; simp [go_sem]
  have aF : A.frozen? ⟨w.heap.size + 1 + 1, 0, none⟩ = false := by rw [hA]; simp [go_sem]
  have aO : A.heap[w.heap.size + 1]? = some (.cells #[] 3 (0, 0)) := by
    rw [hA, Below.heap_alloc _ _ _ (by simp)]
    show ((w.heap.push (.cells #[.pointer (some ⟨b, 0, none⟩)] 23)).push (.cells #[] 3))[w.heap.size + 1]? = _
    rw [Array.getElem?_push]
    simp
  let O : Nat → Prop := fun j => j = w.heap.size + 1 + 1 ∨ (Value.slice (some ⟨w.heap.size + 1, 0, none⟩) 0 0).ownBlock = some j
  have hOlo : ∀ j, O j → w.heap.size < j ∧ j < A.heap.size := by
    rintro j (h | h)
    · omega
    · simp [Value.ownBlock] at h; omega
  have hlt := HD.out.lt
  have hST : SumStS A b Os s O w.heap.size (w.heap.size + 1 + 1) [] :=
    ⟨HD.out.below hBA, a0, fun h => by have := hOlo _ h; omega, fun h => by have := hlt _ h; omega, aF, ⟨_, aV, ⟨rfl, .inr ⟨w.heap.size + 1, 0, #[], rfl, Nat.zero_le _, aO, Nat.le_refl _, Nat.zero_le _, rfl, rfl⟩⟩, by simp [Value.ownBlock], fun j => Iff.rfl⟩, fun j hj hO => by have := hlt j hj; have := hOlo j hO; omega⟩
  have hOA : ∀ k, (Os k ∨ O k) → k < A.heap.size := fun k hk => by
    rcases hk with hk | hk
    · have := hlt k hk; omega
    · exact (hOlo k hk).2
  have HST := Lib.hid hST
  have HOL : Hid (∀ j, O j → w.heap.size < j ∧ j < A.heap.size) := hOlo
  have hp := pairs_any (fun j => Os j ∨ O j) va vb xs ys A hOA (HA.out.below hBA) (HB.out.below hBA) hxl hyl
  rw [← HMM.out] at hp
  have HP := Lib.hid hp
  have HBA := Lib.hid hBA
  rw [← hA]
  clear hST hOlo aO aF aV a0 hAs hA hOA hp hBA hlt
  clear_value O
  refine HP.out.mono ?_
  rintro e w1 ⟨v, rfl, hv, hb1⟩
  have HV := Lib.hid hv
  have HB1 := Lib.hid hb1
  clear hv hb1 HP
  have hF : Calls Try.prog 110 #[v, .int .i64 c, .func (.func 145) #[] #[.pointer (some ⟨w.heap.size, 0, none⟩), .pointer (some ⟨w.heap.size + 1 + 1, 0, none⟩)]] w1
      (RetJ fun _ W => ∃ Os' O', PVecX W (fun j => Os' j ∨ O' j) v M (pairAt xs ys) ∧ SumStS W b Os' (st M).1 O' w.heap.size (w.heap.size + 1 + 1) (st M).2.2 ∧ Ext (fun j => Os j ∨ O j) (fun j => Os' j ∨ O' j) w1 W ∧ ∀ j, O' j → w.heap.size ≤ j) := by
    have e0 : st 0 = (s, c, []) := by rw [HST0.out]; rfl
    refine (fold_bits 145 #[] _ v M (pairAt xs ys) (fun k t W => t = (st k).2.1 ∧ ∃ Os' O', PVecX W (fun j => Os' j ∨ O' j) v M (pairAt xs ys) ∧ SumStS W b Os' (st k).1 O' w.heap.size (w.heap.size + 1 + 1) (st k).2.2 ∧ Ext (fun j => Os j ∨ O j) (fun j => Os' j ∨ O' j) w1 W ∧ ∀ j, O' j → w.heap.size ≤ j) c w1 (by omega) ⟨by rw [e0], Os, O, HV.out, by rw [e0]; exact HST.out.below HB1.out, Ext.refl _ _, fun j hj => Nat.le_of_lt (HOL.out j hj).1⟩ ?_ ?_ call_sum1 ?_).mono ?_
    · rintro k t W ⟨-, Os', O', h1, -⟩
      exact h1.pvec
    · rintro k t W W' ⟨h0, Os', O', h1, h2, h3, h3n⟩ hb
      exact ⟨h0, Os', O', h1.ext (Ext.of_below hb), h2.below hb, h3.trans (Ext.of_below hb), h3n⟩
    · rintro k hk t W ⟨rfl, Os', O', h1, h2, h3, h3n⟩
      have hl : (st k).2.2.length = k := by rw [HST0.out]; exact sumA_len _ _ _ _ _
      have e1 : st (k + 1) = ((carryS (st k).1 (st k).2.1 (xs.getD k 0) (ys.getD k 0)).1, (carryS (st k).1 (st k).2.1 (xs.getD k 0) (ys.getD k 0)).2, (st k).2.2 ++ [(bitS (st k).1 (st k).2.1 (xs.getD k 0) (ys.getD k 0)).2]) := by rw [HST0.out]; rfl
      refine (sum1_new b Os' O' (st k).1 w.heap.size (w.heap.size + 1 + 1) (st k).2.2 (st k).2.1 (xs.getD k 0) (ys.getD k 0) W (by omega) h2).mono fun e w' ⟨he, Os'', O'', h4, h5, h5n⟩ => ⟨_, he, ?_, Os'', O'', h1.ext h5, ?_, h3.trans h5, fun j hj => by
        rcases h5n j hj with q | q
        · exact h3n j q
        · exact Nat.le_trans (Nat.le_trans (Nat.le_trans HBA.out.size HB1.out.size) h3.1.size) q⟩
      · rw [e1]
      · rw [e1]; exact h4
    · rintro e w' ⟨r, hr, -, h⟩
      exact ⟨r, hr, h⟩
  have HF := Lib.hid hF
  clear hF
  go_wp2_with fail
  refine HF.out.mono ?_
  rintro e w2 ⟨r, rfl, Os2, O2, h1, h2, h3, h3n⟩
  obtain ⟨vv, q5, q6, -⟩ := h2.vec
  obtain ⟨pv, cv, rfl, -⟩ := own_shape q6
  have HV2 : Hid (IVecF w w2 Os2 (.slice pv (st M).2.2.length cv) (st M).2.2) := ⟨h2.ret q5, fun k hk _ => h3n k (((h2.row q5).2.2 k).2 (.inr hk))⟩
  have HS2 := Lib.hid h2.sto
  have HE2 : Hid (Ext Os Os2 w w2) := by
    have g := ((HBA.out.trans (HB1.out.mono HBA.out.size)))
    refine ⟨⟨h3.1.os.trans g.os, h3.1.tape.trans g.tape, h3.1.output.trans g.output, Nat.le_trans g.size h3.1.size, fun k hk hO => (h3.1.block k (Nat.lt_of_lt_of_le hk g.size) fun hh => ?_).trans (g.block k hk)⟩, fun k hk => ?_⟩
    · rcases hh with hh | hh
      · exact hO hh
      · have := HOL.out k hh; omega
    · rcases h3.2 k (.inl hk) with (q | q) | q
      · exact .inl q
      · exact .inr (Nat.le_of_lt (HOL.out k q).1)
      · exact .inr (Nat.le_trans g.size q)
  clear h1 h2 h3 h3n q6 HF HST HV
  go_wp2_with fail
  go_ret
  exact ⟨_, Os2, rfl, HV2.out, HS2.out, HE2.out⟩

set_option maxRecDepth 100000 in
set_option maxHeartbeats 400000 in
theorem add_new (b : Nat) (O : Nat → Prop) (s : BS) (va vb : Value) (xs ys : List Int) (w : World) (hs : Sto w b O s) (ha : IVec w va xs) (hb : IVec w vb ys) (hxl : xs.length ≤ 1000000) (hyl : ys.length ≤ 1000000) :
    Calls Try.prog 48 #[.pointer (some ⟨b, 0, none⟩), va, vb] w (RetVF b O w ((sumA xs ys 0 s (max xs.length ys.length)).1, (sumA xs ys 0 s (max xs.length ys.length)).2.2)) := by
  have HS := Lib.hid (sum_new b O s va vb xs ys 0 w hs ha hb hxl hyl)
  clear hs ha hb
  go_enter Try.func48, Try.ntmps48
  go_wp2_with fail
  refine HS.out.mono ?_
  rintro e w1 ⟨v, O1, rfl, hv⟩
  have H := Lib.hid hv
  clear hv
  go_wp2_with fail
  go_ret
  exact ⟨_, O1, rfl, H.out⟩

set_option maxRecDepth 100000 in
set_option maxHeartbeats 800000 in
theorem sub_new (b : Nat) (O : Nat → Prop) (s : BS) (va vb : Value) (xs ys : List Int) (w : World) (hs : Sto w b O s) (ha : IVecX w O va xs) (hb : IVec w vb ys) (hxl : xs.length ≤ 1000000) (hyl : ys.length ≤ 1000000) :
    Calls Try.prog 49 #[.pointer (some ⟨b, 0, none⟩), va, vb] w (RetVF b O w (subS xs ys s)) := by
  obtain ⟨i0, hi, hz0, hz1, hz2⟩ := info_parts Try.infoInt
  have HD := Lib.hid hs
  have HA := Lib.hid ha
  have HB := Lib.hid hb
  have hWL := wideL_len xs ys
  have HN0 : Hid (∀ W, Sto W b O s → ∀ v, IVecX W O v (wideL xs ys) → Calls Try.prog 23 #[.pointer (some ⟨b, 0, none⟩), v] W (RetVS b O W (notW xs ys s))) := fun W h v hv => by
    have := symbvNot_sto b O s v (wideL xs ys) W h hv (by rw [hWL]; omega)
    rw [hWL] at this
    exact this
  have HSM : Hid (∀ O' W v2, IVec W va xs → Sto W b O' (notW xs ys s).1 → IVec W v2 (notW xs ys s).2 → Calls Try.prog 108 #[.pointer (some ⟨b, 0, none⟩), va, v2, .int .i64 1] W (RetVF b O' W (subS xs ys s))) := fun O' W v2 h1 h2 h3 => by
    have hl : (notW xs ys s).2.length = max xs.length ys.length := mapS_len _ _ _ _
    have := sum_new b O' _ va v2 xs (notW xs ys s).2 1 W h2 h1 h3 hxl (by rw [hl]; omega)
    rw [hl, show max xs.length (max xs.length ys.length) = max xs.length ys.length by omega] at this
    exact this
  have HW : Hid (wideL xs ys = ys ++ List.replicate (max xs.length ys.length - ys.length) 0) := rfl
  generalize subS xs ys s = r2 at *
  generalize notW xs ys s = r1 at *
  generalize wideL xs ys = wl at *
  obtain ⟨M, hM⟩ : ∃ M, M = max xs.length ys.length := ⟨_, rfl⟩
  have hMx : xs.length ≤ M := by omega
  have hMy : ys.length ≤ M := by omega
  have hMm : M ≤ 1000000 := by omega
  have hMo : M ≤ xs.length ∨ M ≤ ys.length := by omega
  rw [← hM] at hWL HW
  have HWL := Lib.hid hWL
  clear hWL hM
  obtain ⟨pa, ca, rfl, ha3, ha4, -⟩ := ha.1.shape
  obtain ⟨pb, cb, rfl, hb3, hb4, hb5⟩ := hb.shape
  have HB5 := Lib.hid hb5
  clear hs ha hb hb5
  have hsz : (Try.prog.info? 3).map (·.size) = some 1 := by rw [hi]; simp [hz1]
  go_enter Try.func49, Try.ntmps49
  go_wp2_with (first
    | (at_make; refine wpList_make_full _ rfl _ _ 34 rfl w.heap.size 3 i0 (.int .i64 0) 1 Try.underlying34 hi hz0 hz1 .i64 .i64 _ _ M rfl rfl (by omega) (by omega) (by rw [hz2]; omega) (by unfold maxLen; omega) (Nat.le_refl _) ?_; intro w0 hown0 hgrow0; rw [toList_madeCells_zero] at hown0; have hb0 : Below w.heap.size w w0 := (Below.refl _ _).grown hgrow0 (Nat.le_refl _) (fun k h => by cases h); have hh := own_heap hown0)
    | (with_reducible refine wpList_copy_splice rfl (.tmp 16) (.tmp 17) 34 34 rfl 3 Try.underlying34 hsz _ _ M M ys.length cb rfl rfl w.heap.size 0 _ 3 hh (ys.map (Value.int .i64)) (by rw [List.length_map]; exact (Nat.min_eq_left hMy).symm) (fun h0 => ⟨rfl, copy_src (HB.out.below hb0) (by simpa using h0)⟩) (by simp; omega) (ints_oneCell .i64 ys) w.heap.size w hb0 (Nat.le_refl _) ?_; intro w2 hh2 hb2))
  all_goals
    have HI : Hid (IVecX w2 O (.slice (some ⟨w.heap.size, 0, none⟩) M M) wl) := by
      refine ⟨?_, fun k hk _ hO => ?_, NilOk.some _ _ _⟩
      · have := IVec.of_heap (w := w2) (g := w.heap.size) (n := M) (t := 3) (zs := ys ++ List.replicate (M - ys.length) 0) (by simp; omega) (by unfold maxLen; omega) (by rw [hh2.out, splice_zero])
        rw [← HW.out] at this
        exact this
      · cases hk; exact Nat.lt_irrefl _ (HD.out.lt _ hO)
    have HN := Lib.hid (HN0.out w2 (HD.out.below hb2) _ HI.out)
    have HB2 := Lib.hid hb2
    clear hh2 hb2 hh hb0 hown0 hgrow0
    refine HN.out.mono ?_
    rintro e w3 ⟨v3, O3, rfl, hv3, hs3, he3⟩
    have HE3 : Hid (Ext O O3 w w3) := (Ext.of_below HB2.out).trans he3
    have HS := Lib.hid (HSM.out O3 w3 v3 (HA.out.ext HE3.out).1 hs3 hv3.1)
    clear hv3 hs3 he3
    go_wp2_with fail
    refine HS.out.mono ?_
    rintro e w4 ⟨v4, O4, rfl, hv4, hs4, he4⟩
    have HF : Hid (IVecF w w4 O4 v4 r2.2 ∧ Sto w4 b O4 r2.1 ∧ Ext O O4 w w4) := ⟨hv4.sooner HE3.out.1.size, hs4, HE3.out.trans he4⟩
    clear hv4 hs4 he4
    go_wp2_with fail
    go_ret
    exact ⟨_, O4, rfl, HF.out⟩

set_option maxRecDepth 100000 in
set_option maxHeartbeats 400000 in
theorem neg_new (b : Nat) (O : Nat → Prop) (s : BS) (va : Value) (xs : List Int) (w : World) (hs : Sto w b O s) (ha : IVec w va xs) (hxl : xs.length ≤ 1000000) :
    Calls Try.prog 50 #[.pointer (some ⟨b, 0, none⟩), va] w (RetVF b O w (subS [] xs s)) := by
  have HS := Lib.hid (sub_new b O s (.slice none 0 0) va [] xs w hs ⟨IVec.nil w, (fun k hk _ => by cases hk), NilOk.nil⟩ ha (by simp) hxl)
  clear hs ha
  go_enter Try.func50, Try.ntmps50
  go_wp2_with fail
  refine HS.out.mono ?_
  rintro e w1 ⟨v, O1, rfl, hv⟩
  have H := Lib.hid hv
  clear hv
  go_wp2_with fail
  go_ret
  exact ⟨_, O1, rfl, H.out⟩

end Go.Proofs.Ytlnkflmnjkmhkaa
