/-
  Lemmas, joined: SumS2, RefS, RefS2, SymopD3.
-/
import Derived.Test.YtlnkflmnjkmhkaaJR11
import Derived.Test.YtlnkflmnjkmhkaaJR08
import Derived.Deep.RegionHeld3
/-
  Contract of symop.sum at a store that is there, by its plain law.
-/
namespace Go.Proofs.Ytlnkflmnjkmhkaa
open Go.RowKit Go.Maps

/-- A sum, bit by bit: the store, what is carried, the bits. -/
def sumA (xs ys : List Int) (c0 : Int) (s : BS) : Nat → BS × Int × List Int
  | 0 => (s, c0, [])
  | n + 1 => ((carryS (sumA xs ys c0 s n).1 (sumA xs ys c0 s n).2.1 (xs.getD n 0) (ys.getD n 0)).1, (carryS (sumA xs ys c0 s n).1 (sumA xs ys c0 s n).2.1 (xs.getD n 0) (ys.getD n 0)).2,
      (sumA xs ys c0 s n).2.2 ++ [(bitS (sumA xs ys c0 s n).1 (sumA xs ys c0 s n).2.1 (xs.getD n 0) (ys.getD n 0)).2])
theorem sumA_len (xs ys : List Int) (c0 : Int) (s : BS) (n : Nat) : (sumA xs ys c0 s n).2.2.length = n := by
  induction n with
  | zero => rfl
  | succ n ih => simp [sumA, ih]

theorem own_nilOk {w : World} {base e size n : Nat} {v : Value} {xs : List Value} (h : w.ownsRow base e size v n xs) : NilOk v := by
  obtain ⟨hl, ⟨h1, h2⟩ | ⟨g, cap, cur, h1, -⟩⟩ := h
  · rw [h1]; exact NilOk.nil
  · rw [h1]; exact NilOk.some _ _ _

theorem SumStS.ret {w : World} {b : Nat} {Os : Nat → Prop} {s : BS} {O : Nat → Prop} {bS bV : Nat} {bits : List Int} {vv : Value} (h : SumStS w b Os s O bS bV bits) (hv : w.cell? ⟨bV, 0, none⟩ = some vv) : IVecX w Os vv bits := by
  obtain ⟨h7, h8, h9⟩ := h.row hv
  exact ⟨IVec.of_owns rfl h7, fun k hk _ hO => h.apart k hO ((h9 k).2 (.inr hk)), own_nilOk h7⟩

set_option maxRecDepth 100000 in
set_option maxHeartbeats 1600000 in
theorem sum_sto (b : Nat) (Os : Nat → Prop) (s : BS) (va vb : Value) (xs ys : List Int) (c : Int) (w : World) (hs : Sto w b Os s) (ha : IVec w va xs) (hb : IVec w vb ys) (hxl : xs.length ≤ 1000000) (hyl : ys.length ≤ 1000000) :
    Calls Try.prog 108 #[.pointer (some ⟨b, 0, none⟩), va, vb, .int .i64 c] w (RetVS b Os w ((sumA xs ys c s (max xs.length ys.length)).1, (sumA xs ys c s (max xs.length ys.length)).2.2)) := by
  have HD := Lib.hid hs
  have HA := Lib.hid ha
  have HB := Lib.hid hb
  clear hs ha hb
  obtain ⟨M, hM⟩ : ∃ M, M = max xs.length ys.length := ⟨_, rfl⟩
  have hMm : M ≤ 1000000 := by omega
  rw [← hM]
  have HMM := Lib.hid hM
  clear hM
  obtain ⟨st, hst⟩ : ∃ st, st = sumA xs ys c s := ⟨_, rfl⟩
  rw [← hst]
  have HST0 := Lib.hid hst
  clear hst
  have hmf := run_makeFunc
  go_enter Try.func108, Try.ntmps108
  go_wp2_with fail
  obtain ⟨A, hA⟩ : ∃ A, A = ((w.alloc (.cells #[.pointer (some ⟨b, 0, none⟩)] 23)).alloc (.cells #[] 3)).alloc (.cells #[.slice (some ⟨w.heap.size + 1, 0, none⟩) 0 0] 34) := ⟨_, rfl⟩
  have hBA : Below w.heap.size w A := by rw [hA]; exact (by repeat (first | exact Below.refl _ _ | assumption | refine Below.drew ?_ | refine Below.alloc ?_ (by first | omega | (simp <;> omega)) _ | refine Below.setCell ?_ (by first | omega | (simp <;> omega)) _ | refine Below.trans ?_ (Below.mono (by assumption) (by first | omega | (simp <;> omega)))))
  have hAs : A.heap.size = w.heap.size + 3 := by rw [hA]; simp
  have a0 : A.cell? ⟨w.heap.size, 0, none⟩ = some (.pointer (some ⟨b, 0, none⟩)) := by rw [hA]; simp [go_sem]
  have aV : A.cell? ⟨w.heap.size + 1 + 1, 0, none⟩ = some (.slice (some ⟨w.heap.size + 1, 0, none⟩) 0 0) := by rw [hA]; simp [go_sem]
  have aF : A.frozen? ⟨w.heap.size + 1 + 1, 0, none⟩ = false := by rw [hA]; simp [go_sem]
  have aO : A.heap[w.heap.size + 1]? = some (.cells #[] 3 (0, 0)) := by
    rw [hA, Below.heap_alloc _ _ _ (by simp)]
    show ((w.heap.push (.cells #[.pointer (some ⟨b, 0, none⟩)] 23)).push (.cells #[] 3))[w.heap.size + 1]? = _
    rw [Array.getElem?_push]
    simp
  let O : Nat → Prop := fun j => j = w.heap.size + 1 + 1 ∨ (Value.slice (some ⟨w.heap.size + 1, 0, none⟩) 0 0).ownBlock = some j
  have hOlo : ∀ j, O j → w.heap.size < j ∧ j < A.heap.size := by
    rintro j (h | h)
    · omega
    · simp [Value.ownBlock] at h; omega
  have hlt := HD.out.lt
  have hST : SumStS A b Os s O w.heap.size (w.heap.size + 1 + 1) [] :=
    ⟨HD.out.below hBA, a0, fun h => by have := hOlo _ h; omega, fun h => by have := hlt _ h; omega, aF, ⟨_, aV, ⟨rfl, .inr ⟨w.heap.size + 1, 0, #[], rfl, Nat.zero_le _, aO, Nat.le_refl _, Nat.zero_le _, rfl, rfl⟩⟩, by simp [Value.ownBlock], fun j => Iff.rfl⟩, fun j hj hO => by have := hlt j hj; have := hOlo j hO; omega⟩
  have hOA : ∀ k, (Os k ∨ O k) → k < A.heap.size := fun k hk => by
    rcases hk with hk | hk
    · have := hlt k hk; omega
    · exact (hOlo k hk).2
  have HST := Lib.hid hST
  have HOL : Hid (∀ j, O j → w.heap.size < j ∧ j < A.heap.size) := hOlo
  have hp := pairs_any (fun j => Os j ∨ O j) va vb xs ys A hOA (HA.out.below hBA) (HB.out.below hBA) hxl hyl
  rw [← HMM.out] at hp
  have HP := Lib.hid hp
  have HBA := Lib.hid hBA
  rw [← hA]
  clear hST hOlo aO aF aV a0 hAs hA hOA hp hBA hlt
  clear_value O
  refine HP.out.mono ?_
  rintro e w1 ⟨v, rfl, hv, hb1⟩
  have HV := Lib.hid hv
  have HB1 := Lib.hid hb1
  clear hv hb1 HP
  have hF : Calls Try.prog 110 #[v, .int .i64 c, .func (.func 145) #[] #[.pointer (some ⟨w.heap.size, 0, none⟩), .pointer (some ⟨w.heap.size + 1 + 1, 0, none⟩)]] w1
      (RetJ fun _ W => ∃ Os' O', PVecX W (fun j => Os' j ∨ O' j) v M (pairAt xs ys) ∧ SumStS W b Os' (st M).1 O' w.heap.size (w.heap.size + 1 + 1) (st M).2.2 ∧ Ext (fun j => Os j ∨ O j) (fun j => Os' j ∨ O' j) w1 W) := by
    have e0 : st 0 = (s, c, []) := by rw [HST0.out]; rfl
    refine (fold_bits 145 #[] _ v M (pairAt xs ys) (fun k t W => t = (st k).2.1 ∧ ∃ Os' O', PVecX W (fun j => Os' j ∨ O' j) v M (pairAt xs ys) ∧ SumStS W b Os' (st k).1 O' w.heap.size (w.heap.size + 1 + 1) (st k).2.2 ∧ Ext (fun j => Os j ∨ O j) (fun j => Os' j ∨ O' j) w1 W) c w1 (by omega) ⟨by rw [e0], Os, O, HV.out, by rw [e0]; exact HST.out.below HB1.out, Ext.refl _ _⟩ ?_ ?_ call_sum1 ?_).mono ?_
    · rintro k t W ⟨-, Os', O', h1, -⟩
      exact h1.pvec
    · rintro k t W W' ⟨h0, Os', O', h1, h2, h3⟩ hb
      exact ⟨h0, Os', O', h1.ext (Ext.of_below hb), h2.below hb, h3.trans (Ext.of_below hb)⟩
    · rintro k hk t W ⟨rfl, Os', O', h1, h2, h3⟩
      have hl : (st k).2.2.length = k := by rw [HST0.out]; exact sumA_len _ _ _ _ _
      have e1 : st (k + 1) = ((carryS (st k).1 (st k).2.1 (xs.getD k 0) (ys.getD k 0)).1, (carryS (st k).1 (st k).2.1 (xs.getD k 0) (ys.getD k 0)).2, (st k).2.2 ++ [(bitS (st k).1 (st k).2.1 (xs.getD k 0) (ys.getD k 0)).2]) := by rw [HST0.out]; rfl
      refine (sum1_sto b Os' O' (st k).1 w.heap.size (w.heap.size + 1 + 1) (st k).2.2 (st k).2.1 (xs.getD k 0) (ys.getD k 0) W (by omega) h2).mono fun e w' ⟨he, Os'', O'', h4, h5⟩ => ⟨_, he, ?_, Os'', O'', h1.ext h5, ?_, h3.trans h5⟩
      · rw [e1]
      · rw [e1]; exact h4
    · rintro e w' ⟨r, hr, -, h⟩
      exact ⟨r, hr, h⟩
  have HF := Lib.hid hF
  clear hF
  go_wp2_with fail
  refine HF.out.mono ?_
  rintro e w2 ⟨r, rfl, Os2, O2, h1, h2, h3⟩
  obtain ⟨vv, q5, q6, -⟩ := h2.vec
  obtain ⟨pv, cv, rfl, -⟩ := own_shape q6
  have HV2 := Lib.hid (h2.ret q5)
  have HS2 := Lib.hid h2.sto
  have HE2 : Hid (Ext Os Os2 w w2) := by
    have g := ((HBA.out.trans (HB1.out.mono HBA.out.size)))
    refine ⟨⟨h3.1.os.trans g.os, h3.1.tape.trans g.tape, h3.1.output.trans g.output, Nat.le_trans g.size h3.1.size, fun k hk hO => (h3.1.block k (Nat.lt_of_lt_of_le hk g.size) fun hh => ?_).trans (g.block k hk)⟩, fun k hk => ?_⟩
    · rcases hh with hh | hh
      · exact hO hh
      · have := HOL.out k hh; omega
    · rcases h3.2 k (.inl hk) with (q | q) | q
      · exact .inl q
      · exact .inr (Nat.le_of_lt (HOL.out k q).1)
      · exact .inr (Nat.le_trans g.size q)
  clear h1 h2 h3 q6 HF HST HV
  go_wp2_with fail
  go_ret
  exact ⟨_, Os2, rfl, HV2.out, HS2.out, HE2.out⟩

end Go.Proofs.Ytlnkflmnjkmhkaa

/-
  Contracts of the reference's vectors (ref17, ref18): Bit, wide, sum.
-/
namespace Go.Proofs.Ytlnkflmnjkmhkaa
open Go.RowKit Go.Maps

set_option maxRecDepth 100000 in
set_option maxHeartbeats 400000 in
theorem bit17_any (va : Value) (xs : List Int) (i : Nat) (w : World) (ha : IVec w va xs) (hxl : xs.length ≤ 1000000) (hi : i ≤ 1000000) :
    Calls Try.prog 95 #[va, .int .i64 (i : Int)] w fun e w' => e = .returned (.int .i64 (xs.getD i 0)) ∧ w = w' := by
  obtain ⟨pa, ca, rfl, ha3, ha4, ha5⟩ := ha.shape
  clear ha
  by_cases h : i < xs.length
  · obtain ⟨ba, oa, rfl, ha2, ha6⟩ := ha5 (by omega)
    have g := ha6 i h
    clear ha5 ha6
    generalize xs.getD i 0 = z at *
    go_enter Try.func95, Try.ntmps95
    go_wp2
    go_ret
    exact ⟨rfl, rfl⟩
  · have e : xs.getD i 0 = 0 := by rw [List.getD_eq_getElem?_getD, List.getElem?_eq_none (by omega)]; rfl
    rw [e]
    clear ha5 e
    go_enter Try.func95, Try.ntmps95
    go_wp2
    go_ret
    exact ⟨rfl, rfl⟩

set_option maxRecDepth 100000 in
set_option maxHeartbeats 400000 in
theorem wide18_any (va vb : Value) (xs ys : List Int) (w : World) (ha : IVec w va xs) (hb : IVec w vb ys) (hxl : xs.length ≤ 1000000) (hyl : ys.length ≤ 1000000) :
    Calls Try.prog 128 #[va, vb] w fun e w' => e = .returned (.int .i64 ((max xs.length ys.length : Nat) : Int)) ∧ w = w' := by
  obtain ⟨pa, ca, rfl, -⟩ := ha.shape
  obtain ⟨pb, cb, rfl, -⟩ := hb.shape
  clear ha hb
  by_cases h : xs.length < ys.length
  · rw [show max xs.length ys.length = ys.length by omega]
    go_enter Try.func128, Try.ntmps128
    go_wp2
    go_ret
    exact ⟨rfl, rfl⟩
  · rw [show max xs.length ys.length = xs.length by omega]
    go_enter Try.func128, Try.ntmps128
    go_wp2
    go_ret
    exact ⟨rfl, rfl⟩

/-- A store of the reference's, and a row of the call's own beside it. -/
def RowAt (b : Nat) (O : Nat → Prop) (w : World) (s : BS) (zs : List Int) (v : Value) (wr : World) : Prop :=
  ∃ O', RSto wr b O' s ∧ Ext O O' w wr ∧ (∀ g, v.ownBlock = some g → ¬ O' g) ∧ wr.ownsRow w.heap.size 3 1 v zs.length (zs.map (Value.int .i64))

variable {b : Nat} {O O' : Nat → Prop} {w wr w1 w2 : World} {s s1 : BS} {zs : List Int} {v v' : Value}

theorem RowAt.start (h : RSto w b O s) : RowAt b O w s [] (.slice none 0 0) w := ⟨O, h, Ext.refl _ _, (fun g hg => by cases hg), ⟨rfl, .inl ⟨rfl, rfl⟩⟩⟩
theorem RowAt.call (h : RowAt b O w s zs v wr) (hs : ∀ O1, RSto wr b O1 s → Ext O O1 w wr → ToRS b O1 wr s1 w1) : RowAt b O w s1 zs v w1 := by
  obtain ⟨O1, h1, h2, h3, h4⟩ := h
  obtain ⟨O2, h5, h6⟩ := hs O1 h1 h2
  obtain ⟨h7, h8⟩ := own_ext h4 h3 h6
  exact ⟨O2, h5, h2.trans h6, h8, h7⟩
theorem RowAt.below (h : RowAt b O w s zs v wr) (hb : Below wr.heap.size wr w1) : RowAt b O w s zs v w1 := h.call fun O1 h1 _ => ⟨O1, h1.below hb, Ext.of_below hb⟩
theorem RowAt.push {z : Int} {o : Obj} (h : RowAt b O w s zs v w1) (hown : w2.ownsRow w.heap.size 3 1 v' (zs.length + 1) (zs.map (Value.int .i64) ++ [.int .i64 z])) (hg : (w1.alloc o).grownBy w2 v.ownBlock)
    (hwh : v'.ownBlock = v.ownBlock ∨ ∀ k, v'.ownBlock = some k → (w1.alloc o).heap.size ≤ k) : RowAt b O w s (zs ++ [z]) v' w2 := by
  obtain ⟨O1, h1, h2, h3, h4⟩ := h
  have hlt := h1.lt
  refine ⟨O1, h1.kept fun j hj => ?_, (h2.alloc o).grown hg (fun g hg' => ?_), fun g hg' hO => ?_, ?_⟩
  · have hj' := hlt j hj
    rw [hg.block j (by simp; omega) (fun e => h3 j e.symm hj)]
    exact Below.heap_alloc w1 o j hj'
  · exact (h4.lt g hg').1
  · rcases hwh with e | e
    · exact h3 g (e ▸ hg') hO
    · have := e g hg'
      have := hlt g hO
      simp at *
      omega
  · rw [List.length_append, List.map_append]
    exact hown
/-- A vector beside the blocks O, in memory that was not there in the world w. -/
def IVecF (w w' : World) (O : Nat → Prop) (v : Value) (xs : List Int) : Prop := IVecX w' O v xs ∧ ∀ k, v.ownBlock = some k → 0 < xs.length → w.heap.size ≤ k
theorem IVecF.sooner {w0 w w' : World} {O : Nat → Prop} {v : Value} {xs : List Int} (h : IVecF w w' O v xs) (hs : w0.heap.size ≤ w.heap.size) : IVecF w0 w' O v xs := ⟨h.1, fun k hk h0 => Nat.le_trans hs (h.2 k hk h0)⟩
/-- How a call of the reference's ends that hands back a vector. -/
def RetVR (b : Nat) (O : Nat → Prop) (w : World) (r : BS × List Int) (e : Ending) (w' : World) : Prop := ∃ v O', e = .returned v ∧ IVecF w w' O' v r.2 ∧ RSto w' b O' r.1 ∧ Ext O O' w w'
theorem RowAt.ret (h : RowAt b O w s zs v wr) : RetVR b O w (s, zs) (.returned v) wr := by
  obtain ⟨O1, h1, h2, h3, h4⟩ := h
  exact ⟨v, O1, rfl, ⟨⟨IVec.of_owns rfl h4, fun k hk _ => h3 k hk, own_nilOk h4⟩, fun k hk _ => (h4.lt k hk).1⟩, h1, h2⟩
theorem RowAt.shape (h : RowAt b O w s zs v wr) : ∃ p c, v = .slice p zs.length c := by
  obtain ⟨O1, h1, h2, h3, h4⟩ := h
  obtain ⟨p, c, e, -⟩ := own_shape h4
  exact ⟨p, c, e⟩
theorem RowAt.vec {va : Value} {xs : List Int} (h : RowAt b O w s zs v wr) (ha : IVecX w O va xs) : IVec wr va xs := by
  obtain ⟨O1, h1, h2, h3, h4⟩ := h
  exact (ha.ext h2).1
theorem RowAt.own (h : RowAt b O w s zs v wr) : wr.ownsRow w.heap.size 3 1 v zs.length (zs.map (Value.int .i64)) ∧ w.heap.size ≤ wr.heap.size := by
  obtain ⟨O1, h1, h2, h3, h4⟩ := h
  exact ⟨h4, h2.1.size⟩
/-- A call of the store's in a round. -/
theorem RowAt.calls {f : Nat} {av : Array Value} {r : BS × Int} (h : RowAt b O w s zs v wr) (hf : ∀ O1, RSto wr b O1 s → Calls Try.prog f av wr (RetRS b O1 wr r)) :
    Calls Try.prog f av wr fun e w1 => e = .returned (.int .i64 r.2) ∧ RowAt b O w r.1 zs v w1 := by
  obtain ⟨O1, h1, h2, h3, h4⟩ := h
  refine (hf O1 h1).mono fun e w1 ⟨q1, O2, q2, q3⟩ => ⟨q1, ?_⟩
  obtain ⟨h7, h8⟩ := own_ext h4 h3 q3
  exact ⟨O2, q2, h2.trans q3, h8, h7⟩

/-- append to a row of the call's own of one integer: where the new row lies. -/
theorem append_one {ops : Array Oper} {rest : List Oper} {o : Oper} {a : Act} {Q : Exit → Act → World → Prop} {w : World} (hgd : o.guard = none) (s x : Operand)
    (ho : o.op = .call { callee := .builtin .append, args := #[s, x], argTypes := #[34, 34] })
    (base : Nat) (v : Value) (zs : List Int) (hs : a.eval s = v) (hown : w.ownsRow base 3 1 v zs.length (zs.map (Value.int .i64))) (g : Nat) (z : Int) (hx : a.eval x = .slice (some ⟨g, 0, none⟩) 1 1) (hc : w.cell? ⟨g, 0, none⟩ = some (.int .i64 z)) (hl : zs.length ≤ 2000000) (hbase : base ≤ w.heap.size)
    (h : ∀ v' w', w'.ownsRow base 3 1 v' (zs.length + 1) (zs.map (Value.int .i64) ++ [.int .i64 z]) → w.grownBy w' v.ownBlock → (v'.ownBlock = v.ownBlock ∨ ∀ k, v'.ownBlock = some k → w.heap.size ≤ k) → wpList Try.prog ops Q rest (a.put o.dst v') w') : wpList Try.prog ops Q (o :: rest) a w := by
  obtain ⟨i0, hi, hz0, hz1, hz2⟩ := info_parts Try.infoInt
  have hcell : ∀ j u, [Value.int .i64 z][j]? = some u → w.cell? ((⟨g, 0, none⟩ : Addr).add j) = some u := by
    intro j u hu
    match j, hu with
    | 0, hu => simp at hu; subst hu; simpa [Addr.add] using hc
  refine wpList_plain hgd fun K hK => ?_
  have key := step_append_two (P := Try.prog) (ops := ops) (w := w) (a := a) (o := o) (K := K) (Q := Q) (E := True) hgd s x 34 ho 3 i0 (.int .i64 0) 1 8 Try.underlying34 hi hz0 hz1 hz2 rfl (by decide) v zs.length _ hs (ownsRow_mono hown (Nat.zero_le _)) ⟨g, 0, none⟩ 1 1 [.int .i64 z] hx rfl hcell (ints_oneCell .i64 [z]) (by unfold maxLen; omega) (by omega)
    (fun v' w' h1 h2 h3 => hK _ _ (h v' w' (by
      obtain ⟨hl1, hsh⟩ := h1
      refine ⟨hl1, ?_⟩
      rcases hsh with hsh | ⟨g', cap, cur, q1, q2, q3⟩
      · exact .inl hsh
      · refine .inr ⟨g', cap, cur, q1, ?_, q3⟩
        rcases h3 with e | e
        · exact (hown.lt g' (by rw [← e, q1]; rfl)).1
        · have := e g' (by rw [q1]; rfl)
          omega) h2 h3))
  have hw : Region.wanted o (yielded ops a.tmps) = true := by simp [Region.wanted, hgd]
  rw [if_pos hw] at key
  exact key

end Go.Proofs.Ytlnkflmnjkmhkaa

/-
  Contract of the reference's sum: bit by bit, by the plain law.
-/
namespace Go.Proofs.Ytlnkflmnjkmhkaa
open Go.RowKit Go.Maps

set_option maxRecDepth 100000 in
set_option maxHeartbeats 2000000 in
theorem sum_rs (b : Nat) (O : Nat → Prop) (s : BS) (va vb : Value) (xs ys : List Int) (c : Int) (w : World) (hs : RSto w b O s) (ha : IVecX w O va xs) (hb : IVecX w O vb ys) (hxl : xs.length ≤ 1000000) (hyl : ys.length ≤ 1000000) :
    Calls Try.prog 127 #[.pointer (some ⟨b, 0, none⟩), va, vb, .int .i64 c] w (RetVR b O w ((sumA xs ys c s (max xs.length ys.length)).1, (sumA xs ys c s (max xs.length ys.length)).2.2)) := by
  have HR0 : Hid (RowAt b O w s [] (.slice none 0 0) w) := RowAt.start hs
  have HWD : Hid (∀ wr s' zs v, RowAt b O w s' zs v wr → Calls Try.prog 128 #[va, vb] wr fun e w' => e = .returned (.int .i64 ((max xs.length ys.length : Nat) : Int)) ∧ wr = w') := fun wr s' zs v h => wide18_any va vb xs ys wr (h.vec ha) (h.vec hb) hxl hyl
  have HBA : Hid (∀ wr s' zs v (i : Nat), i ≤ 1000000 → RowAt b O w s' zs v wr → Calls Try.prog 95 #[va, .int .i64 (i : Int)] wr fun e w' => e = .returned (.int .i64 (xs.getD i 0)) ∧ wr = w') := fun wr s' zs v i hi h => bit17_any va xs i wr (h.vec ha) hxl hi
  have HBB : Hid (∀ wr s' zs v (i : Nat), i ≤ 1000000 → RowAt b O w s' zs v wr → Calls Try.prog 95 #[vb, .int .i64 (i : Int)] wr fun e w' => e = .returned (.int .i64 (ys.getD i 0)) ∧ wr = w') := fun wr s' zs v i hi h => bit17_any vb ys i wr (h.vec hb) hyl hi
  obtain ⟨M, hM⟩ : ∃ M, M = max xs.length ys.length := ⟨_, rfl⟩
  have hMm : M ≤ 1000000 := by omega
  rw [← hM] at HWD ⊢
  clear hM hs ha hb
  go_enter Try.func127, Try.ntmps127
  go_wp2_with fail
  go_loopw [3, 9, 10] (fun ct v i wr => ∃ (k : Nat) (p : Option Addr) (cp : Nat), k ≤ M ∧ i = .int .i64 k ∧ v = .slice p k cp ∧ ct = .int .i64 (sumA xs ys c s k).2.1 ∧ Hid (RowAt b O w (sumA xs ys c s k).1 (sumA xs ys c s k).2.2 (.slice p k cp) wr)) (fun _ _ i _ => M - (intOf i).toNat)
  case atStart => exact ⟨0, none, 0, Nat.zero_le _, rfl, rfl, rfl, HR0⟩
  case round =>
    obtain ⟨k, p, cp, hk, rfl, rfl, rfl, HK⟩ := hrel
    have hl := sumA_len xs ys c s k
    have HSS : Hid (sumA xs ys c s (k + 1) = ((carryS (sumA xs ys c s k).1 (sumA xs ys c s k).2.1 (xs.getD k 0) (ys.getD k 0)).1, (carryS (sumA xs ys c s k).1 (sumA xs ys c s k).2.1 (xs.getD k 0) (ys.getD k 0)).2, (sumA xs ys c s k).2.2 ++ [(bitS (sumA xs ys c s k).1 (sumA xs ys c s k).2.1 (xs.getD k 0) (ys.getD k 0)).2])) := rfl
    have HEND : Hid (k = M → RetVR b O w ((sumA xs ys c s M).1, (sumA xs ys c s M).2.2) (.returned (.slice p k cp)) wr) := fun e => by rw [← e]; exact HK.out.ret
    generalize sumA xs ys c s k = st at *
    obtain ⟨s0, ci, zs⟩ := st
    dsimp only at HK HSS hl ⊢
    have HWK := Lib.hid (HWD.out wr _ _ _ HK.out)
    have HLZ := Lib.hid hl
    clear hl
    by_cases hlt : k < M
    · have HX1 := Lib.hid (HBA.out wr _ _ _ k (by omega) HK.out)
      have HX2 := Lib.hid (HBB.out wr _ _ _ k (by omega) HK.out)
      clear HEND HWD HBA HBB HR0
      generalize xs.getD k 0 = x at *
      generalize ys.getD k 0 = y at *
      have H1 := Lib.hid (HK.out.calls fun O1 h => xor_rs b O1 s0 x y wr h)
      have H2 : Hid (∀ W, RowAt b O w (oneS s0 x y).1 zs (.slice p k cp) W → Calls Try.prog 129 #[.pointer (some ⟨b, 0, none⟩), .int .i64 (oneS s0 x y).2, .int .i64 ci] W fun e w1 => e = .returned (.int .i64 (bitS s0 ci x y).2) ∧ RowAt b O w (bitS s0 ci x y).1 zs (.slice p k cp) w1) := fun W h => h.calls fun O1 h' => xor_rs b O1 _ _ _ W h'
      have H3 : Hid (∀ W v' zs', RowAt b O w (bitS s0 ci x y).1 zs' v' W → Calls Try.prog 131 #[.pointer (some ⟨b, 0, none⟩), .int .i64 x, .int .i64 y] W fun e w1 => e = .returned (.int .i64 (bothS s0 ci x y).2) ∧ RowAt b O w (bothS s0 ci x y).1 zs' v' w1) := fun W v' zs' h => h.calls fun O1 h' => and_rs b O1 _ _ _ W h'
      have H4 : Hid (∀ W v' zs', RowAt b O w (bothS s0 ci x y).1 zs' v' W → Calls Try.prog 131 #[.pointer (some ⟨b, 0, none⟩), .int .i64 ci, .int .i64 (oneS s0 x y).2] W fun e w1 => e = .returned (.int .i64 (otherS s0 ci x y).2) ∧ RowAt b O w (otherS s0 ci x y).1 zs' v' w1) := fun W v' zs' h => h.calls fun O1 h' => and_rs b O1 _ _ _ W h'
      have H5 : Hid (∀ W v' zs', RowAt b O w (otherS s0 ci x y).1 zs' v' W → Calls Try.prog 133 #[.pointer (some ⟨b, 0, none⟩), .int .i64 (bothS s0 ci x y).2, .int .i64 (otherS s0 ci x y).2] W fun e w1 => e = .returned (.int .i64 (carryS s0 ci x y).2) ∧ RowAt b O w (carryS s0 ci x y).1 zs' v' w1) := fun W v' zs' h => h.calls fun O1 h' => or_rs b O1 _ _ _ W h'
      have H1 : Hid (Calls Try.prog 129 #[.pointer (some ⟨b, 0, none⟩), .int .i64 x, .int .i64 y] wr fun e w1 => e = .returned (.int .i64 (oneS s0 x y).2) ∧ RowAt b O w (oneS s0 x y).1 zs (.slice p k cp) w1) := H1
      generalize carryS s0 ci x y = r5 at *
      generalize otherS s0 ci x y = r4 at *
      generalize bothS s0 ci x y = r3 at *
      generalize bitS s0 ci x y = r2 at *
      generalize oneS s0 x y = r1 at *
      obtain ⟨s1, i1⟩ := r1
      obtain ⟨s2, i2⟩ := r2
      obtain ⟨s3, i3⟩ := r3
      obtain ⟨s4, i4⟩ := r4
      obtain ⟨s5, i5⟩ := r5
      dsimp only at H1 H2 H3 H4 H5 HSS ⊢
      go_wp2_with (first
        | (go_at_call 128; (with_reducible refine HWK.out.mono ?_); rintro e w1 ⟨rfl, rfl⟩)
        | (go_at_call 95; (with_reducible refine HX1.out.mono ?_); rintro e w1 ⟨rfl, rfl⟩)
        | (go_at_call 95; (with_reducible refine HX2.out.mono ?_); rintro e w1 ⟨rfl, rfl⟩))
      refine H1.out.mono ?_
      rintro e w1 ⟨rfl, h1⟩
      have R1 := Lib.hid h1
      clear h1
      go_wp2_with fail
      refine (H2.out _ R1.out).mono ?_
      rintro e w2 ⟨rfl, h2⟩
      have hown2 := h2.own
      rw [HLZ.out] at hown2
      have R2 := Lib.hid h2
      clear h2
      have hcell : (w2.alloc (.cells #[.int .i64 i2] 3)).cell? ⟨w2.heap.size, 0, none⟩ = some (.int .i64 i2) := by simp [go_sem]
      have hownA := R2.out.own.1.alloc (.cells #[.int .i64 i2] 3)
      have hzl : zs.length ≤ 2000000 := by have := HLZ.out; omega
      have hsz2 := hown2.2
      go_wp2_with (at_builtin; refine append_one rfl (.tmp 33) (.tmp 38) rfl w.heap.size _ zs rfl hownA w2.heap.size i2 rfl hcell hzl (by simp; omega) ?_; intro v3 w3 hown3 hgrow3 hwh3)
      have R3 : Hid (RowAt b O w s2 (zs ++ [i2]) v3 w3) := R2.out.push hown3 hgrow3 hwh3
      obtain ⟨p3, c3, rfl⟩ := R3.out.shape
      have hl3 : (zs ++ [i2]).length = k + 1 := by have := HLZ.out; simp; omega
      rw [hl3] at R3 ⊢
      clear hown3 hgrow3 hwh3 hownA hcell hown2 R1 R2 H1 H2 hl3
      refine (H3.out _ _ _ R3.out).mono ?_
      rintro e w4 ⟨rfl, h4⟩
      have R4 := Lib.hid h4
      clear h4 H3
      go_wp2_with fail
      refine (H4.out _ _ _ R4.out).mono ?_
      rintro e w5 ⟨rfl, h5⟩
      have R5 := Lib.hid h5
      clear h5 H4
      go_wp2_with fail
      refine (H5.out _ _ _ R5.out).mono ?_
      rintro e w6 ⟨rfl, h6⟩
      have R6 := Lib.hid h6
      clear h6 H5
      go_wp2_with fail
      go_roundw
      case rel => exact ⟨k + 1, p3, c3, by omega, by go_num, rfl, by rw [HSS.out], by rw [HSS.out]; exact R6.out⟩
      case measure => simp [intOf]; omega
    · obtain rfl : k = M := by omega
      have HE := Lib.hid (HEND.out rfl)
      clear HEND
      go_wp2_with ((with_reducible refine HWK.out.mono ?_); rintro e w1 ⟨rfl, rfl⟩)
      go_ret
      exact HE.out

end Go.Proofs.Ytlnkflmnjkmhkaa

/-
  Contracts of package symop's truths at a store that is not there, or is full: all is 0.
-/
namespace Go.Proofs.Ytlnkflmnjkmhkaa
open Go.RowKit Go.Maps

theorem call_or_m (av : Array Value) (W : World) : (callFunc 83 av).run Try.prog W = .ok (.enter 83 av) W := by kernel_rfl

abbrev Held4 (w : World) (bS : Nat) (po : Option Addr) (x y : Int) (W : World) : Prop :=
  Below w.heap.size w W ∧ W.cell? ⟨bS, 0, none⟩ = some (.pointer po) ∧ W.cell? ⟨w.heap.size, 0, none⟩ = some (.int .i64 x) ∧ W.cell? ⟨w.heap.size, 1, none⟩ = some (.int .i64 y)

theorem held4 {w W w1 : World} {bS : Nat} {po : Option Addr} {x y : Int} (hb : Below W.heap.size W w1) (h : Below w.heap.size w W ∧ W.cell? ⟨bS, 0, none⟩ = some (.pointer po) ∧ W.cell? ⟨w.heap.size, 0, none⟩ = some (.int .i64 x) ∧ W.cell? ⟨w.heap.size, 1, none⟩ = some (.int .i64 y)) :
    Below w.heap.size w w1 ∧ w1.cell? ⟨bS, 0, none⟩ = some (.pointer po) ∧ w1.cell? ⟨w.heap.size, 0, none⟩ = some (.int .i64 x) ∧ w1.cell? ⟨w.heap.size, 1, none⟩ = some (.int .i64 y) :=
  ⟨h.1.trans (hb.mono h.1.size), (hb.cell (cell_there h.2.1).1).trans h.2.1, (hb.cell (cell_there h.2.2.1).1).trans h.2.2.1, (hb.cell (cell_there h.2.2.2).1).trans h.2.2.2⟩

set_option maxRecDepth 100000 in
set_option maxHeartbeats 800000 in
theorem eq1_dead (bS : Nat) (po : Option Addr) (t x y : Int) (w : World) (hd : Dead w (.pointer po)) (hS : w.cell? ⟨bS, 0, none⟩ = some (.pointer po)) :
    Calls Try.prog 112 #[.int .i64 t, .agg #[.int .i64 x, .int .i64 y], .pointer (some ⟨bS, 0, none⟩)] w (RetInt w 0) := by
  have HD : Hid (∀ W, Below w.heap.size w W → Dead W (.pointer po)) := fun W hW => hd.below hW
  have hlS := (cell_there hS).1
  clear hd
  go_enter Try.func112, Try.ntmps112
  go_wp2_with fail
  generalize hX : w.alloc (.cells #[.int .i64 x, .int .i64 y] 131) = X
  have hBX : Below w.heap.size w X := by rw [← hX]; exact (by repeat (first | exact Below.refl _ _ | assumption | refine Below.drew ?_ | refine Below.alloc ?_ (by first | omega | (simp <;> omega)) _ | refine Below.setCell ?_ (by first | omega | (simp <;> omega)) _ | refine Below.trans ?_ (Below.mono (by assumption) (by first | omega | (simp <;> omega)))))
  have hsX : w.heap.size < X.heap.size := by rw [← hX]; simp
  have sX : X.cell? ⟨bS, 0, none⟩ = some (.pointer po) := (hBX.cell hlS).trans hS
  have x0 : X.cell? ⟨w.heap.size, 0, none⟩ = some (.int .i64 x) := by rw [← hX]; simp [go_sem]
  have x1 : X.cell? ⟨w.heap.size, 1, none⟩ = some (.int .i64 y) := by rw [← hX]; simp [go_sem]
  have hlX := (cell_there sX).1
  have HBX := Lib.hid hBX
  clear hX hBX hS
  go_region_held3 (fun w' => Below w.heap.size w w' ∧ w'.cell? ⟨bS, 0, none⟩ = some (.pointer po) ∧ w'.cell? ⟨w.heap.size, 0, none⟩ = some (.int .i64 x) ∧ w'.cell? ⟨w.heap.size, 1, none⟩ = some (.int .i64 y))
    (first | exact ⟨below_drewN HBX.out 1, sX, x0, x1⟩ | exact held4 hb1 (by assumption) | go_keep)
    (first | (go_at_call 84; refine (xor_dead _ _ _ (HD.out _ (And.left (by assumption)))).mono ?_; rintro e w1 ⟨rfl, hb1⟩) | (go_at_call 85; refine (not_dead _ _ (HD.out _ (And.left (by assumption)))).mono ?_; rintro e w1 ⟨rfl, hb1⟩))
  rename_i hH
  obtain ⟨hB1, s1, -, -⟩ := hH
  have HB1 := Lib.hid hB1
  clear hB1
  go_wp2_with fail
  refine (and_dead _ _ _ (HD.out _ HB1.out)).mono ?_
  rintro e w2 ⟨rfl, hb2⟩
  go_wp2_with fail
  go_ret
  exact ⟨rfl, HB1.out.trans (hb2.mono HB1.out.size)⟩

set_option maxRecDepth 100000 in
set_option maxHeartbeats 800000 in
theorem less1_dead (bS : Nat) (po : Option Addr) (t x y : Int) (w : World) (hd : Dead w (.pointer po)) (hS : w.cell? ⟨bS, 0, none⟩ = some (.pointer po)) :
    Calls Try.prog 113 #[.int .i64 t, .agg #[.int .i64 x, .int .i64 y], .pointer (some ⟨bS, 0, none⟩)] w (RetInt w 0) := by
  have HD : Hid (∀ W, Below w.heap.size w W → Dead W (.pointer po)) := fun W hW => hd.below hW
  have hlS := (cell_there hS).1
  clear hd
  go_enter Try.func113, Try.ntmps113
  go_wp2_with fail
  refine (xor_dead _ _ _ (HD.out _ (by repeat (first | exact Below.refl _ _ | assumption | refine Below.drew ?_ | refine Below.alloc ?_ (by first | omega | (simp <;> omega)) _ | refine Below.setCell ?_ (by first | omega | (simp <;> omega)) _ | refine Below.trans ?_ (Below.mono (by assumption) (by first | omega | (simp <;> omega))))))).mono ?_
  rintro e w1 ⟨rfl, hb1⟩
  have hB1 : Below w.heap.size w w1 := (by repeat (first | exact Below.refl _ _ | assumption | refine Below.drew ?_ | refine Below.alloc ?_ (by first | omega | (simp <;> omega)) _ | refine Below.setCell ?_ (by first | omega | (simp <;> omega)) _ | refine Below.trans ?_ (Below.mono (by assumption) (by first | omega | (simp <;> omega)))))
  have s1 : w1.cell? ⟨bS, 0, none⟩ = some (.pointer po) := (hB1.cell hlS).trans hS
  have x1 : w1.cell? ⟨w.heap.size, 1, none⟩ = some (.int .i64 y) := by rw [hb1.cell (p := ⟨w.heap.size, 1, none⟩) (by simp)]; simp [go_sem]
  have HB := Lib.hid hB1
  clear hS hb1 hB1
  go_wp2_with fail
  refine (ite_dead _ _ _ _ (HD.out _ HB.out)).mono ?_
  rintro e w2 ⟨rfl, hb2⟩
  go_wp2_with fail
  go_ret
  exact ⟨rfl, HB.out.trans (hb2.mono HB.out.size)⟩

set_option maxRecDepth 100000 in
set_option maxHeartbeats 800000 in
theorem any_dead {sp : Value} (va : Value) (xs : List Int) (w : World) (hd : Dead w sp) (ha : IVec w va xs) (hxl : xs.length ≤ 1000000) :
    Calls Try.prog 54 #[sp, va] w (RetInt w 0) := by
  have HD : Hid (∀ W, Below w.heap.size w W → Dead W sp) := fun W hW => hd.below hW
  have hF : Calls Try.prog 114 #[va, .int .i64 0, .func (.func 83) #[sp] #[]] w (RetJ fun _ W => Below w.heap.size w W) :=
    fold_int 83 #[sp] #[] va xs (fun _ _ W => Below w.heap.size w W) 0 w hxl (Below.refl _ _) (fun k t W h => ha.below h) call_or_m
      (fun k hk t W h => (or_dead t _ W (HD.out W h)).mono fun e w' ⟨h1, h2⟩ => ⟨0, h1, h.trans (h2.mono h.size)⟩)
  have HF := Lib.hid hF
  clear hd ha hF
  go_enter Try.func54, Try.ntmps54
  go_wp2_with fail
  refine HF.out.mono ?_
  rintro e w1 ⟨r, rfl, hb⟩
  go_wp2_with fail
  refine (truth_dead _ _ (HD.out _ hb)).mono ?_
  rintro e w2 ⟨rfl, rfl⟩
  go_wp2_with fail
  go_ret
  exact ⟨rfl, hb⟩

theorem fold_eq (po : Option Addr) (bS : Nat) (v : Value) (n : Nat) (p : Nat → Int × Int) (c0 : Int) (w : World) (hn : n ≤ 1000000) (hv : PVec w v n p) (hd : Dead w (.pointer po)) (hS : w.cell? ⟨bS, 0, none⟩ = some (.pointer po)) :
    Calls Try.prog 110 #[v, .int .i64 c0, .func (.func 112) #[] #[.pointer (some ⟨bS, 0, none⟩)]] w (RetJ fun _ W => Below w.heap.size w W) :=
  fold_bits 112 #[] #[.pointer (some ⟨bS, 0, none⟩)] v n p (fun _ _ W => Below w.heap.size w W) c0 w hn (Below.refl _ _) (fun k t W h => hv.below h) (fun k t W W' h hb => h.trans (hb.mono h.size)) call_eq1
    (fun k hk t W h => (eq1_dead bS po t _ _ W (hd.below h) ((h.cell (cell_there hS).1).trans hS)).mono fun e w' ⟨h1, h2⟩ => ⟨0, h1, h.trans (h2.mono h.size)⟩)
theorem fold_less (po : Option Addr) (bS : Nat) (v : Value) (n : Nat) (p : Nat → Int × Int) (c0 : Int) (w : World) (hn : n ≤ 1000000) (hv : PVec w v n p) (hd : Dead w (.pointer po)) (hS : w.cell? ⟨bS, 0, none⟩ = some (.pointer po)) :
    Calls Try.prog 110 #[v, .int .i64 c0, .func (.func 113) #[] #[.pointer (some ⟨bS, 0, none⟩)]] w (RetJ fun _ W => Below w.heap.size w W) :=
  fold_bits 113 #[] #[.pointer (some ⟨bS, 0, none⟩)] v n p (fun _ _ W => Below w.heap.size w W) c0 w hn (Below.refl _ _) (fun k t W h => hv.below h) (fun k t W W' h hb => h.trans (hb.mono h.size)) call_less1
    (fun k hk t W h => (less1_dead bS po t _ _ W (hd.below h) ((h.cell (cell_there hS).1).trans hS)).mono fun e w' ⟨h1, h2⟩ => ⟨0, h1, h.trans (h2.mono h.size)⟩)

set_option maxRecDepth 100000 in
set_option maxHeartbeats 1600000 in
theorem eq_dead {sp : Value} (va vb : Value) (xs ys : List Int) (w : World) (hd : Dead w sp) (ha : IVec w va xs) (hb : IVec w vb ys) (hxl : xs.length ≤ 1000000) (hyl : ys.length ≤ 1000000) :
    Calls Try.prog 51 #[sp, va, vb] w (RetInt w 0) := by
  have HD : Hid (∀ W, Below w.heap.size w W → Dead W sp) := fun W hW => hd.below hW
  have HA := Lib.hid ha
  have HB := Lib.hid hb
  obtain ⟨po, rfl⟩ := hd.shape
  clear hd ha hb
  have hmf := run_makeFunc
  go_enter Try.func51, Try.ntmps51
  go_wp2_with fail
  generalize hX : w.alloc (.cells #[.pointer po] 23) = X
  have hBX : Below w.heap.size w X := by rw [← hX]; exact (by repeat (first | exact Below.refl _ _ | assumption | refine Below.drew ?_ | refine Below.alloc ?_ (by first | omega | (simp <;> omega)) _ | refine Below.setCell ?_ (by first | omega | (simp <;> omega)) _ | refine Below.trans ?_ (Below.mono (by assumption) (by first | omega | (simp <;> omega)))))
  have hsX : w.heap.size < X.heap.size := by rw [← hX]; simp
  have sX : X.cell? ⟨w.heap.size, 0, none⟩ = some (.pointer po) := by rw [← hX]; simp [go_sem]
  have HBX := Lib.hid hBX
  have HPR : Hid (Calls Try.prog 111 #[va, vb] X.drew fun e w' => ∃ v, e = .returned v ∧ PVecX w' (fun _ => False) v (max xs.length ys.length) (pairAt xs ys) ∧ Below X.drew.heap.size X.drew w') :=
    pairs_any (fun _ => False) va vb xs ys X.drew (fun _ h => h.elim) (HA.out.below (below_drewN HBX.out 1)) (HB.out.below (below_drewN HBX.out 1)) hxl hyl
  clear hX hBX
  go_region_with (first
    | (go_at_call 111; refine HPR.out.mono ?_; rintro e w1 ⟨v, rfl, hv, hb1⟩; have s1 : w1.cell? ⟨w.heap.size, 0, none⟩ = some (.pointer po) := (hb1.cell (p := ⟨w.heap.size, 0, none⟩) hsX).trans sX; have hB1 : Below w.heap.size w w1 := (below_drewN HBX.out 1).trans (hb1.mono (Nat.le_of_lt hsX)))
    | (go_at_call 110; refine (fold_eq po w.heap.size v _ _ 1 w1 (by omega) hv.pvec (HD.out _ hB1) s1).mono ?_; rintro e w2 ⟨r, rfl, hb2⟩; have s2 : w2.cell? ⟨w.heap.size, 0, none⟩ = some (.pointer po) := (hb2.cell (p := ⟨w.heap.size, 0, none⟩) (cell_there s1).1).trans s1; have hB2 : Below w.heap.size w w2 := hB1.trans (hb2.mono hB1.size))
    | (go_at_call 109; refine (truth_dead _ _ (HD.out _ hB2)).mono ?_; rintro e w3 ⟨rfl, rfl⟩))
  all_goals
    go_wp2_with fail
    go_ret
    exact ⟨rfl, hB2⟩

set_option maxRecDepth 100000 in
set_option maxHeartbeats 1600000 in
theorem less_dead {sp : Value} (va vb : Value) (xs ys : List Int) (w : World) (hd : Dead w sp) (ha : IVec w va xs) (hb : IVec w vb ys) (hxl : xs.length ≤ 1000000) (hyl : ys.length ≤ 1000000) :
    Calls Try.prog 52 #[sp, va, vb] w (RetInt w 0) := by
  have HD : Hid (∀ W, Below w.heap.size w W → Dead W sp) := fun W hW => hd.below hW
  have HA := Lib.hid ha
  have HB := Lib.hid hb
  obtain ⟨po, rfl⟩ := hd.shape
  clear hd ha hb
  have hmf := run_makeFunc
  go_enter Try.func52, Try.ntmps52
  go_wp2_with fail
  generalize hX : w.alloc (.cells #[.pointer po] 23) = X
  have hBX : Below w.heap.size w X := by rw [← hX]; exact (by repeat (first | exact Below.refl _ _ | assumption | refine Below.drew ?_ | refine Below.alloc ?_ (by first | omega | (simp <;> omega)) _ | refine Below.setCell ?_ (by first | omega | (simp <;> omega)) _ | refine Below.trans ?_ (Below.mono (by assumption) (by first | omega | (simp <;> omega)))))
  have hsX : w.heap.size < X.heap.size := by rw [← hX]; simp
  have sX : X.cell? ⟨w.heap.size, 0, none⟩ = some (.pointer po) := by rw [← hX]; simp [go_sem]
  have HBX := Lib.hid hBX
  have HPR : Hid (Calls Try.prog 111 #[va, vb] X.drew fun e w' => ∃ v, e = .returned v ∧ PVecX w' (fun _ => False) v (max xs.length ys.length) (pairAt xs ys) ∧ Below X.drew.heap.size X.drew w') :=
    pairs_any (fun _ => False) va vb xs ys X.drew (fun _ h => h.elim) (HA.out.below (below_drewN HBX.out 1)) (HB.out.below (below_drewN HBX.out 1)) hxl hyl
  clear hX hBX
  go_region_with (first
    | (go_at_call 111; refine HPR.out.mono ?_; rintro e w1 ⟨v, rfl, hv, hb1⟩; have s1 : w1.cell? ⟨w.heap.size, 0, none⟩ = some (.pointer po) := (hb1.cell (p := ⟨w.heap.size, 0, none⟩) hsX).trans sX; have hB1 : Below w.heap.size w w1 := (below_drewN HBX.out 1).trans (hb1.mono (Nat.le_of_lt hsX)))
    | (go_at_call 110; refine (fold_less po w.heap.size v _ _ 0 w1 (by omega) hv.pvec (HD.out _ hB1) s1).mono ?_; rintro e w2 ⟨r, rfl, hb2⟩; have s2 : w2.cell? ⟨w.heap.size, 0, none⟩ = some (.pointer po) := (hb2.cell (p := ⟨w.heap.size, 0, none⟩) (cell_there s1).1).trans s1; have hB2 : Below w.heap.size w w2 := hB1.trans (hb2.mono hB1.size))
    | (go_at_call 109; refine (truth_dead _ _ (HD.out _ hB2)).mono ?_; rintro e w3 ⟨rfl, rfl⟩))
  all_goals
    go_wp2_with fail
    go_ret
    exact ⟨rfl, hB2⟩

set_option maxRecDepth 100000 in
set_option maxHeartbeats 400000 in
theorem atMost_dead {sp : Value} (va vb : Value) (xs ys : List Int) (w : World) (hd : Dead w sp) (ha : IVec w va xs) (hb : IVec w vb ys) (hxl : xs.length ≤ 1000000) (hyl : ys.length ≤ 1000000) :
    Calls Try.prog 53 #[sp, va, vb] w (RetInt w 0) := by
  have HL := Lib.hid (less_dead vb va ys xs w hd hb ha hyl hxl)
  have HN : Hid (∀ W a, Below w.heap.size w W → Calls Try.prog 85 #[sp, .int .i64 a] W (RetInt W 0)) := fun W a hW => not_dead a W (hd.below hW)
  clear hd ha hb
  go_enter Try.func53, Try.ntmps53
  go_wp2_with fail
  refine HL.out.mono ?_
  rintro e w1 ⟨rfl, hb1⟩
  go_wp2_with fail
  refine (HN.out _ _ hb1).mono ?_
  rintro e w2 ⟨rfl, hb2⟩
  go_wp2_with fail
  go_ret
  exact ⟨rfl, hb1.trans (hb2.mono hb1.size)⟩

end Go.Proofs.Ytlnkflmnjkmhkaa
