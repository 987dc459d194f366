/-
  Lemmas, joined: Eval2, SymopD, SymopD2.
-/
import Derived.Test.YtlnkflmnjkmhkaaJR07
import Derived.Test.YtlnkflmnjkmhkaaJR06
import Derived.Laws.CopyOwn
/-
  Contracts of bdd.New, Holds at a constant, num.Bit, symbv.Const, symbv.Eval and Is at a store that is there, of vectors of constants.
-/
namespace Go.Proofs.Ytlnkflmnjkmhkaa
open Go.RowKit

def newCells (a c : Nat) : Obj := .cells #[.int .i64 (c : Int), .slice none 0 0, .map (some a), .map (some (a + 1)), .bool false] 108
def newWorld (w : World) (c : Nat) : World := ((w.alloc (.map #[] 0)).alloc (.map #[] 0)).alloc (newCells w.heap.size c)

set_option maxRecDepth 100000 in
set_option maxHeartbeats 400000 in
theorem new_ok (c : Nat) (w : World) (h0 : 2 ≤ c) (h1 : c ≤ 1048576) :
    Calls Try.prog 8 #[.int .i64 (c : Int)] w fun e w' => e = .returned (.tuple #[.pointer (some ⟨w.heap.size + 2, 0, none⟩), .int .i64 0]) ∧ newWorld w c = w' := by
  have hmm := @run_makeMap Try.prog
  go_enter Try.func8, Try.ntmps8
  go_wp2
  go_ret2
  exact ⟨rfl, rfl⟩

set_option maxRecDepth 100000 in
set_option maxHeartbeats 400000 in
theorem holds_two (b : Nat) (c x : Int) (pn : Option Addr) (n cp : Nat) (bits : Value) (w : World) (h0 : w.cell? ⟨b, 0, none⟩ = some (.int .i64 c)) (hc : (c == 0) = false) (h1 : w.cell? ⟨b, 1, none⟩ = some (.slice pn n cp)) (hx : 0 ≤ x) (hx1 : x ≤ 1) (hn : n ≤ 1000000000) :
    Calls Try.prog 90 #[.pointer (some ⟨b, 0, none⟩), .int .i64 x, bits] w fun e w' => e = .returned (.bool (x == 1)) ∧ w = w' := by
  go_enter Try.func90, Try.ntmps90
  go_wp2
  refine wp_loop_rounds 1 ?_
  rw [rounds_succ]
  go_wp2
  go_ret
  exact ⟨rfl, rfl⟩

theorem bit_low (z : Nat) (hz : z < B) : (bits .and .u64 (z : Int) 1 == 1) = z.testBit 0 := by
  have h := and_cast z 1 hz (by unfold B; omega)
  have e : ((1 : Nat) : Int) = 1 := rfl
  rw [e] at h
  rw [h, nat_mask1, Nat.testBit_zero]
  rcases Nat.mod_two_eq_zero_or_one z with h | h <;> rw [h] <;> rfl

theorem field_lo (u v : Int) (W : World) : (Instr.field 41 (.agg #[.int .u64 u, .int .u64 v]) 1).run Try.prog W = .ok (.int .u64 v) W := by kernel_rfl
theorem field_hi (u v : Int) (W : World) : (Instr.field 41 (.agg #[.int .u64 u, .int .u64 v]) 0).run Try.prog W = .ok (.int .u64 u) W := by kernel_rfl

def bitB (n : Nat) (i : Int) : Bool := decide (0 ≤ i) && decide (i < 128) && n.testBit i.toNat

set_option maxRecDepth 100000 in
set_option maxHeartbeats 400000 in
theorem numBit_any (n : Nat) (i : Int) (w : World) (hn : n < B * B) :
    Calls Try.prog 80 #[numV n, .int .i64 i] w fun e w' => e = .returned (.bool (bitB n i)) ∧ Below w.heap.size w w' := by
  obtain ⟨y, z, he, hy, hz0⟩ := numV_parts n
  have HE := Lib.hid he
  have HN := Lib.hid hn; clear hn
  rw [he]
  clear he hy hz0
  by_cases h0 : 0 ≤ i
  · by_cases h1 : i < 128
    · have HR : ∀ m, m = n / 2 ^ sh i → Hid ((bits .and .u64 ((m % B : Nat) : Int) 1 == 1) = bitB n i) := by
        intro m hm
        show _ = _
        have e1 : sh i = i.toNat := by unfold sh; omega
        rw [bit_low _ (low_lt _), hm, e1, B_pow, Nat.testBit_mod_two_pow, Nat.testBit_div_two_pow]
        simp [bitB, h0, h1]
      go_enter Try.func80, Try.ntmps80
      go_wp2_with fail
      rw [← HE.out]
      refine (numShr_any n _ _ HN.out).mono ?_
      rintro e w1 ⟨rfl, hb⟩
      obtain ⟨u, v, hm, hu, hv⟩ := numV_parts (n / 2 ^ sh i)
      have HM : Hid (v = n / 2 ^ sh i % B) := hv
      clear hu hv
      rw [hm]
      clear hm
      have hfl := field_lo
      go_wp2_with fail
      go_ret
      exact ⟨by rw [HM.out, (HR _ rfl).out]; rfl, (by repeat (first | exact Below.refl _ _ | assumption | refine Below.drew ?_ | refine Below.alloc ?_ (by first | omega | (simp <;> omega)) _ | refine Below.setCell ?_ (by first | omega | (simp <;> omega)) _ | refine Below.trans ?_ (Below.mono (by assumption) (by first | omega | (simp <;> omega)))))⟩
    · have hd : Hid (bitB n i = false) := by show _ = _; simp [bitB, h1]
      go_enter Try.func80, Try.ntmps80
      go_wp2_with fail
      go_ret
      exact ⟨by rw [hd.out]; rfl, (by repeat (first | exact Below.refl _ _ | assumption | refine Below.drew ?_ | refine Below.alloc ?_ (by first | omega | (simp <;> omega)) _ | refine Below.setCell ?_ (by first | omega | (simp <;> omega)) _ | refine Below.trans ?_ (Below.mono (by assumption) (by first | omega | (simp <;> omega)))))⟩
  · have hd : Hid (bitB n i = false) := by show _ = _; simp [bitB, h0]
    go_enter Try.func80, Try.ntmps80
    go_wp2_with fail
    go_ret
    exact ⟨by rw [hd.out]; rfl, (by repeat (first | exact Below.refl _ _ | assumption | refine Below.drew ?_ | refine Below.alloc ?_ (by first | omega | (simp <;> omega)) _ | refine Below.setCell ?_ (by first | omega | (simp <;> omega)) _ | refine Below.trans ?_ (Below.mono (by assumption) (by first | omega | (simp <;> omega)))))⟩

def constBits (n m : Nat) : List Int := (List.range m).map fun i => if bitB n (i : Nat) then 1 else 0
theorem constBits_len (n m : Nat) : (constBits n m).length = m := by simp [constBits]
/-- The first k bits laid, zeros behind. -/
def constTo (n m k : Nat) : List Value := (List.range m).map fun i => .int .i64 (if decide (i < k) && bitB n (i : Nat) then 1 else 0)
theorem constTo_zero (n m : Nat) : constTo n m 0 = List.replicate m (.int .i64 0) := by
  simp [constTo, List.map_const']
theorem constTo_end (n m : Nat) : constTo n m m = (constBits n m).map (Value.int .i64) := by
  unfold constTo constBits
  rw [List.map_map]
  apply List.map_congr_left
  intro i hi
  have := List.mem_range.1 hi
  simp [this]
theorem constTo_yes (n m k : Nat) (hk : k < m) (h : bitB n (k : Nat) = true) : (constTo n m k).set k (.int .i64 1) = constTo n m (k + 1) := by
  apply List.ext_getElem
  · simp [constTo]
  · intro i h1 h2
    rw [List.getElem_set]
    simp only [constTo, List.getElem_map, List.getElem_range]
    by_cases hik : k = i
    · subst hik
      rw [if_pos rfl, h]
      simp
    · rw [if_neg hik]
      have : (decide (i < k + 1)) = decide (i < k) := by rw [decide_eq_decide]; omega
      rw [this]
theorem constTo_no (n m k : Nat) (h : bitB n (k : Nat) = false) : constTo n m k = constTo n m (k + 1) := by
  unfold constTo
  apply List.map_congr_left
  intro i _
  by_cases hik : i = k
  · subst hik; simp [h]
  · have : (decide (i < k + 1)) = decide (i < k) := by rw [decide_eq_decide]; omega
    rw [this]

set_option maxRecDepth 100000 in
set_option maxHeartbeats 400000 in
theorem width_any (k : Int) (w : World) : Calls Try.prog 79 #[.int .i64 k] w fun e w' => e = .returned (.int .i64 ((max 0 (min k 256)).toNat : Int)) ∧ w = w' := by
  have h1 : Hid (((max 0 (min k 256)).toNat : Int) = max 0 (min k 256)) := by show _ = _; omega
  go_enter Try.func79, Try.ntmps79
  go_wp2
  all_goals
    go_ret
    exact ⟨congrArg (fun x => Ending.returned (Value.int .i64 x)) (by first | omega | (rw [h1.out]; omega)), rfl⟩

end Go.Proofs.Ytlnkflmnjkmhkaa

/-
  Contracts of package symop's functions at a store that is not there, or is full: all is 0.
-/
namespace Go.Proofs.Ytlnkflmnjkmhkaa
open Go.RowKit Go.Maps

theorem call_sum1 (av : Array Value) (W : World) : (callFunc 145 av).run Try.prog W = .ok (.enter 145 av) W := by kernel_rfl
theorem call_eq1 (av : Array Value) (W : World) : (callFunc 112 av).run Try.prog W = .ok (.enter 112 av) W := by kernel_rfl
theorem call_less1 (av : Array Value) (W : World) : (callFunc 113 av).run Try.prog W = .ok (.enter 113 av) W := by kernel_rfl
theorem call_agrees1 (av : Array Value) (W : World) : (callFunc 115 av).run Try.prog W = .ok (.enter 115 av) W := by kernel_rfl

theorem below_ext {O O' : Nat → Prop} {B : Nat} {a w w' : World} (h : Below B a w) (he : Ext O O' w w') (hO : ∀ k, O k → B ≤ k) (hB : B ≤ w.heap.size) : Below B a w' :=
  ⟨he.1.os.trans h.os, he.1.tape.trans h.tape, he.1.output.trans h.output, Nat.le_trans h.size he.1.size, fun k hk => (he.1.block k (by omega) (fun h' => by have := hO k h'; omega)).trans (h.block k hk)⟩

set_option maxRecDepth 100000 in
set_option maxHeartbeats 1600000 in
theorem sum_dead {sp : Value} (va vb : Value) (xs ys : List Int) (c : Int) (w : World) (hd : Dead w sp) (ha : IVec w va xs) (hb : IVec w vb ys) (hxl : xs.length ≤ 1000000) (hyl : ys.length ≤ 1000000) :
    Calls Try.prog 108 #[sp, va, vb, .int .i64 c] w (RetVec w (List.replicate (max xs.length ys.length) 0)) := by
  have HD := Lib.hid hd
  have HA := Lib.hid ha
  have HB := Lib.hid hb
  obtain ⟨po, rfl⟩ := hd.shape
  clear hd ha hb
  have hmf := run_makeFunc
  go_enter Try.func108, Try.ntmps108
  go_wp2_with fail
  obtain ⟨A, hA⟩ : ∃ A, A = ((w.alloc (.cells #[.pointer po] 23)).alloc (.cells #[] 3)).alloc (.cells #[.slice (some ⟨w.heap.size + 1, 0, none⟩) 0 0] 34) := ⟨_, rfl⟩
  have hBA : Below w.heap.size w A := by rw [hA]; exact (by repeat (first | exact Below.refl _ _ | assumption | refine Below.drew ?_ | refine Below.alloc ?_ (by first | omega | (simp <;> omega)) _ | refine Below.setCell ?_ (by first | omega | (simp <;> omega)) _ | refine Below.trans ?_ (Below.mono (by assumption) (by first | omega | (simp <;> omega)))))
  have hAs : A.heap.size = w.heap.size + 3 := by rw [hA]; simp
  have a0 : A.cell? ⟨w.heap.size, 0, none⟩ = some (.pointer po) := by rw [hA]; simp [go_sem]
  have aV : A.cell? ⟨w.heap.size + 1 + 1, 0, none⟩ = some (.slice (some ⟨w.heap.size + 1, 0, none⟩) 0 0) := by rw [hA]; simp [go_sem]
  have aF : A.frozen? ⟨w.heap.size + 1 + 1, 0, none⟩ = false := by rw [hA]; simp [go_sem]
  have aO : A.heap[w.heap.size + 1]? = some (.cells #[] 3 (0, 0)) := by
    rw [hA, Below.heap_alloc _ _ _ (by simp)]
    show ((w.heap.push (.cells #[.pointer po] 23)).push (.cells #[] 3))[w.heap.size + 1]? = _
    rw [Array.getElem?_push]
    simp
  let O : Nat → Prop := fun j => j = w.heap.size + 1 + 1 ∨ (Value.slice (some ⟨w.heap.size + 1, 0, none⟩) 0 0).ownBlock = some j
  have hOlo : ∀ j, O j → w.heap.size < j ∧ j < A.heap.size := by
    rintro j (h | h)
    · omega
    · simp [Value.ownBlock] at h; omega
  have hDX : DeadX A O (.pointer po) := by
    rcases HD.out with h | ⟨b, Os, st, told, h1, h2, h3⟩
    · exact .inl h
    · exact .inr ⟨b, Os, st, told, h1, h2.below hBA, h3, fun k hk hO => by have := h2.lt k hk; have := hOlo k hO; omega⟩
  have hST : SumSt A O w.heap.size (w.heap.size + 1 + 1) po 0 :=
    ⟨a0, fun h => by have := hOlo _ h; omega, hDX, aF, _, aV, ⟨rfl, .inr ⟨w.heap.size + 1, 0, #[], rfl, Nat.zero_le _, aO, Nat.le_refl _, Nat.zero_le _, rfl, rfl⟩⟩, by simp [Value.ownBlock], fun j => Iff.rfl⟩
  have hOA : ∀ k, O k → k < A.heap.size := fun k hk => (hOlo k hk).2
  have HST := Lib.hid hST
  have HOL : Hid (∀ j, O j → w.heap.size < j ∧ j < A.heap.size) := hOlo
  have hp := pairs_any O va vb xs ys A hOA (HA.out.below hBA) (HB.out.below hBA) hxl hyl
  have HP := Lib.hid hp
  have HBA := Lib.hid hBA
  rw [← hA]
  clear hST hOlo hDX aO aF aV a0 hAs hA hOA hp hBA
  clear_value O
  refine HP.out.mono ?_
  rintro e w1 ⟨v, rfl, hv, hb1⟩
  have HV := Lib.hid hv
  have HB1 := Lib.hid hb1
  clear hv hb1 HP
  have hF : ∀ (c0 : Int), Calls Try.prog 110 #[v, .int .i64 c0, .func (.func 145) #[] #[.pointer (some ⟨w.heap.size, 0, none⟩), .pointer (some ⟨w.heap.size + 1 + 1, 0, none⟩)]] w1
      (RetJ fun _ W => ∃ O', PVecX W O' v (max xs.length ys.length) (pairAt xs ys) ∧ SumSt W O' w.heap.size (w.heap.size + 1 + 1) po (max xs.length ys.length) ∧ Ext O O' w1 W) := by
    intro c0
    refine fold_bits 145 #[] _ v (max xs.length ys.length) (pairAt xs ys) (fun k _ W => ∃ O', PVecX W O' v (max xs.length ys.length) (pairAt xs ys) ∧ SumSt W O' w.heap.size (w.heap.size + 1 + 1) po k ∧ Ext O O' w1 W) c0 w1 (by omega) ⟨O, HV.out, HST.out.below HB1.out, Ext.refl _ _⟩ ?_ ?_ call_sum1 ?_
    · rintro k t W ⟨O', h1, -⟩
      exact h1.pvec
    · rintro k t W W' ⟨O', h1, h2, h3⟩ hb
      exact ⟨O', h1.ext (Ext.of_below hb), h2.below hb, h3.trans (Ext.of_below hb)⟩
    · rintro k hk t W ⟨O', h1, h2, h3⟩
      exact (sum1_dead O' w.heap.size (w.heap.size + 1 + 1) k po t _ _ W (by omega) h2).mono fun e w' ⟨r, hr, O'', h4, h5⟩ => ⟨r, hr, O'', h1.ext h5, h4, h3.trans h5⟩
  go_wp2_with fail
  refine (hF _).mono ?_
  rintro e w2 ⟨r, rfl, O', h1, h2, h3⟩
  obtain ⟨q1, q2, q3, q4, vv, q5, q6, q7, q8⟩ := h2
  obtain ⟨pv, cv, rfl, -⟩ := own_shape q6
  have hR : Below w.heap.size w w2 := below_ext (HBA.out.trans (HB1.out.mono HBA.out.size)) h3 (fun k hk => by have := HOL.out k hk; omega) (Nat.le_trans HBA.out.size HB1.out.size)
  have hV : IVec w2 (.slice pv (max xs.length ys.length) cv) (List.replicate (max xs.length ys.length) 0) := IVec.of_zero q6
  have HR := Lib.hid hR
  have HVV := Lib.hid hV
  clear q1 q2 q3 q4 q6 q7 q8 h1 h3 hR hV hF
  go_wp2_with fail
  go_ret
  exact ⟨_, rfl, HVV.out, HR.out⟩

end Go.Proofs.Ytlnkflmnjkmhkaa

/-
  Contracts of package symop's vectors at a store that is not there, or is full: all is 0.
-/
namespace Go.Proofs.Ytlnkflmnjkmhkaa
open Go.RowKit Go.Maps

set_option maxRecDepth 100000 in
set_option maxHeartbeats 800000 in
/-- symbv.Not at a dead store. -/
theorem symbvNot_dead {sp : Value} (va : Value) (xs : List Int) (w : World) (hd : Dead w sp) (ha : IVec w va xs) (hxl : xs.length ≤ 1000000) :
    Calls Try.prog 23 #[sp, va] w (RetVec w (List.replicate xs.length 0)) := by
  have HM : Hid (∀ W a, Below w.heap.size w W → Calls Try.prog 85 #[sp, .int .i64 a] W (RetInt W 0)) := fun W a hW => not_dead a W (hd.below hW)
  clear hd
  obtain ⟨i0, hi, hz0, hz1, hz2⟩ := info_parts Try.infoInt
  obtain ⟨pa, ca, rfl, ha3, ha4, ha5⟩ := ha.shape
  clear ha
  have HA := Lib.hid ha5; clear ha5
  go_enter Try.func23, Try.ntmps23
  go_wp2_with (first
    | (at_make; refine wpList_make_full _ rfl _ _ 34 rfl w.heap.size 3 i0 (.int .i64 0) 1 Try.underlying34 hi hz0 hz1 .i64 .i64 _ _ xs.length rfl rfl rfl rfl (by rw [hz2]; omega) (by unfold maxLen; omega) (Nat.le_refl _) ?_; intro w0 hown0 hgrow0))
  rw [toList_madeCells_zero] at hown0
  go_loopw [13] (fun i wr => ∃ k : Nat, k ≤ xs.length ∧ i = .int .i64 k ∧ wr.ownsRow w.heap.size 3 1 (.slice (some ⟨w.heap.size, 0, none⟩) xs.length xs.length) xs.length (List.replicate xs.length (Value.int .i64 0)) ∧ Below w.heap.size w wr)
    (fun i _ => xs.length - (intOf i).toNat)
  case atStart => exact ⟨0, Nat.zero_le _, rfl, hown0, (Below.refl _ _).grown hgrow0 (Nat.le_refl _) (fun k h => by cases h)⟩
  case round =>
    obtain ⟨k, hk, rfl, hown, hnx⟩ := hrel
    have hsize := hnx.size
    by_cases hlt : k < xs.length
    · obtain ⟨ba, oa, rfl, ha2, ha5⟩ := HA.out (by omega)
      have ga := (hnx.cell (p := ⟨ba, oa + k, none⟩) ha2).trans (ha5 k hlt)
      clear ha5
      go_wp2_with fail
      refine (HM.out _ _ hnx).mono ?_
      rintro e w1 ⟨rfl, hb1⟩
      obtain ⟨z1, z2, z3⟩ := zeroRow (by unfold maxLen; omega) (own_below hown hb1) k hlt
      have Z := Lib.hid z3; clear z3
      go_wp2_with fail
      go_roundw
      case rel => exact ⟨k + 1, by omega, by go_num, Z.out, (hnx.trans (hb1.mono hsize)).setCell (Nat.le_refl _) _⟩
      case measure => simp [intOf]; omega
    · obtain rfl : k = xs.length := by omega
      go_wp2_with fail
      go_ret
      exact ⟨_, rfl, IVec.of_zero hown, hnx⟩

set_option maxRecDepth 100000 in
set_option maxHeartbeats 400000 in
theorem add_dead {sp : Value} (va vb : Value) (xs ys : List Int) (w : World) (hd : Dead w sp) (ha : IVec w va xs) (hb : IVec w vb ys) (hxl : xs.length ≤ 1000000) (hyl : ys.length ≤ 1000000) :
    Calls Try.prog 48 #[sp, va, vb] w (RetVec w (List.replicate (max xs.length ys.length) 0)) := by
  have HS := Lib.hid (sum_dead va vb xs ys 0 w hd ha hb hxl hyl)
  clear hd ha hb
  go_enter Try.func48, Try.ntmps48
  go_wp2_with fail
  refine HS.out.mono ?_
  rintro e w1 ⟨v, rfl, hv, hb1⟩
  go_wp2_with fail
  go_ret
  exact ⟨_, rfl, hv, hb1⟩

theorem own_heap {w : World} {base e g n : Nat} {xs : List Value} (h : w.ownsRow base e 1 (.slice (some ⟨g, 0, none⟩) n n) n xs) : w.heap[g]? = some (.cells xs.toArray e (0, 0)) := by
  obtain ⟨hl, h | ⟨g', cap, cur, h1, h2, h3, h4, h5, h6, h7⟩⟩ := h
  · simp at h
  · simp only [Value.slice.injEq, Option.some.injEq, Addr.mk.injEq, and_true, true_and] at h1
    obtain ⟨rfl, rfl⟩ := h1
    rw [h3]
    have : cur.toList = xs := by
      rw [← h7, List.take_of_length_le (by simp; omega)]
    rw [← this]
theorem IVec.of_heap {w : World} {g n t : Nat} {zs : List Int} (hl : zs.length = n) (hn : n ≤ maxLen) (h : w.heap[g]? = some (.cells (zs.map (Value.int .i64)).toArray t (0, 0))) : IVec w (.slice (some ⟨g, 0, none⟩) n n) zs := by
  have hlt : g < w.heap.size := (Array.getElem?_eq_some_iff.1 h).1
  refine ⟨_, n, by rw [hl], by omega, hn, fun _ => ⟨g, 0, rfl, hlt, fun i hi => ?_⟩⟩
  simp [World.cell?, h, hi]

theorem copy_src {w : World} {pb : Option Addr} {cb : Nat} {ys : List Int} (h : IVec w (.slice pb ys.length cb) ys) (h0 : 0 < ys.length) : ∃ ad, pb = some ad ∧ ∀ j v, (ys.map (Value.int .i64))[j]? = some v → w.cell? (ad.add j) = some v := by
  obtain ⟨p, c, e, -, -, h4⟩ := h
  simp only [Value.slice.injEq, true_and] at e
  obtain ⟨b, off, hp, hlt, hc⟩ := h4 h0
  refine ⟨⟨b, off, none⟩, e.1.trans hp, fun j v hv => ?_⟩
  have hj : j < ys.length := by
    have := (List.getElem?_eq_some_iff.1 hv).1
    simpa using this
  have e1 : (⟨b, off, none⟩ : Addr).add j = ⟨b, off + j, none⟩ := by
    unfold Addr.add
    split
    · subst_vars; rfl
    · rfl
  rw [e1, hc j hj, ← hv]
  simp [hj]
theorem splice_zero (ys : List Int) (M : Nat) : splice (List.replicate M (Value.int .i64 0)) 0 (ys.map (Value.int .i64)) = (ys ++ List.replicate (M - ys.length) 0).map (Value.int .i64) := by
  simp [splice, List.drop_replicate]

set_option maxRecDepth 100000 in
set_option maxHeartbeats 800000 in
theorem sub_dead {sp : Value} (va vb : Value) (xs ys : List Int) (w : World) (hd : Dead w sp) (ha : IVec w va xs) (hb : IVec w vb ys) (hxl : xs.length ≤ 1000000) (hyl : ys.length ≤ 1000000) :
    Calls Try.prog 49 #[sp, va, vb] w (RetVec w (List.replicate (max xs.length ys.length) 0)) := by
  obtain ⟨i0, hi, hz0, hz1, hz2⟩ := info_parts Try.infoInt
  have HD := Lib.hid hd; clear hd
  have HA := Lib.hid ha
  have HB := Lib.hid hb
  obtain ⟨M, hM⟩ : ∃ M, M = max xs.length ys.length := ⟨_, rfl⟩
  have hMx : xs.length ≤ M := by omega
  have hMy : ys.length ≤ M := by omega
  have hMm : M ≤ 1000000 := by omega
  have hMo : M ≤ xs.length ∨ M ≤ ys.length := by omega
  have HMM := Lib.hid hM
  rw [← hM]
  clear hM
  obtain ⟨pa, ca, rfl, ha3, ha4, -⟩ := ha.shape
  obtain ⟨pb, cb, rfl, hb3, hb4, hb5⟩ := hb.shape
  have HB5 := Lib.hid hb5
  clear ha hb hb5
  have hsz : (Try.prog.info? 3).map (·.size) = some 1 := by rw [hi]; simp [hz1]
  go_enter Try.func49, Try.ntmps49
  go_wp2_with (first
    | (at_make; refine wpList_make_full _ rfl _ _ 34 rfl w.heap.size 3 i0 (.int .i64 0) 1 Try.underlying34 hi hz0 hz1 .i64 .i64 _ _ M rfl rfl (by omega) (by omega) (by rw [hz2]; omega) (by unfold maxLen; omega) (Nat.le_refl _) ?_; intro w0 hown0 hgrow0; rw [toList_madeCells_zero] at hown0; have hb0 : Below w.heap.size w w0 := (Below.refl _ _).grown hgrow0 (Nat.le_refl _) (fun k h => by cases h); have hh := own_heap hown0)
    | (with_reducible refine wpList_copy_splice rfl (.tmp 16) (.tmp 17) 34 34 rfl 3 Try.underlying34 hsz _ _ M M ys.length cb rfl rfl w.heap.size 0 _ 3 hh (ys.map (Value.int .i64)) (by rw [List.length_map]; exact (Nat.min_eq_left hMy).symm) (fun h0 => ⟨rfl, copy_src (HB.out.below hb0) (by simpa using h0)⟩) (by simp; omega) (ints_oneCell .i64 ys) w.heap.size w hb0 (Nat.le_refl _) ?_; intro w2 hh2 hb2))
  all_goals
    have HI : Hid (IVec w2 (.slice (some ⟨w.heap.size, 0, none⟩) M M) (ys ++ List.replicate (M - ys.length) 0)) := by
      refine IVec.of_heap (t := 3) (by simp; omega) (by unfold maxLen; omega) ?_
      rw [hh2.out, splice_zero]
    have HL : Hid ((ys ++ List.replicate (M - ys.length) (0 : Int)).length = M) := by show _ = _; simp; omega
    have HN := Lib.hid (symbvNot_dead _ _ w2 (HD.out.below hb2) HI.out (by rw [HL.out]; omega))
    rw [HL.out] at HN
    refine HN.out.mono ?_
    rintro e w3 ⟨v3, rfl, hv3, hb3'⟩
    have hb3 : Below w.heap.size w w3 := hb2.trans (hb3'.mono hb2.size)
    have HS := Lib.hid (sum_dead _ _ xs (List.replicate M 0) 1 w3 (HD.out.below hb3) (HA.out.below hb3) hv3 hxl (by simp; omega))
    have HB3 := Lib.hid hb3
    have HX : Hid (max xs.length (List.replicate M (0 : Int)).length = M) := by show _ = _; simp; omega
    rw [HX.out] at HS
    clear hv3 hb3 hb3' hh2 hb2 hh hb0 hown0 hgrow0
    go_wp2_with fail
    refine HS.out.mono ?_
    rintro e w4 ⟨v4, rfl, hv4, hb4⟩
    go_wp2_with fail
    go_ret
    exact ⟨_, rfl, hv4, HB3.out.trans (hb4.mono HB3.out.size)⟩

set_option maxRecDepth 100000 in
set_option maxHeartbeats 400000 in
theorem neg_dead {sp : Value} (va : Value) (xs : List Int) (w : World) (hd : Dead w sp) (ha : IVec w va xs) (hxl : xs.length ≤ 1000000) :
    Calls Try.prog 50 #[sp, va] w (RetVec w (List.replicate xs.length 0)) := by
  have HS := Lib.hid (sub_dead (.slice none 0 0) va [] xs w hd (IVec.nil w) ha (by simp) hxl)
  rw [show max ([] : List Int).length xs.length = xs.length by simp] at HS
  clear hd ha
  go_enter Try.func50, Try.ntmps50
  go_wp2_with fail
  refine HS.out.mono ?_
  rintro e w1 ⟨v, rfl, hv, hb1⟩
  go_wp2_with fail
  go_ret
  exact ⟨_, rfl, hv, hb1⟩

end Go.Proofs.Ytlnkflmnjkmhkaa
