/-
  Lemmas, joined: VecP2, VecP3, MeansP2, RefSlice.
-/
import Derived.Test.YtlnkflmnjkmhkaaJQ09
import Derived.Test.YtlnkflmnjkmhkaaJQ19
import Derived.Test.YtlnkflmnjkmhkaaJQ22
import Derived.Test.YtlnkflmnjkmhkaaJQ18
/-
  Contract of symbv.Slice.
-/
namespace Go.Proofs.Ytlnkflmnjkmhkaa
open Go.RowKit Go.Maps

def sliceL (xs : List Int) (hi lo : Int) : List Int := if lo < 0 ∨ hi < lo ∨ (xs.length : Int) ≤ lo then [] else (xs.drop lo.toNat).take ((min hi (xs.length - 1) + 1 - lo).toNat)

theorem sub_vec {w : World} {pa : Option Addr} {ca : Nat} {xs : List Int} (h : IVec w (.slice pa xs.length ca) xs) (L E : Nat) (hL : L < xs.length) (hE : E ≤ xs.length) (hLE : L ≤ E) :
    ∃ b0 o0, pa = some ⟨b0, o0, none⟩ ∧ IVec w (.slice (some ⟨b0, o0 + L, none⟩) (E - L) (ca - L)) ((xs.drop L).take (E - L)) := by
  obtain ⟨p, c, e, h2, h3, h4⟩ := h
  simp only [Value.slice.injEq, true_and] at e
  obtain ⟨b, off, hp, hlt, hc⟩ := h4 (by omega)
  obtain ⟨e1, e2⟩ := e
  have hl : ((xs.drop L).take (E - L)).length = E - L := by simp; omega
  refine ⟨b, off, e1.trans hp, some ⟨b, off + L, none⟩, ca - L, by rw [hl], by rw [hl]; omega, by omega, fun _ => ⟨b, off + L, rfl, hlt, fun i hi => ?_⟩⟩
  rw [hl] at hi
  rw [show off + L + i = off + (L + i) by omega, hc (L + i) (by omega)]
  congr 2
  rw [List.getD_eq_getElem?_getD, List.getD_eq_getElem?_getD, List.getElem?_take_of_lt hi, List.getElem?_drop]

set_option maxRecDepth 100000 in
set_option maxHeartbeats 1600000 in
theorem symbvSlice_any (va : Value) (xs : List Int) (hi lo : Int) (w : World) (ha : IVec w va xs) (hxl : xs.length ≤ 1000000) :
    Calls Try.prog 28 #[va, .int .i64 hi, .int .i64 lo] w (RetVecN w (sliceL xs hi lo)) := by
  have HA := Lib.hid ha
  obtain ⟨pa, ca, rfl, ha3, ha4, -⟩ := ha.shape
  have hem := own_empty w
  clear ha
  by_cases h0 : lo < 0
  · have HE : Hid (sliceL xs hi lo = []) := by show _ = _; unfold sliceL; rw [if_pos (Or.inl h0)]
    go_enter Try.func28, Try.ntmps28
    go_wp2_with fail
    go_ret
    exact ⟨_, rfl, by rw [HE.out]; exact IVec.nil _, fun k h => (by cases h), NilOk.nil, Below.refl _ _⟩
  · obtain ⟨L, rfl⟩ : ∃ L : Nat, lo = (L : Int) := ⟨lo.toNat, by omega⟩
    by_cases h1 : hi < (L : Int)
    · have HE : Hid (sliceL xs hi L = []) := by show _ = _; unfold sliceL; rw [if_pos (Or.inr (Or.inl h1))]
      go_enter Try.func28, Try.ntmps28
      go_wp2_with fail
      go_ret
      exact ⟨_, rfl, by rw [HE.out]; exact IVec.nil _, fun k h => (by cases h), NilOk.nil, Below.refl _ _⟩
    · by_cases h2 : xs.length ≤ L
      · have HE : Hid (sliceL xs hi L = []) := by show _ = _; unfold sliceL; rw [if_pos (Or.inr (Or.inr (by omega)))]
        go_enter Try.func28, Try.ntmps28
        go_wp2_with fail
        go_ret
        exact ⟨_, rfl, by rw [HE.out]; exact IVec.nil _, fun k h => (by cases h), NilOk.nil, Below.refl _ _⟩
      · obtain ⟨H, rfl⟩ : ∃ H : Nat, hi = (H : Int) := ⟨hi.toNat, by omega⟩
        by_cases h3 : (H : Int) ≤ (xs.length : Int) - 1
        · obtain ⟨b0, o0, rfl, hsub⟩ := sub_vec HA.out L (H + 1) (by omega) (by omega) (by omega)
          have HSUB := Lib.hid hsub
          have HE : Hid (sliceL xs (H : Int) (L : Int) = (xs.drop L).take (H + 1 - L)) := by
            show _ = _
            unfold sliceL
            rw [if_neg (by omega)]
            congr 1
            omega
          have hk : ¬ ca = L := by omega
          clear hsub h0
          go_enter Try.func28, Try.ntmps28
          go_wp2_with (at_builtin; refine append_vec rfl (.tmp 20) (.tmp 29) rfl w.heap.size _ [] rfl hem _ ((xs.drop L).take (H + 1 - L)) rfl (HSUB.out.below ((Below.refl w.heap.size w).alloc (Nat.le_refl _) _)) (NilOk.some _ _ _) (by simp; omega) (by simp) ?_; intro v1 w1 hown1 hgrow1; have hb1 : Below w.heap.size w w1 := ((Below.refl w.heap.size w).alloc (Nat.le_refl _) _).grown hgrow1 (by simp) (fun k h => by cases h; exact Nat.le_refl _))
          obtain ⟨q1, q2, q3⟩ := own_new hown1
          have Q : Hid (IVec w1 v1 ((xs.drop L).take (H + 1 - L)) ∧ (∀ k, v1.ownBlock = some k → 0 < ((xs.drop L).take (H + 1 - L)).length → w.heap.size ≤ k) ∧ NilOk v1 ∧ Below w.heap.size w w1) := ⟨q1, q2, q3, hb1⟩
          clear q1 q2 q3 hb1 hown1 hgrow1 hem
          go_ret
          exact ⟨_, rfl, by rw [HE.out]; exact Q.out⟩
        · obtain ⟨b0, o0, rfl, hsub⟩ := sub_vec HA.out L xs.length (by omega) (by omega) (by omega)
          have HSUB := Lib.hid hsub
          have HE : Hid (sliceL xs (H : Int) (L : Int) = (xs.drop L).take (xs.length - L)) := by
            show _ = _
            unfold sliceL
            rw [if_neg (by omega)]
            congr 1
            omega
          have hk : ¬ ca = L := by omega
          clear hsub h0
          go_enter Try.func28, Try.ntmps28
          go_wp2_with (at_builtin; refine append_vec rfl (.tmp 20) (.tmp 29) rfl w.heap.size _ [] rfl hem _ ((xs.drop L).take (xs.length - L)) rfl (HSUB.out.below ((Below.refl w.heap.size w).alloc (Nat.le_refl _) _)) (NilOk.some _ _ _) (by simp; omega) (by simp) ?_; intro v1 w1 hown1 hgrow1; have hb1 : Below w.heap.size w w1 := ((Below.refl w.heap.size w).alloc (Nat.le_refl _) _).grown hgrow1 (by simp) (fun k h => by cases h; exact Nat.le_refl _))
          obtain ⟨q1, q2, q3⟩ := own_new hown1
          have Q : Hid (IVec w1 v1 ((xs.drop L).take (xs.length - L)) ∧ (∀ k, v1.ownBlock = some k → 0 < ((xs.drop L).take (xs.length - L)).length → w.heap.size ≤ k) ∧ NilOk v1 ∧ Below w.heap.size w w1) := ⟨q1, q2, q3, hb1⟩
          clear q1 q2 q3 hb1 hown1 hgrow1 hem
          go_ret
          exact ⟨_, rfl, by rw [HE.out]; exact Q.out⟩

end Go.Proofs.Ytlnkflmnjkmhkaa

/-
  Contract of symbv.Const: in memory of its own.
-/
namespace Go.Proofs.Ytlnkflmnjkmhkaa
open Go.RowKit Go.Maps

set_option maxRecDepth 100000 in
set_option maxHeartbeats 400000 in
theorem const_new (n : Nat) (k : Int) (w : World) (hn : n < B * B) :
    Calls Try.prog 19 #[numV n, .int .i64 k] w (RetVecN w (constBits n (max 0 (min k 256)).toNat)) := by
  obtain ⟨i0, hi, hz0, hz1, hz2⟩ := info_parts Try.infoInt
  obtain ⟨M, hM⟩ : ∃ M, M = (max 0 (min k 256)).toNat := ⟨_, rfl⟩
  have hM1 : M ≤ 256 := by omega
  have HW : Hid (∀ W, Calls Try.prog 79 #[.int .i64 k] W fun e w' => e = .returned (.int .i64 (M : Int)) ∧ W = w') := by
    show ∀ _, _
    rw [hM]; exact width_any k
  rw [← hM]
  clear hM
  obtain ⟨y, z, he, -, -⟩ := numV_parts n
  have HN : Hid (∀ (i : Nat) W, Calls Try.prog 80 #[.agg #[.int .u64 (y : Int), .int .u64 (z : Int)], .int .i64 (i : Int)] W fun e w' => e = .returned (.bool (bitB n (i : Nat))) ∧ Below W.heap.size W w') := by
    show ∀ _ _, _
    rw [← he]; exact fun i W => numBit_any n i W hn
  clear hn
  rw [he]
  clear he
  go_enter Try.func19, Try.ntmps19
  go_wp2_with (first
    | (go_at_call 79; refine (HW.out _).mono ?_; rintro e w1 ⟨rfl, rfl⟩)
    | (at_make; refine wpList_make_full _ rfl _ _ 34 rfl (w.heap.size + 1) 3 i0 (.int .i64 0) 1 Try.underlying34 hi hz0 hz1 .i64 .i64 _ _ M rfl rfl rfl rfl (by rw [hz2]; omega) (by unfold maxLen; omega) (by simp) ?_; intro w0 hown0 hgrow0))
  rw [toList_madeCells_zero, ← constTo_zero n] at hown0
  have hsz : (w.alloc (.cells #[.int .u64 (y : Int), .int .u64 (z : Int)] 41)).heap.size = w.heap.size + 1 := by simp
  rw [hsz] at hown0
  clear hsz
  have hb0 : Below (w.heap.size + 1) (w.alloc (.cells #[.int .u64 (y : Int), .int .u64 (z : Int)] 41)) w0 := (Below.refl _ _).grown hgrow0 (by simp) (fun k h => by cases h)
  go_loopw [12] (fun i wr => ∃ k : Nat, k ≤ M ∧ i = .int .i64 k ∧ wr.ownsRow (w.heap.size + 1) 3 1 (.slice (some ⟨w.heap.size + 1, 0, none⟩) M M) M (constTo n M k) ∧ Below (w.heap.size + 1) (w.alloc (.cells #[.int .u64 (y : Int), .int .u64 (z : Int)] 41)) wr)
    (fun i _ => M - (intOf i).toNat)
  case atStart => exact ⟨0, Nat.zero_le _, rfl, hown0, hb0⟩
  case round =>
    obtain ⟨k, hk, rfl, hown, hnx⟩ := hrel
    have hsize := hnx.size
    simp at hsize
    by_cases hlt : k < M
    · have hcy : wr.cell? ⟨w.heap.size, 0, none⟩ = some (.int .u64 (y : Int)) := by rw [hnx.cell (p := ⟨w.heap.size, 0, none⟩) (by simp)]; simp [go_sem]
      have hcz : wr.cell? ⟨w.heap.size, 1, none⟩ = some (.int .u64 (z : Int)) := by rw [hnx.cell (p := ⟨w.heap.size, 1, none⟩) (by simp)]; simp [go_sem]
      by_cases hbit : bitB n (k : Nat) = true
      · have HS := Lib.hid (constTo_yes n M k hlt hbit)
        go_wp2_with fail
        refine (HN.out k _).mono ?_
        rintro e w1 ⟨rfl, hb1⟩
        have hown1 := own_below hown hb1
        have z1 : ∃ x, w1.cell? ⟨w.heap.size + 1, k, none⟩ = some x := by
          rw [hown1.cellAt k (by omega)]; exact ⟨_, List.getElem?_eq_getElem (by simp [constTo]; omega)⟩
        obtain ⟨x, z1⟩ := z1
        have z2 := hown1.frozenAt k
        have Z := Lib.hid (hown1.stored k (.int .i64 1)).1
        have hz := hb1.size
        go_wp2_with fail
        go_roundw
        case rel => exact ⟨k + 1, by omega, by go_num, HS.out ▸ Z.out, (hnx.trans (hb1.mono (by omega))).setCell (by simp) _⟩
        case measure => simp [intOf]; omega
      · have hbit' : bitB n (k : Nat) = false := by simpa using hbit
        have HS := Lib.hid (constTo_no n M k hbit')
        clear hbit
        go_wp2_with fail
        refine (HN.out k _).mono ?_
        rintro e w1 ⟨rfl, hb1⟩
        have hown1 := Lib.hid (own_below hown hb1)
        have hz := hb1.size
        go_wp2_with fail
        go_roundw
        case rel => exact ⟨k + 1, by omega, by go_num, HS.out ▸ hown1.out, hnx.trans (hb1.mono (by omega))⟩
        case measure => simp [intOf]; omega
    · obtain rfl : k = M := by omega
      go_wp2_with fail
      go_ret
      exact ⟨_, rfl, IVec.of_owns (n := k) (constBits_len _ _) (constTo_end n k ▸ hown), fun j hj _ => (by cases hj; exact Nat.le_succ _), NilOk.some _ _ _, ((Below.refl _ _).alloc (Nat.le_refl _) _).trans (hnx.mono (by omega))⟩

end Go.Proofs.Ytlnkflmnjkmhkaa

/-
  The plain law of SymbvMeans: the numbers of the ten vectors that are made.
-/
namespace Go.Proofs.Ytlnkflmnjkmhkaa
open Go.RowKit Go.Maps

/-- The store and the vectors at the start: variables of two numbers, the highest bit first, and a constant. -/
structure MS (W X n : Nat) (s : BS) (xs ys cs : List Int) : Prop where
  good : GoodS 20000 8 s
  lx : xs.length = W
  ly : ys.length = X
  lc : cs.length = 6
  ax : AllIs s.nodes xs
  ay : AllIs s.nodes ys
  ac : AllIs s.nodes cs
  vx : ∀ q i, i < W → valP s.nodes q (xs.getD i 0) = q ((W - 1 - i : Nat) : Int)
  vy : ∀ q i, i < X → valP s.nodes q (ys.getD i 0) = q ((W + (X - 1 - i) : Nat) : Int)
  vc : ∀ q i, i < 6 → valP s.nodes q (cs.getD i 0) = n.testBit i

theorem getD_reverse (xs : List Int) (i : Nat) (h : i < xs.length) : xs.reverse.getD i 0 = xs.getD (xs.length - 1 - i) 0 := by
  rw [List.getD_eq_getElem?_getD, List.getD_eq_getElem?_getD, List.getElem?_reverse h]
theorem AllIs.reverse {l : List T3} {xs : List Int} (h : AllIs l xs) : AllIs l xs.reverse := fun i => by
  by_cases hi : i < xs.length
  · rw [getD_reverse xs i hi]; exact h _
  · rw [List.getD_eq_getElem?_getD, List.getElem?_eq_none (by simp; omega)]; exact is_zero _

theorem constBits_getD (n m i : Nat) (hi : i < m) : (constBits n m).getD i 0 = if bitB n (i : Nat) then 1 else 0 := by
  simp [constBits, hi]

theorem means_start (W X n : Nat) (hW : W ≤ 4) (hX : X ≤ 4) : MS W X n (varsS (W : Int) X (varsS 0 W ⟨20000, [], false⟩).1).1 (varsS 0 W ⟨20000, [], false⟩).2.reverse (varsS (W : Int) X (varsS 0 W ⟨20000, [], false⟩).1).2.reverse (constBits n 6) := by
  have g0 : GoodS 20000 0 ⟨20000, [], false⟩ := ⟨rfl, ⟨by simp, by simp, by simp, by simp, by simp⟩, fun t ht => by simp at ht, rfl, Nat.le_refl _⟩
  obtain ⟨a1, a2, a3, a4⟩ := vars_good g0 0 W (by omega) (by omega)
  have e0 : ((0 : Nat) : Int) = 0 := rfl
  rw [e0] at a1 a2 a3 a4
  obtain ⟨b1, b2, b3, b4⟩ := vars_good a1 W X (by omega) (by omega)
  have la := varsS_len 0 W ⟨20000, [], false⟩
  have lb := varsS_len (W : Int) X (varsS 0 W ⟨20000, [], false⟩).1
  refine ⟨b1.mono (by omega), by rw [List.length_reverse, la], by rw [List.length_reverse, lb], constBits_len _ _, (b2.all a3).reverse, b3.reverse, fun i => ?_, fun q i hi => ?_, fun q i hi => ?_, fun q i hi => ?_⟩
  · by_cases hi : i < 6
    · rw [constBits_getD n 6 i hi]
      split
      · exact is_one _
      · exact is_zero _
    · rw [List.getD_eq_getElem?_getD, List.getElem?_eq_none (by rw [constBits_len]; omega)]; exact is_zero _
  · rw [getD_reverse _ i (by rw [la]; exact hi), la, b2.val a1.ord q (a3 _), a4 q _ (by omega), Nat.zero_add]
  · rw [getD_reverse _ i (by rw [lb]; exact hi), lb, b4 q _ (by omega)]
  · rw [constBits_getD n 6 i hi]
    have hb : bitB n (i : Nat) = n.testBit i := by unfold bitB; simp; omega
    rw [hb]
    cases n.testBit i
    · exact val_zero _ q
    · exact val_one _ q

/-- The numbers of both vectors of variables under bits. -/
def pN (W : Nat) (q : Int → Bool) : Nat := ofBits (fun j => q ((W - 1 - j : Nat) : Int)) W
def kN (W X : Nat) (q : Int → Bool) : Nat := ofBits (fun j => q ((W + (X - 1 - j) : Nat) : Int)) X

/-- A vector of a store has a number under all bits. -/
def Means (s : BS) (r : List Int) (m : (Int → Bool) → Nat) : Prop := r.length ≤ 128 ∧ AllIs s.nodes r ∧ ∀ q, evalV s.nodes q r = m q

theorem Means.grew {s s' : BS} {r : List Int} {m : (Int → Bool) → Nat} (h : Means s r m) (g : Grew s s') (ho : Ord s.nodes) : Means s' r m := by
  obtain ⟨h1, h2, h3⟩ := h
  refine ⟨h1, g.all h2, fun q => ?_⟩
  rw [← h3 q]
  apply Nat.eq_of_testBit_eq
  intro i
  rw [evalV_bit q (g.all h2) h1, evalV_bit q h2 h1, g.val ho q (h2 i)]

theorem Means.mk' {s : BS} {r : List Int} {m : (Int → Bool) → Nat} (hl : r.length ≤ 128) (ha : AllIs s.nodes r) (h : ∀ q i, (decide (i < r.length) && valP s.nodes q (r.getD i 0)) = (m q).testBit i) : Means s r m :=
  ⟨hl, ha, fun q => by
    apply Nat.eq_of_testBit_eq
    intro i
    rw [evalV_bit q ha hl, h q i]⟩

theorem MS.bx {W X n : Nat} {s : BS} {xs ys cs : List Int} (h : MS W X n s xs ys cs) (q : Int → Bool) (i : Nat) : (pN W q).testBit i = valP s.nodes q (xs.getD i 0) := by
  unfold pN
  rw [ofBits_testBit]
  by_cases hi : i < W
  · rw [h.vx q i hi]; simp [hi]
  · rw [List.getD_eq_getElem?_getD, List.getElem?_eq_none (by rw [h.lx]; omega)]
    show _ = valP s.nodes q 0
    rw [val_zero]
    simp [hi]
theorem MS.by' {W X n : Nat} {s : BS} {xs ys cs : List Int} (h : MS W X n s xs ys cs) (q : Int → Bool) (i : Nat) : (kN W X q).testBit i = valP s.nodes q (ys.getD i 0) := by
  unfold kN
  rw [ofBits_testBit]
  by_cases hi : i < X
  · rw [h.vy q i hi]; simp [hi]
  · rw [List.getD_eq_getElem?_getD, List.getElem?_eq_none (by rw [h.ly]; omega)]
    show _ = valP s.nodes q 0
    rw [val_zero]
    simp [hi]
theorem MS.bc {W X n : Nat} {s : BS} {xs ys cs : List Int} (h : MS W X n s xs ys cs) (q : Int → Bool) (i : Nat) : (n % 2 ^ 6).testBit i = valP s.nodes q (cs.getD i 0) := by
  rw [Nat.testBit_mod_two_pow]
  by_cases hi : i < 6
  · rw [h.vc q i hi]; simp [hi]
  · rw [List.getD_eq_getElem?_getD, List.getElem?_eq_none (by rw [h.lc]; omega)]
    show _ = valP s.nodes q 0
    rw [val_zero]
    simp [hi]

theorem valP_none {l : List T3} {q : Int → Bool} {xs : List Int} {i : Nat} (h : ¬ i < xs.length) : valP l q (xs.getD i 0) = false := by
  rw [List.getD_eq_getElem?_getD, List.getElem?_eq_none (by omega)]
  exact val_zero l q

/-- Of two vectors element by element: an operation that makes 0 of two 0. -/
theorem zip_means {A N : Nat} {op : (Int → Bool) → Bool → Bool → Bool} {g : BS → Int → Int → BS × Int} {s : BS} (hg : StepOk s 20000 A op g) (h : GoodS 20000 N s) {xs ys : List Int} (hx : AllIs s.nodes xs) (hy : AllIs s.nodes ys) (hl : max xs.length ys.length ≤ 128) (hN : N + max xs.length ys.length * A < 20000)
    {m : (Int → Bool) → Nat} (hop : ∀ q, op q false false = false) (hm : ∀ q i, (m q).testBit i = op q (valP s.nodes q (xs.getD i 0)) (valP s.nodes q (ys.getD i 0))) :
    GoodS 20000 (N + max xs.length ys.length * A) (zipS g xs ys (max xs.length ys.length) s).1 ∧ Grew s (zipS g xs ys (max xs.length ys.length) s).1 ∧ Means (zipS g xs ys (max xs.length ys.length) s).1 (zipS g xs ys (max xs.length ys.length) s).2 m := by
  obtain ⟨h1, h2, h3, h4⟩ := zip_good hg h hx hy _ hN
  have hlen := zipS_len g xs ys (max xs.length ys.length) s
  refine ⟨h1, h2, Means.mk' (by rw [hlen]; exact hl) h3 fun q i => ?_⟩
  rw [hlen, hm q i]
  by_cases hi : i < max xs.length ys.length
  · rw [h4 q i hi]; simp [hi]
  · rw [valP_none (xs := xs) (by omega), valP_none (xs := ys) (by omega), hop q]
    simp [hi]

theorem mux_step {base : BS} {N0 : Nat} (hb : GoodS 20000 N0 base) {c : Int} (hc : Is base.nodes c) {sel : (Int → Bool) → Bool} (hs : ∀ q, valP base.nodes q c = sel q) : StepOk base 20000 255 (fun q x y => if sel q then x else y) (fun s x y => iteF s c x y) := fun N s x y hg h hN hx hy => by
  obtain ⟨h1, h2, h3, h4⟩ := iteF_good h hN c x y
  refine ⟨h1, h2, h3, fun q => ?_⟩
  rw [h4 q, rightP_of_is (hg.is hc).1, rightP_of_is hx, rightP_of_is hy, hg.val hb.ord q hc, hs q]

theorem map_means {N : Nat} {s : BS} (h : GoodS 20000 N s) {xs : List Int} (hx : AllIs s.nodes xs) (hl : xs.length ≤ 128) (hN : N + xs.length * 255 < 20000) {m : (Int → Bool) → Nat}
    (hm : ∀ q i, (m q).testBit i = (decide (i < xs.length) && !valP s.nodes q (xs.getD i 0))) :
    GoodS 20000 (N + xs.length * 255) (mapS notF xs xs.length s).1 ∧ Grew s (mapS notF xs xs.length s).1 ∧ Means (mapS notF xs xs.length s).1 (mapS notF xs xs.length s).2 m := by
  obtain ⟨h1, h2, h3, h4⟩ := map_good rfl h hx _ hN
  have hlen := mapS_len notF xs xs.length s
  refine ⟨h1, h2, Means.mk' (by rw [hlen]; exact hl) h3 fun q i => ?_⟩
  rw [hlen, hm q i]
  by_cases hi : i < xs.length
  · rw [h4 q i hi]
  · simp [hi]

theorem getD_append_l (xs ys : List Int) (i : Nat) (h : i < xs.length) : (xs ++ ys).getD i 0 = xs.getD i 0 := by
  rw [List.getD_eq_getElem?_getD, List.getElem?_append_left h, ← List.getD_eq_getElem?_getD]
theorem getD_append_r (xs ys : List Int) (i : Nat) (h : xs.length ≤ i) : (xs ++ ys).getD i 0 = ys.getD (i - xs.length) 0 := by
  rw [List.getD_eq_getElem?_getD, List.getElem?_append_right h, ← List.getD_eq_getElem?_getD]
theorem getD_repl (n i : Nat) : (List.replicate n (0 : Int)).getD i 0 = 0 := by
  rw [List.getD_eq_getElem?_getD, List.getElem?_replicate]
  split <;> rfl
theorem getD_take (xs : List Int) (n i : Nat) : (xs.take n).getD i 0 = if i < n then xs.getD i 0 else 0 := by
  rw [List.getD_eq_getElem?_getD, List.getElem?_take]
  split
  · rw [← List.getD_eq_getElem?_getD]
  · rfl
theorem getD_drop (xs : List Int) (n i : Nat) : (xs.drop n).getD i 0 = xs.getD (n + i) 0 := by
  rw [List.getD_eq_getElem?_getD, List.getElem?_drop, ← List.getD_eq_getElem?_getD]
theorem getD_over (xs : List Int) (i : Nat) (h : xs.length ≤ i) : xs.getD i 0 = 0 := by
  rw [List.getD_eq_getElem?_getD, List.getElem?_eq_none h]; rfl

theorem getD_resize (xs : List Int) (M i : Nat) : (resizeL xs M).getD i 0 = if i < M then xs.getD i 0 else 0 := by
  unfold resizeL
  by_cases h : i < (xs.take M).length
  · rw [getD_append_l _ _ _ h, getD_take]
  · rw [getD_append_r _ _ _ (by omega), getD_repl]
    split
    · rw [getD_over]; simp at h; omega
    · rfl
theorem getD_shl (xs : List Int) (k i : Nat) (hk : k ≤ xs.length) : (shlL xs k).getD i 0 = if k ≤ i ∧ i < xs.length then xs.getD (i - k) 0 else 0 := by
  unfold shlL
  rw [Nat.min_eq_left hk]
  by_cases h : i < k
  · rw [getD_append_l _ _ _ (by simpa using h), getD_repl, if_neg (by omega)]
  · rw [getD_append_r _ _ _ (by simp; omega), getD_take, List.length_replicate]
    by_cases h2 : i < xs.length
    · rw [if_pos (by omega), if_pos (by omega)]
    · rw [if_neg (by omega), if_neg (by omega)]
theorem getD_shr (xs : List Int) (k i : Nat) : (shrL xs k).getD i 0 = xs.getD (k + i) 0 := by
  unfold shrL
  by_cases h : i < (xs.drop k).length
  · rw [getD_append_l _ _ _ h, getD_drop]
  · rw [getD_append_r _ _ _ (by omega), getD_repl, getD_over]
    simp at h; omega
theorem getD_slice (xs : List Int) (hi lo i : Nat) (h : lo ≤ hi) : (sliceL xs (hi : Int) (lo : Int)).getD i 0 = if lo + i ≤ hi then xs.getD (lo + i) 0 else 0 := by
  unfold sliceL
  by_cases hl : xs.length ≤ lo
  · rw [if_pos (by omega)]
    show (0 : Int) = _
    split
    · rw [getD_over]; omega
    · rfl
  · rw [if_neg (by omega), getD_take, getD_drop]
    have e : ((lo : Int)).toNat = lo := by omega
    rw [e]
    by_cases h1 : lo + i ≤ hi
    · rw [if_pos h1]
      by_cases h2 : lo + i < xs.length
      · rw [if_pos (by omega)]
      · rw [getD_over xs _ (by omega)]
        split <;> rfl
    · rw [if_neg h1, if_neg (by omega)]

theorem AllIs.sub {l : List T3} {xs ys : List Int} (h : AllIs l xs) (hs : ∀ i, (∃ j, ys.getD i 0 = xs.getD j 0) ∨ ys.getD i 0 = 0) : AllIs l ys := fun i => by
  rcases hs i with ⟨j, e⟩ | e
  · rw [e]; exact h j
  · rw [e]; exact is_zero _

theorem pN_lt (W : Nat) (q : Int → Bool) (hW : W ≤ 4) : pN W q < 2 ^ W ∧ pN W q < B * B := by
  have := ofBits_lt (fun j => q ((W - 1 - j : Nat) : Int)) W
  refine ⟨this, ?_⟩
  rw [BB_pow2]
  exact Nat.lt_of_lt_of_le this (Nat.pow_le_pow_right (by omega) (by omega))

end Go.Proofs.Ytlnkflmnjkmhkaa

/-
  Contract of quillonref01.Slice.
-/
namespace Go.Proofs.Ytlnkflmnjkmhkaa
open Go.RowKit

/-- The bits of a number from lo to hi. -/
def sliceN (n : Nat) (hi lo : Int) : Nat := if lo < 0 ∨ hi < lo then 0 else n / 2 ^ sh lo % 2 ^ sh (min hi 127 - lo + 1)

theorem sliceN_bits (n L M : Nat) (hi : Int) (hn : n < 2 ^ 128) (hM : M = max L (min 128 (hi + 1).toNat)) (i : Nat) (hi8 : i < 128) : (decide (L + i < M) && n.testBit (L + i)) = (sliceN n hi (L : Int)).testBit i := by
  unfold sliceN
  by_cases h : hi < (L : Int)
  · rw [if_pos (by omega)]
    have : decide (L + i < M) = false := by simp; omega
    rw [this]
    simp
  · rw [if_neg (by omega), Nat.testBit_mod_two_pow, Nat.testBit_div_two_pow]
    by_cases hL : 128 ≤ L
    · have : decide (L + i < M) = false := by simp; omega
      rw [this]
      have e : sh (L : Int) = 128 := by unfold sh; omega
      have q : n.testBit (i + 128) = false := Nat.testBit_lt_two_pow (Nat.lt_of_lt_of_le hn (Nat.pow_le_pow_right (by omega) (by omega)))
      rw [e, q]
      simp
    · have e : sh (L : Int) = L := by unfold sh; omega
      rw [e, Nat.add_comm i L]
      congr 1
      unfold sh
      simp only [decide_eq_decide]
      omega
theorem sliceN_lt (n : Nat) (hi lo : Int) (hn : n < B * B) : sliceN n hi lo < B * B := by
  unfold sliceN
  split
  · rw [BB_pow2]; exact Nat.two_pow_pos _
  · exact Nat.lt_of_le_of_lt (Nat.le_trans (Nat.mod_le _ _) (Nat.div_le_self _ _)) hn

set_option maxRecDepth 100000 in
set_option maxHeartbeats 4000000 in
theorem refSlice_nat (n L : Nat) (hi : Int) (hn : n < B * B) (w : World) :
    Calls Try.prog 39 #[numV n, .int .i64 hi, .int .i64 (L : Int)] w (RetNum w (sliceN n hi (L : Int))) := by
  obtain ⟨f, hf⟩ : ∃ f, f = n.testBit := ⟨_, rfl⟩
  have HA : Hid (∀ W, Calls Try.prog 88 #[numV n] W fun e w' => e = .returned (.agg (rowA f)) ∧ Below W.heap.size W w') := fun W => by rw [hf]; exact refBits_any n hn W
  have HF := Lib.hid hf
  obtain ⟨h1, l1, e1, -, -⟩ := numV_parts n
  rw [e1] at HA ⊢
  clear e1 hf
  go_enter Try.func39, Try.ntmps39
  go_wp2_with fail
  refine (HA.out _).mono ?_
  rintro e w1 ⟨rfl, hb1⟩
  obtain ⟨W0, hW0⟩ : ∃ W0, W0 = (w.alloc (.cells #[.int .u64 (h1 : Int), .int .u64 (l1 : Int)] 41)).alloc (.cells #[.int .u64 0, .int .u64 0] 41) := ⟨_, rfl⟩
  have hbW : Below w.heap.size w W0 := by rw [hW0]; exact (by repeat (first | exact Below.refl _ _ | assumption | refine Below.drew ?_ | refine Below.alloc ?_ (by first | omega | (simp <;> omega)) _ | refine Below.setCell ?_ (by first | omega | (simp <;> omega)) _ | refine Below.trans ?_ (Below.mono (by assumption) (by first | omega | (simp <;> omega)))))
  have z1 : w.heap.size + 1 < W0.heap.size := by rw [hW0]; simp
  have cr : W0.heap[w.heap.size + 1]? = some (.cells #[.int .u64 0, .int .u64 0] 41 (0, 0)) := by
    rw [hW0]
    have := heap_new (w.alloc (.cells #[.int .u64 (h1 : Int), .int .u64 (l1 : Int)] 41)) (.cells #[.int .u64 0, .int .u64 0] 41)
    simp only [World.size_alloc] at this
    exact this
  rw [← hW0] at hb1
  have hs1 := hb1.size
  have cr1 := (hb1.block _ z1).trans cr
  have HB1 : Hid (Below w.heap.size w w1) := hbW.trans (hb1.mono hbW.size)
  clear hb1 hW0 hbW cr
  have hZ : Try.zeroCells120 = rowA fun _ => false := by kernel_rfl
  have hnew := heap_new w1 (.cells Try.zeroCells120 120)
  have HZS : Hid ((Try.zeroCells120).size = 128) := by show _ = _; rw [hZ]; exact rowA_size _
  have hset := setRow_heap _ _ _ (rowA f) _ _ hnew
  have HNW := Lib.hid hnew
  have hal := heap_new ((w1.alloc (.cells Try.zeroCells120 120)).setRow w1.heap.size (rowA f)) (.cells Try.zeroCells120 120)
  simp only [setRow_size, World.size_alloc] at hal
  have hzz : ∀ i, i < 128 → (fun _ => false : Nat → Bool) i = (fun k i => decide (L + i < k) && f (L + i)) L i := fun i _ => by simp; intro h; omega
  have hez : Try.zeroCells120 = rowA ((fun k i => decide (L + i < k) && f (L + i)) L) := hZ.trans (rowA_congr hzz)
  have H0 : Hid (In2 (fun k i => decide (L + i < k) && f (L + i)) f w w1.heap.size (w1.heap.size + 1) (w.heap.size + 1) L (((w1.alloc (.cells Try.zeroCells120 120)).setRow w1.heap.size (rowA f)).alloc (.cells Try.zeroCells120 120))) := by
    refine ⟨?_, hal.trans (by rw [hez]), ⟨.int .u64 0, .int .u64 0, ?_⟩, ?_⟩
    · rw [Below.heap_alloc _ _ _ (by simp), hset]
    · rw [Below.heap_alloc _ _ _ (by simp; omega), setRow_other _ _ _ _ (by omega), Below.heap_alloc _ _ _ (by omega)]
      exact cr1
    · exact (below_setRow (HB1.out.alloc (by omega) _) (by omega) _).alloc (by simp; omega) _
  clear hZ hnew hset hal hzz hez cr1 HA
  go_wp2_with (refine wpList_store_row rfl 120 (.tmp 7) (.tmp 14) rfl w1.heap.size (rowA f) rfl rfl 120 _ HNW.out (by rw [rowA_size]; exact infoRow) (by rw [rowA_size]; exact HZS.out) (rowA_one _) ?_)
  clear HNW HZS HB1
  generalize (((w1.alloc (.cells Try.zeroCells120 120)).setRow w1.heap.size (rowA f)).alloc (.cells Try.zeroCells120 120)) = W2 at *
  obtain ⟨M, hM⟩ : ∃ M : Nat, M = max L (min 128 (hi + 1).toNat) := ⟨_, rfl⟩
  obtain ⟨g, hg⟩ : ∃ g : Nat → Bool, g = fun i => decide (L + i < M) && f (L + i) := ⟨_, rfl⟩
  have HE : Hid (ofBits g 128 = sliceN n hi (L : Int)) := by
    show _ = _
    refine ofBits_eq (by rw [← BB_pow2]; exact sliceN_lt n hi _ hn) fun i hi8 => ?_
    rw [hg, HF.out]
    exact sliceN_bits n L M hi (by rw [← BB_pow2]; exact hn) hM i hi8
  have HG : Hid (∀ i, i < 128 → g i = (fun k i => decide (L + i < k) && f (L + i)) M i) := fun i _ => by rw [hg]
  clear hg
  have hM1 : L ≤ M := by omega
  have hM2 : ∀ k : Nat, L ≤ k → k < M → k < 128 ∧ (k : Int) ≤ hi := fun k h1 h2 => by omega
  have hM3 : 128 ≤ M ∨ hi < (M : Int) := by omega
  have HM2 := Lib.hid hM2
  have HM3 := Lib.hid hM3
  clear hM hM2 hM3
  go_loopw [9] (fun i wr => ∃ k : Nat, L ≤ k ∧ k ≤ M ∧ i = .int .i64 k ∧ Hid (In2 (fun k i => decide (L + i < k) && f (L + i)) f w w1.heap.size (w1.heap.size + 1) (w.heap.size + 1) k wr)) (fun i _ => M - (intOf i).toNat)
  case atStart => exact ⟨L, Nat.le_refl _, hM1, rfl, H0⟩
  case round =>
    obtain ⟨k, hk, hkM, rfl, HK⟩ := hrel
    by_cases hlt : k < M
    · obtain ⟨hk8, hkh⟩ := HM2.out k hk hlt
      obtain ⟨r1, ⟨c2, r2⟩, r3⟩ := HK.out.cells (i := k) (j := k - L) (by omega) (by omega)
      have hx0 : (0 : Int) ≤ (k : Int) - L := by omega
      have hx1 : (k : Int) - L < 128 := by omega
      have hx2 : ((k : Int) - L).toNat = k - L := by omega
      go_wp2_with fail
      go_roundw
      case rel => exact ⟨k + 1, by omega, by omega, by go_num, HK.out.step (by omega) (by omega) (by omega) (fun i _ => by
        unfold put
        by_cases e : i = k - L
        · subst e
          have e2 : L + (k - L) = k := by omega
          simp [e2]
        · have e1 : decide (L + i < k + 1) = decide (L + i < k) := by simp; omega
          simp [e, e1])⟩
      case measure => simp [intOf]; omega
    · obtain rfl : k = M := by omega
      have hM3 := HM3.out
      clear HM2 HM3
      by_cases hk8 : k < 128
      · have hhk : hi < (k : Int) := by omega
        clear hM3
        obtain ⟨-, r1, ⟨x0, x1, r3⟩, r4⟩ := HK.out
        have e : rowA ((fun k i => decide (L + i < k) && f (L + i)) k) = rowA g := rowA_congr fun i hi => (HG.out i hi).symm
        rw [e] at r1
        clear e
        have HNUM : Hid (∀ W, Calls Try.prog 89 #[.agg (rowA g)] W (RetNum W (sliceN n hi (L : Int)))) := fun W => by rw [← HE.out]; exact refNum_any _ W
        have HB4 := Lib.hid r4
        have H3 := Lib.hid r3
        clear r3 r4 HE HK H0 HG
        have hRR : (rowA g).size = 128 := rowA_size _
        generalize rowA g = RR at r1 HNUM hRR
        go_wp2_with (first
          | (refine wpList_load_row rfl 120 (.tmp 8) rfl (w1.heap.size + 1) rfl 120 RR (0, 0) _ r1 Try.underlying120 rfl (by rw [hRR]; exact infoRow) ?_))
        clear r1
        obtain ⟨h3, l3, e3, -, -⟩ := numV_parts (sliceN n hi (L : Int))
        have HE3 := Lib.hid e3
        have HNUM2 : Hid (∀ W, Calls Try.prog 89 #[.agg RR] W fun e w' => e = .returned (.agg #[.int .u64 (h3 : Int), .int .u64 (l3 : Int)]) ∧ Below W.heap.size W w') := fun W => by rw [← HE3.out]; exact HNUM.out W
        clear HNUM e3
        refine (HNUM2.out _).mono ?_
        rintro e w3 ⟨rfl, hb1⟩
        have hr := (hb1.block (w.heap.size + 1) (lt_of_block H3.out)).trans H3.out
        have q0 : w3.cell? ⟨w.heap.size + 1, 0, none⟩ = some x0 := by simp [World.cell?, hr]
        have q1 : w3.cell? ⟨w.heap.size + 1, 1, none⟩ = some x1 := by simp [World.cell?, hr]
        have qz : ∀ j, w3.frozen? ⟨w.heap.size + 1, j, none⟩ = false := fun j => by simp [World.frozen?, hr]
        have HR := Lib.hid hr
        have HB5 : Hid (Below w.heap.size w w3) := HB4.out.trans (hb1.mono HB4.out.size)
        clear hr hb1
        go_wp2_with fail
        have hg := set_lo (.int .u64 (l3 : Int)) (set_hi (.int .u64 (h3 : Int)) HR.out)
        exact bodyPost_ret (v := .agg #[.int .u64 (h3 : Int), .int .u64 (l3 : Int)]) (results_cell_row Try.results39 _ _ (w.heap.size + 1) _ _ _ _ (by simp [go_sem]) hg Try.underlying41 rfl (by kernel_rfl)) rfl ⟨by rw [HE3.out], (HB5.out.setCell (by show w.heap.size ≤ w.heap.size + 1; omega) _).setCell (by show w.heap.size ≤ w.heap.size + 1; omega) _⟩
      · clear hM3
        obtain ⟨-, r1, ⟨x0, x1, r3⟩, r4⟩ := HK.out
        have e : rowA ((fun k i => decide (L + i < k) && f (L + i)) k) = rowA g := rowA_congr fun i hi => (HG.out i hi).symm
        rw [e] at r1
        clear e
        have HNUM : Hid (∀ W, Calls Try.prog 89 #[.agg (rowA g)] W (RetNum W (sliceN n hi (L : Int)))) := fun W => by rw [← HE.out]; exact refNum_any _ W
        have HB4 := Lib.hid r4
        have H3 := Lib.hid r3
        clear r3 r4 HE HK H0 HG
        have hRR : (rowA g).size = 128 := rowA_size _
        generalize rowA g = RR at r1 HNUM hRR
        go_wp2_with (first
          | (refine wpList_load_row rfl 120 (.tmp 8) rfl (w1.heap.size + 1) rfl 120 RR (0, 0) _ r1 Try.underlying120 rfl (by rw [hRR]; exact infoRow) ?_))
        clear r1
        obtain ⟨h3, l3, e3, -, -⟩ := numV_parts (sliceN n hi (L : Int))
        have HE3 := Lib.hid e3
        have HNUM2 : Hid (∀ W, Calls Try.prog 89 #[.agg RR] W fun e w' => e = .returned (.agg #[.int .u64 (h3 : Int), .int .u64 (l3 : Int)]) ∧ Below W.heap.size W w') := fun W => by rw [← HE3.out]; exact HNUM.out W
        clear HNUM e3
        refine (HNUM2.out _).mono ?_
        rintro e w3 ⟨rfl, hb1⟩
        have hr := (hb1.block (w.heap.size + 1) (lt_of_block H3.out)).trans H3.out
        have q0 : w3.cell? ⟨w.heap.size + 1, 0, none⟩ = some x0 := by simp [World.cell?, hr]
        have q1 : w3.cell? ⟨w.heap.size + 1, 1, none⟩ = some x1 := by simp [World.cell?, hr]
        have qz : ∀ j, w3.frozen? ⟨w.heap.size + 1, j, none⟩ = false := fun j => by simp [World.frozen?, hr]
        have HR := Lib.hid hr
        have HB5 : Hid (Below w.heap.size w w3) := HB4.out.trans (hb1.mono HB4.out.size)
        clear hr hb1
        go_wp2_with fail
        have hg := set_lo (.int .u64 (l3 : Int)) (set_hi (.int .u64 (h3 : Int)) HR.out)
        exact bodyPost_ret (v := .agg #[.int .u64 (h3 : Int), .int .u64 (l3 : Int)]) (results_cell_row Try.results39 _ _ (w.heap.size + 1) _ _ _ _ (by simp [go_sem]) hg Try.underlying41 rfl (by kernel_rfl)) rfl ⟨by rw [HE3.out], (HB5.out.setCell (by show w.heap.size ≤ w.heap.size + 1; omega) _).setCell (by show w.heap.size ≤ w.heap.size + 1; omega) _⟩

set_option maxRecDepth 100000 in
set_option maxHeartbeats 1000000 in
theorem refSlice_neg (n : Nat) (hi lo : Int) (hl : lo < 0) (w : World) :
    Calls Try.prog 39 #[numV n, .int .i64 hi, .int .i64 lo] w (RetNum w 0) := by
  obtain ⟨h1, l1, e1, -, -⟩ := numV_parts n
  rw [e1]
  clear e1
  have hnew := heap_new (w.alloc (.cells #[.int .u64 (h1 : Int), .int .u64 (l1 : Int)] 41)) (.cells #[.int .u64 0, .int .u64 0] 41)
  simp only [World.size_alloc] at hnew
  have HNEW := Lib.hid hnew
  clear hnew
  go_enter Try.func39, Try.ntmps39
  go_wp2_with fail
  exact bodyPost_ret (v := .agg #[.int .u64 0, .int .u64 0]) (results_cell_row Try.results39 _ _ (w.heap.size + 1) _ _ _ _ (by simp [go_sem]) HNEW.out Try.underlying41 rfl (by kernel_rfl)) rfl ⟨rfl, (by repeat (first | exact Below.refl _ _ | assumption | refine Below.drew ?_ | refine Below.alloc ?_ (by first | omega | (simp <;> omega)) _ | refine Below.setCell ?_ (by first | omega | (simp <;> omega)) _ | refine Below.trans ?_ (Below.mono (by assumption) (by first | omega | (simp <;> omega)))))⟩

theorem refSlice_any (n : Nat) (hi lo : Int) (hn : n < B * B) (w : World) : Calls Try.prog 39 #[numV n, .int .i64 hi, .int .i64 lo] w (RetNum w (sliceN n hi lo)) := by
  by_cases hl : lo < 0
  · have e : sliceN n hi lo = 0 := by unfold sliceN; rw [if_pos (Or.inl hl)]
    rw [e]
    exact refSlice_neg n hi lo hl w
  · obtain ⟨L, rfl⟩ : ∃ L : Nat, lo = (L : Int) := ⟨lo.toNat, by omega⟩
    exact refSlice_nat n L hi hn w

end Go.Proofs.Ytlnkflmnjkmhkaa
