/-
  Lemmas, joined: MeansP2, RefSlice, MeansP3.
-/
import Derived.Test.YtlnkflmnjkmhkaaJR22
import Derived.Test.YtlnkflmnjkmhkaaJR21
import Derived.Test.YtlnkflmnjkmhkaaJR19
import Derived.Test.YtlnkflmnjkmhkaaJR18
/-
  The plain law of SymbvMeans: the numbers of the ten vectors that are made.
-/
namespace Go.Proofs.Ytlnkflmnjkmhkaa
open Go.RowKit Go.Maps

/-- The store and the vectors at the start: variables of two numbers, the highest bit first, and a constant. -/
structure MS (W X n : Nat) (s : BS) (xs ys cs : List Int) : Prop where
  good : GoodS 20000 8 s
  lx : xs.length = W
  ly : ys.length = X
  lc : cs.length = 6
  ax : AllIs s.nodes xs
  ay : AllIs s.nodes ys
  ac : AllIs s.nodes cs
  vx : ∀ q i, i < W → valP s.nodes q (xs.getD i 0) = q ((W - 1 - i : Nat) : Int)
  vy : ∀ q i, i < X → valP s.nodes q (ys.getD i 0) = q ((W + (X - 1 - i) : Nat) : Int)
  vc : ∀ q i, i < 6 → valP s.nodes q (cs.getD i 0) = n.testBit i

theorem getD_reverse (xs : List Int) (i : Nat) (h : i < xs.length) : xs.reverse.getD i 0 = xs.getD (xs.length - 1 - i) 0 := by
  rw [List.getD_eq_getElem?_getD, List.getD_eq_getElem?_getD, List.getElem?_reverse h]
theorem AllIs.reverse {l : List T3} {xs : List Int} (h : AllIs l xs) : AllIs l xs.reverse := fun i => by
  by_cases hi : i < xs.length
  · rw [getD_reverse xs i hi]; exact h _
  · rw [List.getD_eq_getElem?_getD, List.getElem?_eq_none (by simp; omega)]; exact is_zero _

theorem constBits_getD (n m i : Nat) (hi : i < m) : (constBits n m).getD i 0 = if bitB n (i : Nat) then 1 else 0 := by
  simp [constBits, hi]

theorem means_start (W X n : Nat) (hW : W ≤ 4) (hX : X ≤ 4) : MS W X n (varsS (W : Int) X (varsS 0 W ⟨20000, [], false⟩).1).1 (varsS 0 W ⟨20000, [], false⟩).2.reverse (varsS (W : Int) X (varsS 0 W ⟨20000, [], false⟩).1).2.reverse (constBits n 6) := by
  have g0 : GoodS 20000 0 ⟨20000, [], false⟩ := ⟨rfl, ⟨by simp, by simp, by simp, by simp, by simp⟩, fun t ht => by simp at ht, rfl, Nat.le_refl _⟩
  obtain ⟨a1, a2, a3, a4⟩ := vars_good g0 0 W (by omega) (by omega)
  have e0 : ((0 : Nat) : Int) = 0 := rfl
  rw [e0] at a1 a2 a3 a4
  obtain ⟨b1, b2, b3, b4⟩ := vars_good a1 W X (by omega) (by omega)
  have la := varsS_len 0 W ⟨20000, [], false⟩
  have lb := varsS_len (W : Int) X (varsS 0 W ⟨20000, [], false⟩).1
  refine ⟨b1.mono (by omega), by rw [List.length_reverse, la], by rw [List.length_reverse, lb], constBits_len _ _, (b2.all a3).reverse, b3.reverse, fun i => ?_, fun q i hi => ?_, fun q i hi => ?_, fun q i hi => ?_⟩
  · by_cases hi : i < 6
    · rw [constBits_getD n 6 i hi]
      split
      · exact is_one _
      · exact is_zero _
    · rw [List.getD_eq_getElem?_getD, List.getElem?_eq_none (by rw [constBits_len]; omega)]; exact is_zero _
  · rw [getD_reverse _ i (by rw [la]; exact hi), la, b2.val a1.ord q (a3 _), a4 q _ (by omega), Nat.zero_add]
  · rw [getD_reverse _ i (by rw [lb]; exact hi), lb, b4 q _ (by omega)]
  · rw [constBits_getD n 6 i hi]
    have hb : bitB n (i : Nat) = n.testBit i := by unfold bitB; simp; omega
    rw [hb]
    cases n.testBit i
    · exact val_zero _ q
    · exact val_one _ q

/-- The numbers of both vectors of variables under bits. -/
def pN (W : Nat) (q : Int → Bool) : Nat := ofBits (fun j => q ((W - 1 - j : Nat) : Int)) W
def kN (W X : Nat) (q : Int → Bool) : Nat := ofBits (fun j => q ((W + (X - 1 - j) : Nat) : Int)) X

/-- A vector of a store has a number under all bits. -/
def Means (s : BS) (r : List Int) (m : (Int → Bool) → Nat) : Prop := r.length ≤ 128 ∧ AllIs s.nodes r ∧ ∀ q, evalV s.nodes q r = m q

theorem Means.grew {s s' : BS} {r : List Int} {m : (Int → Bool) → Nat} (h : Means s r m) (g : Grew s s') (ho : Ord s.nodes) : Means s' r m := by
  obtain ⟨h1, h2, h3⟩ := h
  refine ⟨h1, g.all h2, fun q => ?_⟩
  rw [← h3 q]
  apply Nat.eq_of_testBit_eq
  intro i
  rw [evalV_bit q (g.all h2) h1, evalV_bit q h2 h1, g.val ho q (h2 i)]

theorem Means.mk' {s : BS} {r : List Int} {m : (Int → Bool) → Nat} (hl : r.length ≤ 128) (ha : AllIs s.nodes r) (h : ∀ q i, (decide (i < r.length) && valP s.nodes q (r.getD i 0)) = (m q).testBit i) : Means s r m :=
  ⟨hl, ha, fun q => by
    apply Nat.eq_of_testBit_eq
    intro i
    rw [evalV_bit q ha hl, h q i]⟩

theorem MS.bx {W X n : Nat} {s : BS} {xs ys cs : List Int} (h : MS W X n s xs ys cs) (q : Int → Bool) (i : Nat) : (pN W q).testBit i = valP s.nodes q (xs.getD i 0) := by
  unfold pN
  rw [ofBits_testBit]
  by_cases hi : i < W
  · rw [h.vx q i hi]; simp [hi]
  · rw [List.getD_eq_getElem?_getD, List.getElem?_eq_none (by rw [h.lx]; omega)]
    show _ = valP s.nodes q 0
    rw [val_zero]
    simp [hi]
theorem MS.by' {W X n : Nat} {s : BS} {xs ys cs : List Int} (h : MS W X n s xs ys cs) (q : Int → Bool) (i : Nat) : (kN W X q).testBit i = valP s.nodes q (ys.getD i 0) := by
  unfold kN
  rw [ofBits_testBit]
  by_cases hi : i < X
  · rw [h.vy q i hi]; simp [hi]
  · rw [List.getD_eq_getElem?_getD, List.getElem?_eq_none (by rw [h.ly]; omega)]
    show _ = valP s.nodes q 0
    rw [val_zero]
    simp [hi]
theorem MS.bc {W X n : Nat} {s : BS} {xs ys cs : List Int} (h : MS W X n s xs ys cs) (q : Int → Bool) (i : Nat) : (n % 2 ^ 6).testBit i = valP s.nodes q (cs.getD i 0) := by
  rw [Nat.testBit_mod_two_pow]
  by_cases hi : i < 6
  · rw [h.vc q i hi]; simp [hi]
  · rw [List.getD_eq_getElem?_getD, List.getElem?_eq_none (by rw [h.lc]; omega)]
    show _ = valP s.nodes q 0
    rw [val_zero]
    simp [hi]

theorem valP_none {l : List T3} {q : Int → Bool} {xs : List Int} {i : Nat} (h : ¬ i < xs.length) : valP l q (xs.getD i 0) = false := by
  rw [List.getD_eq_getElem?_getD, List.getElem?_eq_none (by omega)]
  exact val_zero l q

/-- Of two vectors element by element: an operation that makes 0 of two 0. -/
theorem zip_means {A N : Nat} {op : (Int → Bool) → Bool → Bool → Bool} {g : BS → Int → Int → BS × Int} {s : BS} (hg : StepOk s 20000 A op g) (h : GoodS 20000 N s) {xs ys : List Int} (hx : AllIs s.nodes xs) (hy : AllIs s.nodes ys) (hl : max xs.length ys.length ≤ 128) (hN : N + max xs.length ys.length * A < 20000)
    {m : (Int → Bool) → Nat} (hop : ∀ q, op q false false = false) (hm : ∀ q i, (m q).testBit i = op q (valP s.nodes q (xs.getD i 0)) (valP s.nodes q (ys.getD i 0))) :
    GoodS 20000 (N + max xs.length ys.length * A) (zipS g xs ys (max xs.length ys.length) s).1 ∧ Grew s (zipS g xs ys (max xs.length ys.length) s).1 ∧ Means (zipS g xs ys (max xs.length ys.length) s).1 (zipS g xs ys (max xs.length ys.length) s).2 m := by
  obtain ⟨h1, h2, h3, h4⟩ := zip_good hg h hx hy _ hN
  have hlen := zipS_len g xs ys (max xs.length ys.length) s
  refine ⟨h1, h2, Means.mk' (by rw [hlen]; exact hl) h3 fun q i => ?_⟩
  rw [hlen, hm q i]
  by_cases hi : i < max xs.length ys.length
  · rw [h4 q i hi]; simp [hi]
  · rw [valP_none (xs := xs) (by omega), valP_none (xs := ys) (by omega), hop q]
    simp [hi]

theorem mux_step {base : BS} {N0 : Nat} (hb : GoodS 20000 N0 base) {c : Int} (hc : Is base.nodes c) {sel : (Int → Bool) → Bool} (hs : ∀ q, valP base.nodes q c = sel q) : StepOk base 20000 255 (fun q x y => if sel q then x else y) (fun s x y => iteF s c x y) := fun N s x y hg h hN hx hy => by
  obtain ⟨h1, h2, h3, h4⟩ := iteF_good h hN c x y
  refine ⟨h1, h2, h3, fun q => ?_⟩
  rw [h4 q, rightP_of_is (hg.is hc).1, rightP_of_is hx, rightP_of_is hy, hg.val hb.ord q hc, hs q]

theorem map_means {N : Nat} {s : BS} (h : GoodS 20000 N s) {xs : List Int} (hx : AllIs s.nodes xs) (hl : xs.length ≤ 128) (hN : N + xs.length * 255 < 20000) {m : (Int → Bool) → Nat}
    (hm : ∀ q i, (m q).testBit i = (decide (i < xs.length) && !valP s.nodes q (xs.getD i 0))) :
    GoodS 20000 (N + xs.length * 255) (mapS notF xs xs.length s).1 ∧ Grew s (mapS notF xs xs.length s).1 ∧ Means (mapS notF xs xs.length s).1 (mapS notF xs xs.length s).2 m := by
  obtain ⟨h1, h2, h3, h4⟩ := map_good rfl h hx _ hN
  have hlen := mapS_len notF xs xs.length s
  refine ⟨h1, h2, Means.mk' (by rw [hlen]; exact hl) h3 fun q i => ?_⟩
  rw [hlen, hm q i]
  by_cases hi : i < xs.length
  · rw [h4 q i hi]
  · simp [hi]

theorem getD_append_l (xs ys : List Int) (i : Nat) (h : i < xs.length) : (xs ++ ys).getD i 0 = xs.getD i 0 := by
  rw [List.getD_eq_getElem?_getD, List.getElem?_append_left h, ← List.getD_eq_getElem?_getD]
theorem getD_append_r (xs ys : List Int) (i : Nat) (h : xs.length ≤ i) : (xs ++ ys).getD i 0 = ys.getD (i - xs.length) 0 := by
  rw [List.getD_eq_getElem?_getD, List.getElem?_append_right h, ← List.getD_eq_getElem?_getD]
theorem getD_repl (n i : Nat) : (List.replicate n (0 : Int)).getD i 0 = 0 := by
  rw [List.getD_eq_getElem?_getD, List.getElem?_replicate]
  split <;> rfl
theorem getD_take (xs : List Int) (n i : Nat) : (xs.take n).getD i 0 = if i < n then xs.getD i 0 else 0 := by
  rw [List.getD_eq_getElem?_getD, List.getElem?_take]
  split
  · rw [← List.getD_eq_getElem?_getD]
  · rfl
theorem getD_drop (xs : List Int) (n i : Nat) : (xs.drop n).getD i 0 = xs.getD (n + i) 0 := by
  rw [List.getD_eq_getElem?_getD, List.getElem?_drop, ← List.getD_eq_getElem?_getD]
theorem getD_over (xs : List Int) (i : Nat) (h : xs.length ≤ i) : xs.getD i 0 = 0 := by
  rw [List.getD_eq_getElem?_getD, List.getElem?_eq_none h]; rfl

theorem getD_resize (xs : List Int) (M i : Nat) : (resizeL xs M).getD i 0 = if i < M then xs.getD i 0 else 0 := by
  unfold resizeL
  by_cases h : i < (xs.take M).length
  · rw [getD_append_l _ _ _ h, getD_take]
  · rw [getD_append_r _ _ _ (by omega), getD_repl]
    split
    · rw [getD_over]; simp at h; omega
    · rfl
theorem getD_shl (xs : List Int) (k i : Nat) (hk : k ≤ xs.length) : (shlL xs k).getD i 0 = if k ≤ i ∧ i < xs.length then xs.getD (i - k) 0 else 0 := by
  unfold shlL
  rw [Nat.min_eq_left hk]
  by_cases h : i < k
  · rw [getD_append_l _ _ _ (by simpa using h), getD_repl, if_neg (by omega)]
  · rw [getD_append_r _ _ _ (by simp; omega), getD_take, List.length_replicate]
    by_cases h2 : i < xs.length
    · rw [if_pos (by omega), if_pos (by omega)]
    · rw [if_neg (by omega), if_neg (by omega)]
theorem getD_shr (xs : List Int) (k i : Nat) : (shrL xs k).getD i 0 = xs.getD (k + i) 0 := by
  unfold shrL
  by_cases h : i < (xs.drop k).length
  · rw [getD_append_l _ _ _ h, getD_drop]
  · rw [getD_append_r _ _ _ (by omega), getD_repl, getD_over]
    simp at h; omega
theorem getD_slice (xs : List Int) (hi lo i : Nat) (h : lo ≤ hi) : (sliceL xs (hi : Int) (lo : Int)).getD i 0 = if lo + i ≤ hi then xs.getD (lo + i) 0 else 0 := by
  unfold sliceL
  by_cases hl : xs.length ≤ lo
  · rw [if_pos (by omega)]
    show (0 : Int) = _
    split
    · rw [getD_over]; omega
    · rfl
  · rw [if_neg (by omega), getD_take, getD_drop]
    have e : ((lo : Int)).toNat = lo := by omega
    rw [e]
    by_cases h1 : lo + i ≤ hi
    · rw [if_pos h1]
      by_cases h2 : lo + i < xs.length
      · rw [if_pos (by omega)]
      · rw [getD_over xs _ (by omega)]
        split <;> rfl
    · rw [if_neg h1, if_neg (by omega)]

theorem AllIs.sub {l : List T3} {xs ys : List Int} (h : AllIs l xs) (hs : ∀ i, (∃ j, ys.getD i 0 = xs.getD j 0) ∨ ys.getD i 0 = 0) : AllIs l ys := fun i => by
  rcases hs i with ⟨j, e⟩ | e
  · rw [e]; exact h j
  · rw [e]; exact is_zero _

theorem pN_lt (W : Nat) (q : Int → Bool) (hW : W ≤ 4) : pN W q < 2 ^ W ∧ pN W q < B * B := by
  have := ofBits_lt (fun j => q ((W - 1 - j : Nat) : Int)) W
  refine ⟨this, ?_⟩
  rw [BB_pow2]
  exact Nat.lt_of_lt_of_le this (Nat.pow_le_pow_right (by omega) (by omega))

end Go.Proofs.Ytlnkflmnjkmhkaa

/-
  Contract of quillonref01.Slice.
-/
namespace Go.Proofs.Ytlnkflmnjkmhkaa
open Go.RowKit

/-- The bits of a number from lo to hi. -/
def sliceN (n : Nat) (hi lo : Int) : Nat := if lo < 0 ∨ hi < lo then 0 else n / 2 ^ sh lo % 2 ^ sh (min hi 127 - lo + 1)

theorem sliceN_bits (n L M : Nat) (hi : Int) (hn : n < 2 ^ 128) (hM : M = max L (min 128 (hi + 1).toNat)) (i : Nat) (hi8 : i < 128) : (decide (L + i < M) && n.testBit (L + i)) = (sliceN n hi (L : Int)).testBit i := by
  unfold sliceN
  by_cases h : hi < (L : Int)
  · rw [if_pos (by omega)]
    have : decide (L + i < M) = false := by simp; omega
    rw [this]
    simp
  · rw [if_neg (by omega), Nat.testBit_mod_two_pow, Nat.testBit_div_two_pow]
    by_cases hL : 128 ≤ L
    · have : decide (L + i < M) = false := by simp; omega
      rw [this]
      have e : sh (L : Int) = 128 := by unfold sh; omega
      have q : n.testBit (i + 128) = false := Nat.testBit_lt_two_pow (Nat.lt_of_lt_of_le hn (Nat.pow_le_pow_right (by omega) (by omega)))
      rw [e, q]
      simp
    · have e : sh (L : Int) = L := by unfold sh; omega
      rw [e, Nat.add_comm i L]
      congr 1
      unfold sh
      simp only [decide_eq_decide]
      omega
theorem sliceN_lt (n : Nat) (hi lo : Int) (hn : n < B * B) : sliceN n hi lo < B * B := by
  unfold sliceN
  split
  · rw [BB_pow2]; exact Nat.two_pow_pos _
  · exact Nat.lt_of_le_of_lt (Nat.le_trans (Nat.mod_le _ _) (Nat.div_le_self _ _)) hn

set_option maxRecDepth 100000 in
set_option maxHeartbeats 4000000 in
theorem refSlice_nat (n L : Nat) (hi : Int) (hn : n < B * B) (w : World) :
    Calls Try.prog 39 #[numV n, .int .i64 hi, .int .i64 (L : Int)] w (RetNum w (sliceN n hi (L : Int))) := by
  obtain ⟨f, hf⟩ : ∃ f, f = n.testBit := ⟨_, rfl⟩
  have HA : Hid (∀ W, Calls Try.prog 88 #[numV n] W fun e w' => e = .returned (.agg (rowA f)) ∧ Below W.heap.size W w') := fun W => by rw [hf]; exact refBits_any n hn W
  have HF := Lib.hid hf
  obtain ⟨h1, l1, e1, -, -⟩ := numV_parts n
  rw [e1] at HA ⊢
  clear e1 hf
  go_enter Try.func39, Try.ntmps39
  go_wp2_with fail
  refine (HA.out _).mono ?_
  rintro e w1 ⟨rfl, hb1⟩
  obtain ⟨W0, hW0⟩ : ∃ W0, W0 = (w.alloc (.cells #[.int .u64 (h1 : Int), .int .u64 (l1 : Int)] 41)).alloc (.cells #[.int .u64 0, .int .u64 0] 41) := ⟨_, rfl⟩
  have hbW : Below w.heap.size w W0 := by rw [hW0]; exact (by repeat (first | exact Below.refl _ _ | assumption | refine Below.drew ?_ | refine Below.alloc ?_ (by first | omega | (simp <;> omega)) _ | refine Below.setCell ?_ (by first | omega | (simp <;> omega)) _ | refine Below.trans ?_ (Below.mono (by assumption) (by first | omega | (simp <;> omega)))))
  have z1 : w.heap.size + 1 < W0.heap.size := by rw [hW0]; simp
  have cr : W0.heap[w.heap.size + 1]? = some (.cells #[.int .u64 0, .int .u64 0] 41 (0, 0)) := by
    rw [hW0]
    have := heap_new (w.alloc (.cells #[.int .u64 (h1 : Int), .int .u64 (l1 : Int)] 41)) (.cells #[.int .u64 0, .int .u64 0] 41)
    simp only [World.size_alloc] at this
    exact this
  rw [← hW0] at hb1
  have hs1 := hb1.size
  have cr1 := (hb1.block _ z1).trans cr
  have HB1 : Hid (Below w.heap.size w w1) := hbW.trans (hb1.mono hbW.size)
  clear hb1 hW0 hbW cr
  have hZ : Try.zeroCells120 = rowA fun _ => false := by kernel_rfl
  have hnew := heap_new w1 (.cells Try.zeroCells120 120)
  have HZS : Hid ((Try.zeroCells120).size = 128) := by show _ = _; rw [hZ]; exact rowA_size _
  have hset := setRow_heap _ _ _ (rowA f) _ _ hnew
  have HNW := Lib.hid hnew
  have hal := heap_new ((w1.alloc (.cells Try.zeroCells120 120)).setRow w1.heap.size (rowA f)) (.cells Try.zeroCells120 120)
  simp only [setRow_size, World.size_alloc] at hal
  have hzz : ∀ i, i < 128 → (fun _ => false : Nat → Bool) i = (fun k i => decide (L + i < k) && f (L + i)) L i := fun i _ => by simp; intro h; omega
  have hez : Try.zeroCells120 = rowA ((fun k i => decide (L + i < k) && f (L + i)) L) := hZ.trans (rowA_congr hzz)
  have H0 : Hid (In2 (fun k i => decide (L + i < k) && f (L + i)) f w w1.heap.size (w1.heap.size + 1) (w.heap.size + 1) L (((w1.alloc (.cells Try.zeroCells120 120)).setRow w1.heap.size (rowA f)).alloc (.cells Try.zeroCells120 120))) := by
    refine ⟨?_, hal.trans (by rw [hez]), ⟨.int .u64 0, .int .u64 0, ?_⟩, ?_⟩
    · rw [Below.heap_alloc _ _ _ (by simp), hset]
    · rw [Below.heap_alloc _ _ _ (by simp; omega), setRow_other _ _ _ _ (by omega), Below.heap_alloc _ _ _ (by omega)]
      exact cr1
    · exact (below_setRow (HB1.out.alloc (by omega) _) (by omega) _).alloc (by simp; omega) _
  clear hZ hnew hset hal hzz hez cr1 HA
  go_wp2_with (refine wpList_store_row rfl 120 (.tmp 7) (.tmp 14) rfl w1.heap.size (rowA f) rfl rfl 120 _ HNW.out (by rw [rowA_size]; exact infoRow) (by rw [rowA_size]; exact HZS.out) (rowA_one _) ?_)
  clear HNW HZS HB1
  generalize (((w1.alloc (.cells Try.zeroCells120 120)).setRow w1.heap.size (rowA f)).alloc (.cells Try.zeroCells120 120)) = W2 at *
  obtain ⟨M, hM⟩ : ∃ M : Nat, M = max L (min 128 (hi + 1).toNat) := ⟨_, rfl⟩
  obtain ⟨g, hg⟩ : ∃ g : Nat → Bool, g = fun i => decide (L + i < M) && f (L + i) := ⟨_, rfl⟩
  have HE : Hid (ofBits g 128 = sliceN n hi (L : Int)) := by
    show _ = _
    refine ofBits_eq (by rw [← BB_pow2]; exact sliceN_lt n hi _ hn) fun i hi8 => ?_
    rw [hg, HF.out]
    exact sliceN_bits n L M hi (by rw [← BB_pow2]; exact hn) hM i hi8
  have HG : Hid (∀ i, i < 128 → g i = (fun k i => decide (L + i < k) && f (L + i)) M i) := fun i _ => by rw [hg]
  clear hg
  have hM1 : L ≤ M := by omega
  have hM2 : ∀ k : Nat, L ≤ k → k < M → k < 128 ∧ (k : Int) ≤ hi := fun k h1 h2 => by omega
  have hM3 : 128 ≤ M ∨ hi < (M : Int) := by omega
  have HM2 := Lib.hid hM2
  have HM3 := Lib.hid hM3
  clear hM hM2 hM3
  go_loopw [9] (fun i wr => ∃ k : Nat, L ≤ k ∧ k ≤ M ∧ i = .int .i64 k ∧ Hid (In2 (fun k i => decide (L + i < k) && f (L + i)) f w w1.heap.size (w1.heap.size + 1) (w.heap.size + 1) k wr)) (fun i _ => M - (intOf i).toNat)
  case atStart => exact ⟨L, Nat.le_refl _, hM1, rfl, H0⟩
  case round =>
    obtain ⟨k, hk, hkM, rfl, HK⟩ := hrel
    by_cases hlt : k < M
    · obtain ⟨hk8, hkh⟩ := HM2.out k hk hlt
      obtain ⟨r1, ⟨c2, r2⟩, r3⟩ := HK.out.cells (i := k) (j := k - L) (by omega) (by omega)
      have hx0 : (0 : Int) ≤ (k : Int) - L := by omega
      have hx1 : (k : Int) - L < 128 := by omega
      have hx2 : ((k : Int) - L).toNat = k - L := by omega
      go_wp2_with fail
      go_roundw
      case rel => exact ⟨k + 1, by omega, by omega, by go_num, HK.out.step (by omega) (by omega) (by omega) (fun i _ => by
        unfold put
        by_cases e : i = k - L
        · subst e
          have e2 : L + (k - L) = k := by omega
          simp [e2]
        · have e1 : decide (L + i < k + 1) = decide (L + i < k) := by simp; omega
          simp [e, e1])⟩
      case measure => simp [intOf]; omega
    · obtain rfl : k = M := by omega
      have hM3 := HM3.out
      clear HM2 HM3
      by_cases hk8 : k < 128
      · have hhk : hi < (k : Int) := by omega
        clear hM3
        obtain ⟨-, r1, ⟨x0, x1, r3⟩, r4⟩ := HK.out
        have e : rowA ((fun k i => decide (L + i < k) && f (L + i)) k) = rowA g := rowA_congr fun i hi => (HG.out i hi).symm
        rw [e] at r1
        clear e
        have HNUM : Hid (∀ W, Calls Try.prog 89 #[.agg (rowA g)] W (RetNum W (sliceN n hi (L : Int)))) := fun W => by rw [← HE.out]; exact refNum_any _ W
        have HB4 := Lib.hid r4
        have H3 := Lib.hid r3
        clear r3 r4 HE HK H0 HG
        have hRR : (rowA g).size = 128 := rowA_size _
        generalize rowA g = RR at r1 HNUM hRR
        go_wp2_with (first
          | (refine wpList_load_row rfl 120 (.tmp 8) rfl (w1.heap.size + 1) rfl 120 RR (0, 0) _ r1 Try.underlying120 rfl (by rw [hRR]; exact infoRow) ?_))
        clear r1
        obtain ⟨h3, l3, e3, -, -⟩ := numV_parts (sliceN n hi (L : Int))
        have HE3 := Lib.hid e3
        have HNUM2 : Hid (∀ W, Calls Try.prog 89 #[.agg RR] W fun e w' => e = .returned (.agg #[.int .u64 (h3 : Int), .int .u64 (l3 : Int)]) ∧ Below W.heap.size W w') := fun W => by rw [← HE3.out]; exact HNUM.out W
        clear HNUM e3
        refine (HNUM2.out _).mono ?_
        rintro e w3 ⟨rfl, hb1⟩
        have hr := (hb1.block (w.heap.size + 1) (lt_of_block H3.out)).trans H3.out
        have q0 : w3.cell? ⟨w.heap.size + 1, 0, none⟩ = some x0 := by simp [World.cell?, hr]
        have q1 : w3.cell? ⟨w.heap.size + 1, 1, none⟩ = some x1 := by simp [World.cell?, hr]
        have qz : ∀ j, w3.frozen? ⟨w.heap.size + 1, j, none⟩ = false := fun j => by simp [World.frozen?, hr]
        have HR := Lib.hid hr
        have HB5 : Hid (Below w.heap.size w w3) := HB4.out.trans (hb1.mono HB4.out.size)
        clear hr hb1
        go_wp2_with fail
        have hg := set_lo (.int .u64 (l3 : Int)) (set_hi (.int .u64 (h3 : Int)) HR.out)
        exact bodyPost_ret (v := .agg #[.int .u64 (h3 : Int), .int .u64 (l3 : Int)]) (results_cell_row Try.results39 _ _ (w.heap.size + 1) _ _ _ _ (by simp [go_sem]) hg Try.underlying41 rfl (by kernel_rfl)) rfl ⟨by rw [HE3.out], (HB5.out.setCell (by show w.heap.size ≤ w.heap.size + 1; omega) _).setCell (by show w.heap.size ≤ w.heap.size + 1; omega) _⟩
      · clear hM3
        obtain ⟨-, r1, ⟨x0, x1, r3⟩, r4⟩ := HK.out
        have e : rowA ((fun k i => decide (L + i < k) && f (L + i)) k) = rowA g := rowA_congr fun i hi => (HG.out i hi).symm
        rw [e] at r1
        clear e
        have HNUM : Hid (∀ W, Calls Try.prog 89 #[.agg (rowA g)] W (RetNum W (sliceN n hi (L : Int)))) := fun W => by rw [← HE.out]; exact refNum_any _ W
        have HB4 := Lib.hid r4
        have H3 := Lib.hid r3
        clear r3 r4 HE HK H0 HG
        have hRR : (rowA g).size = 128 := rowA_size _
        generalize rowA g = RR at r1 HNUM hRR
        go_wp2_with (first
          | (refine wpList_load_row rfl 120 (.tmp 8) rfl (w1.heap.size + 1) rfl 120 RR (0, 0) _ r1 Try.underlying120 rfl (by rw [hRR]; exact infoRow) ?_))
        clear r1
        obtain ⟨h3, l3, e3, -, -⟩ := numV_parts (sliceN n hi (L : Int))
        have HE3 := Lib.hid e3
        have HNUM2 : Hid (∀ W, Calls Try.prog 89 #[.agg RR] W fun e w' => e = .returned (.agg #[.int .u64 (h3 : Int), .int .u64 (l3 : Int)]) ∧ Below W.heap.size W w') := fun W => by rw [← HE3.out]; exact HNUM.out W
        clear HNUM e3
        refine (HNUM2.out _).mono ?_
        rintro e w3 ⟨rfl, hb1⟩
        have hr := (hb1.block (w.heap.size + 1) (lt_of_block H3.out)).trans H3.out
        have q0 : w3.cell? ⟨w.heap.size + 1, 0, none⟩ = some x0 := by simp [World.cell?, hr]
        have q1 : w3.cell? ⟨w.heap.size + 1, 1, none⟩ = some x1 := by simp [World.cell?, hr]
        have qz : ∀ j, w3.frozen? ⟨w.heap.size + 1, j, none⟩ = false := fun j => by simp [World.frozen?, hr]
        have HR := Lib.hid hr
        have HB5 : Hid (Below w.heap.size w w3) := HB4.out.trans (hb1.mono HB4.out.size)
        clear hr hb1
        go_wp2_with fail
        have hg := set_lo (.int .u64 (l3 : Int)) (set_hi (.int .u64 (h3 : Int)) HR.out)
        exact bodyPost_ret (v := .agg #[.int .u64 (h3 : Int), .int .u64 (l3 : Int)]) (results_cell_row Try.results39 _ _ (w.heap.size + 1) _ _ _ _ (by simp [go_sem]) hg Try.underlying41 rfl (by kernel_rfl)) rfl ⟨by rw [HE3.out], (HB5.out.setCell (by show w.heap.size ≤ w.heap.size + 1; omega) _).setCell (by show w.heap.size ≤ w.heap.size + 1; omega) _⟩

set_option maxRecDepth 100000 in
set_option maxHeartbeats 1000000 in
theorem refSlice_neg (n : Nat) (hi lo : Int) (hl : lo < 0) (w : World) :
    Calls Try.prog 39 #[numV n, .int .i64 hi, .int .i64 lo] w (RetNum w 0) := by
  obtain ⟨h1, l1, e1, -, -⟩ := numV_parts n
  rw [e1]
  clear e1
  have hnew := heap_new (w.alloc (.cells #[.int .u64 (h1 : Int), .int .u64 (l1 : Int)] 41)) (.cells #[.int .u64 0, .int .u64 0] 41)
  simp only [World.size_alloc] at hnew
  have HNEW := Lib.hid hnew
  clear hnew
  go_enter Try.func39, Try.ntmps39
  go_wp2_with fail
  exact bodyPost_ret (v := .agg #[.int .u64 0, .int .u64 0]) (results_cell_row Try.results39 _ _ (w.heap.size + 1) _ _ _ _ (by simp [go_sem]) HNEW.out Try.underlying41 rfl (by kernel_rfl)) rfl ⟨rfl, (by repeat (first | exact Below.refl _ _ | assumption | refine Below.drew ?_ | refine Below.alloc ?_ (by first | omega | (simp <;> omega)) _ | refine Below.setCell ?_ (by first | omega | (simp <;> omega)) _ | refine Below.trans ?_ (Below.mono (by assumption) (by first | omega | (simp <;> omega)))))⟩

theorem refSlice_any (n : Nat) (hi lo : Int) (hn : n < B * B) (w : World) : Calls Try.prog 39 #[numV n, .int .i64 hi, .int .i64 lo] w (RetNum w (sliceN n hi lo)) := by
  by_cases hl : lo < 0
  · have e : sliceN n hi lo = 0 := by unfold sliceN; rw [if_pos (Or.inl hl)]
    rw [e]
    exact refSlice_neg n hi lo hl w
  · obtain ⟨L, rfl⟩ : ∃ L : Nat, lo = (L : Int) := ⟨lo.toNat, by omega⟩
    exact refSlice_nat n L hi hn w

end Go.Proofs.Ytlnkflmnjkmhkaa

/-
  The plain law of SymbvMeans: all ten.
-/
namespace Go.Proofs.Ytlnkflmnjkmhkaa
open Go.RowKit Go.Maps

section
variable {W X n : Nat} {s0 : BS} {xs ys cs : List Int}

def sel5 (W X : Nat) (q : Int → Bool) : Bool := q ((W + (X - 1) : Nat) : Int)

/-- The stores behind the five calls that turn it. -/
def st1 (xs cs : List Int) (s0 : BS) : BS × List Int := zipS andF xs cs (max xs.length cs.length) s0
def st2 (xs ys cs : List Int) (s0 : BS) : BS × List Int := zipS orF xs ys (max xs.length ys.length) (st1 xs cs s0).1
def st3 (xs ys cs : List Int) (s0 : BS) : BS × List Int := zipS xorF xs cs (max xs.length cs.length) (st2 xs ys cs s0).1
def st4 (xs ys cs : List Int) (s0 : BS) : BS × List Int := mapS notF xs xs.length (st3 xs ys cs s0).1
def st5 (xs ys cs : List Int) (s0 : BS) : BS × List Int := zipS (fun s x y => iteF s (ys.getD 0 0) x y) xs cs (max xs.length cs.length) (st4 xs ys cs s0).1

/-- What each of the ten means. -/
def m1 (W n : Nat) (q : Int → Bool) : Nat := pN W q &&& (n % 2 ^ sh 6)
def m2 (W X : Nat) (q : Int → Bool) : Nat := pN W q ||| kN W X q
def m3 (W n : Nat) (q : Int → Bool) : Nat := pN W q ^^^ (n % 2 ^ sh 6)
def m4 (W : Nat) (q : Int → Bool) : Nat := (pN W q % 2 ^ sh (W : Int)) ^^^ (2 ^ sh (W : Int) - 1)
def m5 (W X n : Nat) (q : Int → Bool) : Nat := if sel5 W X q then pN W q else n % 2 ^ sh 6
def m6 (W X : Nat) (q : Int → Bool) : Nat := catN (pN W q) (kN W X q) (X : Int)
def m7 (W m : Nat) (q : Int → Bool) : Nat := pN W q * 2 ^ sh (m : Int) % (B * B) % 2 ^ sh (W : Int)
def m8 (W m : Nat) (q : Int → Bool) : Nat := pN W q / 2 ^ sh (m : Int)
def m9 (n m : Nat) (_ : Int → Bool) : Nat := sliceN (n % 2 ^ sh 6) 5 (m : Int)
def m10 (W m : Nat) (q : Int → Bool) : Nat := pN W q % 2 ^ sh (m : Int)

theorem sh6 : sh 6 = 6 := by unfold sh; omega
theorem shN (k : Nat) (h : k ≤ 128) : sh (k : Int) = k := by unfold sh; omega

theorem ten (h : MS W X n s0 xs ys cs) (hW1 : 1 ≤ W) (hW : W ≤ 4) (hX1 : 1 ≤ X) (hX : X ≤ 4) (m : Nat) (hm : m ≤ 8) :
    Ord (st5 xs ys cs s0).1.nodes ∧ Means (st5 xs ys cs s0).1 (st1 xs cs s0).2 (m1 W n) ∧ Means (st5 xs ys cs s0).1 (st2 xs ys cs s0).2 (m2 W X) ∧ Means (st5 xs ys cs s0).1 (st3 xs ys cs s0).2 (m3 W n) ∧ Means (st5 xs ys cs s0).1 (st4 xs ys cs s0).2 (m4 W) ∧
      Means (st5 xs ys cs s0).1 (st5 xs ys cs s0).2 (m5 W X n) ∧ Means (st5 xs ys cs s0).1 (ys ++ xs) (m6 W X) ∧ Means (st5 xs ys cs s0).1 (shlL xs (shAmt xs.length (m : Int))) (m7 W m) ∧ Means (st5 xs ys cs s0).1 (shrL xs (shAmt xs.length (m : Int))) (m8 W m) ∧
      Means (st5 xs ys cs s0).1 (sliceL cs 5 (m : Int)) (m9 n m) ∧ Means (st5 xs ys cs s0).1 (resizeL xs (max 0 (min (m : Int) 256)).toNat) (m10 W m) := by
  have lx := h.lx
  have ly := h.ly
  have lc := h.lc
  have M1 : max xs.length cs.length = 6 := by omega
  have M2 : max xs.length ys.length ≤ 4 := by omega
  obtain ⟨a1, a2, a3⟩ := zip_means (and_step s0 20000) h.good h.ax h.ac (by omega) (by omega) (m := m1 W n) (fun q => rfl) (fun q i => by
    unfold m1
    rw [sh6, Nat.testBit_and, h.bx q i, h.bc q i])
  have x1 := a2.all h.ax
  have y1 := a2.all h.ay
  have c1 := a2.all h.ac
  have b1 : ∀ q i, (pN W q).testBit i = valP (st1 xs cs s0).1.nodes q (xs.getD i 0) := fun q i => (h.bx q i).trans (a2.val h.good.ord q (h.ax i)).symm
  have k1 : ∀ q i, (kN W X q).testBit i = valP (st1 xs cs s0).1.nodes q (ys.getD i 0) := fun q i => (h.by' q i).trans (a2.val h.good.ord q (h.ay i)).symm
  have r1 : ∀ q i, (n % 2 ^ 6).testBit i = valP (st1 xs cs s0).1.nodes q (cs.getD i 0) := fun q i => (h.bc q i).trans (a2.val h.good.ord q (h.ac i)).symm
  obtain ⟨d1, d2, d3⟩ := zip_means (s := (st1 xs cs s0).1) (or_step _ 20000) a1 x1 y1 (by omega) (by rw [M1]; omega) (m := m2 W X) (fun q => rfl) (fun q i => by
    unfold m2
    rw [Nat.testBit_or, b1 q i, k1 q i])
  have x2 := d2.all x1
  have y2 := d2.all y1
  have c2 := d2.all c1
  have b2 : ∀ q i, (pN W q).testBit i = valP (st2 xs ys cs s0).1.nodes q (xs.getD i 0) := fun q i => (b1 q i).trans (d2.val a1.ord q (x1 i)).symm
  have r2 : ∀ q i, (n % 2 ^ 6).testBit i = valP (st2 xs ys cs s0).1.nodes q (cs.getD i 0) := fun q i => (r1 q i).trans (d2.val a1.ord q (c1 i)).symm
  obtain ⟨e1, e2, e3⟩ := zip_means (s := (st2 xs ys cs s0).1) (xor_step _ 20000) d1 x2 c2 (by omega) (by rw [M1]; omega) (m := m3 W n) (fun q => rfl) (fun q i => by
    unfold m3
    rw [sh6, Nat.testBit_xor, b2 q i, r2 q i])
  have x3 := e2.all x2
  have y3 := e2.all y2
  have c3 := e2.all c2
  have b3 : ∀ q i, (pN W q).testBit i = valP (st3 xs ys cs s0).1.nodes q (xs.getD i 0) := fun q i => (b2 q i).trans (e2.val d1.ord q (x2 i)).symm
  have r3 : ∀ q i, (n % 2 ^ 6).testBit i = valP (st3 xs ys cs s0).1.nodes q (cs.getD i 0) := fun q i => (r2 q i).trans (e2.val d1.ord q (c2 i)).symm
  obtain ⟨f1, f2, f3⟩ := map_means (s := (st3 xs ys cs s0).1) e1 x3 (by omega) (by rw [M1]; omega) (m := m4 W) (fun q i => by
    unfold m4
    rw [shN W (by omega), Nat.testBit_xor, Nat.testBit_mod_two_pow, Nat.testBit_two_pow_sub_one, b3 q i, lx]
    cases decide (i < W) <;> cases valP (st3 xs ys cs s0).1.nodes q (xs.getD i 0) <;> rfl)
  have x4 := f2.all x3
  have y4 := f2.all y3
  have c4 := f2.all c3
  have b4 : ∀ q i, (pN W q).testBit i = valP (st4 xs ys cs s0).1.nodes q (xs.getD i 0) := fun q i => (b3 q i).trans (f2.val e1.ord q (x3 i)).symm
  have r4 : ∀ q i, (n % 2 ^ 6).testBit i = valP (st4 xs ys cs s0).1.nodes q (cs.getD i 0) := fun q i => (r3 q i).trans (f2.val e1.ord q (c3 i)).symm
  have hsel : ∀ q, valP (st4 xs ys cs s0).1.nodes q (ys.getD 0 0) = sel5 W X q := fun q => by
    have g := (a2.trans d2).trans (e2.trans f2)
    rw [show valP (st4 xs ys cs s0).1.nodes q (ys.getD 0 0) = valP s0.nodes q (ys.getD 0 0) from g.val h.good.ord q (h.ay 0), h.vy q 0 (by omega)]
    rfl
  obtain ⟨g1, g2, g3⟩ := zip_means (s := (st4 xs ys cs s0).1) (mux_step f1 (y4 0) hsel) f1 x4 c4 (by omega) (by rw [M1, lx]; omega) (m := m5 W X n) (fun q => by split <;> rfl) (fun q i => by
    unfold m5
    rw [sh6]
    split
    · exact b4 q i
    · exact r4 q i)
  have x5 := g2.all x4
  have y5 := g2.all y4
  have c5 := g2.all c4
  have hG := ((a2.trans d2).trans (e2.trans f2)).trans g2
  have b5 : ∀ q i, (pN W q).testBit i = valP (st5 xs ys cs s0).1.nodes q (xs.getD i 0) := fun q i => (b4 q i).trans (g2.val f1.ord q (x4 i)).symm
  have k5 : ∀ q i, (kN W X q).testBit i = valP (st5 xs ys cs s0).1.nodes q (ys.getD i 0) := fun q i => (h.by' q i).trans (hG.val h.good.ord q (h.ay i)).symm
  have r5 : ∀ q i, (n % 2 ^ 6).testBit i = valP (st5 xs ys cs s0).1.nodes q (cs.getD i 0) := fun q i => (r4 q i).trans (g2.val f1.ord q (c4 i)).symm
  refine ⟨g1.ord, a3.grew ((d2.trans e2).trans (f2.trans g2)) a1.ord, d3.grew (e2.trans (f2.trans g2)) d1.ord, e3.grew (f2.trans g2) e1.ord, f3.grew g2 f1.ord, g3, ?_, ?_, ?_, ?_, ?_⟩
  · refine Means.mk' (by simp; omega) (fun i => ?_) fun q i => ?_
    · by_cases hi : i < ys.length
      · rw [getD_append_l _ _ _ hi]; exact y5 i
      · rw [getD_append_r _ _ _ (by omega)]; exact x5 _
    · unfold m6 catN
      rw [shN X (by omega), sh128, BB_pow2, Nat.mod_mod, Nat.testBit_or, Nat.testBit_mod_two_pow, Nat.testBit_mul_two_pow, Nat.testBit_mod_two_pow, List.length_append, k5 q i]
      by_cases hi : i < ys.length
      · rw [getD_append_l _ _ _ hi]
        have t1 : decide (X ≤ i) = false := by simp; omega
        have t2 : decide (i < X) = true := by simp; omega
        have t3 : decide (i < ys.length + xs.length) = true := by simp; omega
        rw [t1, t2, t3]
        simp
      · rw [getD_append_r _ _ _ (by omega), ly, b5 q (i - X), valP_none (xs := ys) hi]
        have t1 : decide (X ≤ i) = true := by simp; omega
        rw [t1]
        by_cases h2 : i - X < xs.length
        · have t2 : decide (i < 128) = true := by simp; omega
          have t3 : decide (i < X + xs.length) = true := by simp; omega
          rw [t2, t3]
          simp
        · rw [valP_none (xs := xs) h2]
          simp
  · have hk : shAmt xs.length (m : Int) ≤ xs.length := by unfold shAmt; omega
    refine Means.mk' (by rw [shlL_len]; omega) (fun i => ?_) fun q i => ?_
    · rw [getD_shl _ _ _ hk]
      split
      · exact x5 _
      · exact is_zero _
    · unfold m7
      rw [shN m (by omega), shN W (by omega), BB_pow2, Nat.testBit_mod_two_pow, Nat.testBit_mod_two_pow, Nat.testBit_mul_two_pow, shlL_len, getD_shl _ _ _ hk, lx]
      have hsa : shAmt W (m : Int) = min m W := by unfold shAmt; omega
      rw [hsa, b5 q (i - m)]
      by_cases hi : i < W
      · have t2 : decide (i < 128) = true := by simp; omega
        by_cases hmi : m ≤ i
        · have e : min m W = m := by omega
          rw [if_pos ⟨by omega, hi⟩, e, t2]
          simp [hi, hmi]
        · rw [if_neg (by omega), val_zero]
          simp [hmi]
      · simp [hi]
  · refine Means.mk' (by rw [shrL_len]; omega) (fun i => ?_) fun q i => ?_
    · rw [getD_shr]; exact x5 _
    · unfold m8
      rw [shN m (by omega), Nat.testBit_div_two_pow, shrL_len, getD_shr, b5 q (i + m), lx]
      have hsa : shAmt W (m : Int) = min m W := by unfold shAmt; omega
      rw [hsa]
      by_cases hmi : i + m < W
      · have e : min m W = m := by omega
        have t : decide (i < W) = true := by simp; omega
        rw [e, t, Nat.add_comm i m]
        simp
      · rw [valP_none (xs := xs) (i := i + m) (by omega)]
        by_cases h1 : i < W
        · rw [valP_none (xs := xs) (i := min m W + i) (by omega)]
          simp
        · simp [h1]
  · by_cases hm5 : m ≤ 5
    · have hl : (sliceL cs 5 (m : Int)).length = 6 - m := by
        unfold sliceL
        rw [if_neg (by omega), List.length_take, List.length_drop]
        omega
      have e5 : ((5 : Nat) : Int) = 5 := rfl
      refine Means.mk' (by rw [hl]; omega) (fun i => ?_) fun q i => ?_
      · rw [← e5, getD_slice cs 5 m i hm5]
        split
        · exact c5 _
        · exact is_zero _
      · unfold m9 sliceN
        rw [if_neg (by omega), shN m (by omega), sh6, hl, ← e5, getD_slice cs 5 m i hm5]
        have e6 : sh (min ((5 : Nat) : Int) 127 - (m : Int) + 1) = 6 - m := by unfold sh; omega
        rw [e6, Nat.testBit_mod_two_pow, Nat.testBit_div_two_pow, r5 q (i + m), Nat.add_comm i m]
        by_cases hi : i < 6 - m
        · rw [if_pos (by omega)]
        · simp [hi]
    · have hl : sliceL cs 5 (m : Int) = [] := by
        unfold sliceL
        rw [if_pos (by omega)]
      rw [hl]
      refine Means.mk' (by simp) (fun i => by simp; exact is_zero _) fun q i => ?_
      unfold m9 sliceN
      rw [if_pos (by omega)]
      simp
  · have hM : (max 0 (min (m : Int) 256)).toNat = m := by omega
    rw [hM]
    refine Means.mk' (by rw [resizeL_len]; omega) (fun i => ?_) fun q i => ?_
    · rw [getD_resize]
      split
      · exact x5 _
      · exact is_zero _
    · unfold m10
      rw [shN m (by omega), Nat.testBit_mod_two_pow, resizeL_len, getD_resize, b5 q i]
      by_cases hi : i < m
      · rw [if_pos hi]
      · simp [hi]

end
end Go.Proofs.Ytlnkflmnjkmhkaa
