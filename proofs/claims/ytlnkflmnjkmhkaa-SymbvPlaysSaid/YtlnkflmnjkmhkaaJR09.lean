/-
  Contracts of package symbv's functions that ask no store: Resize, Shl, Shr, Slice, Cat.
-/
import Derived.Test.YtlnkflmnjkmhkaaJR08
import Derived.Test.YtlnkflmnjkmhkaaJR05
import Derived.Laws.AppendOwnNone

namespace Go.Proofs.Ytlnkflmnjkmhkaa
open Go.RowKit Go.Maps

/-- A vector is handed back in memory of its own; nothing that was has changed. -/
def RetVecN (w : World) (xs : List Int) (e : Ending) (w' : World) : Prop := ∃ v, e = .returned v ∧ IVec w' v xs ∧ (∀ k, v.ownBlock = some k → 0 < xs.length → w.heap.size ≤ k) ∧ NilOk v ∧ Below w.heap.size w w'
theorem RetVecN.mkX {w w' : World} {O : Nat → Prop} {v : Value} {xs : List Int} (h : IVec w' v xs) (hk : ∀ k, v.ownBlock = some k → 0 < xs.length → w.heap.size ≤ k) (hn : NilOk v) (hO : ∀ k, O k → k < w.heap.size) : IVecX w' O v xs :=
  ⟨h, fun k h1 h2 h3 => by have := hk k h1 h2; have := hO k h3; omega, hn⟩

/-- The source of a copy: a part of a vector, from the k-th one on, n of them. -/
theorem part_src {w : World} {pa : Option Addr} {ca : Nat} {xs : List Int} (h : IVec w (.slice pa xs.length ca) xs) (n : Nat) (hn : n ≤ xs.length) (h0 : 0 < n) : ∃ ad, pa = some ad ∧ ∀ j v, ((xs.take n).map (Value.int .i64))[j]? = some v → w.cell? (ad.add j) = some v := by
  obtain ⟨ad, h1, h2⟩ := copy_src h (by omega)
  refine ⟨ad, h1, fun j v hv => h2 j v ?_⟩
  have hj : j < n := by
    have := (List.getElem?_eq_some_iff.1 hv).1
    simp at this
    omega
  rw [← hv]
  simp [List.getElem?_take_of_lt hj]

/-- The source of a copy: a vector without its first k. -/
theorem drop_src {w : World} {b0 o0 : Nat} {ca : Nat} {xs : List Int} (h : IVec w (.slice (some ⟨b0, o0, none⟩) xs.length ca) xs) (k : Nat) (hk : k < xs.length) : ∃ ad, (some (⟨b0, o0 + k, none⟩ : Addr)) = some ad ∧ ∀ j v, ((xs.drop k).map (Value.int .i64))[j]? = some v → w.cell? (ad.add j) = some v := by
  obtain ⟨p, c, e, -, -, h4⟩ := h
  simp only [Value.slice.injEq, true_and] at e
  obtain ⟨b, off, hp, hlt, hc⟩ := h4 (by omega)
  rw [hp] at e
  simp only [Option.some.injEq, Addr.mk.injEq, and_true] at e
  obtain ⟨⟨rfl, rfl⟩, -⟩ := e
  refine ⟨_, rfl, fun j v hv => ?_⟩
  have hj : k + j < xs.length := by
    have := (List.getElem?_eq_some_iff.1 hv).1
    simp at this
    omega
  have e1 : (⟨b0, o0 + k, none⟩ : Addr).add j = ⟨b0, o0 + (k + j), none⟩ := by
    unfold Addr.add
    split
    · subst_vars; rfl
    · rw [Nat.add_assoc]
  rw [e1, hc (k + j) hj, ← hv]
  simp [hj]

def resizeL (xs : List Int) (M : Nat) : List Int := xs.take M ++ List.replicate (M - xs.length) 0
theorem resizeL_len (xs : List Int) (M : Nat) : (resizeL xs M).length = M := by unfold resizeL; simp; omega

theorem take_min (xs : List Int) (M : Nat) : xs.take (min xs.length M) = xs.take M := by
  by_cases h : xs.length ≤ M
  · rw [Nat.min_eq_left h, List.take_length, List.take_of_length_le h]
  · rw [Nat.min_eq_right (by omega)]
theorem resize_splice (xs : List Int) (M : Nat) : splice (List.replicate M (Value.int .i64 0)) 0 ((xs.take (min xs.length M)).map (Value.int .i64)) = (resizeL xs M).map (Value.int .i64) := by
  rw [take_min]
  unfold resizeL splice
  simp only [List.take_zero, List.nil_append, Nat.zero_add, List.length_map, List.length_take, List.drop_replicate, List.map_append, List.map_replicate]
  have e : M - min M xs.length = M - xs.length := by omega
  rw [e]

set_option maxRecDepth 100000 in
set_option maxHeartbeats 800000 in
theorem symbvResize_any (va : Value) (xs : List Int) (c : Int) (w : World) (ha : IVec w va xs) (hxl : xs.length ≤ 1000000) :
    Calls Try.prog 29 #[va, .int .i64 c] w (RetVecN w (resizeL xs (max 0 (min c 256)).toNat)) := by
  obtain ⟨i0, hi, hz0, hz1, hz2⟩ := info_parts Try.infoInt
  have HA := Lib.hid ha
  obtain ⟨pa, ca, rfl, ha3, ha4, -⟩ := ha.shape
  clear ha
  have HW := Lib.hid (width_any c w)
  have hsz : (Try.prog.info? 3).map (·.size) = some 1 := by rw [hi]; simp [hz1]
  have hMb : (max 0 (min c 256)).toNat ≤ 256 := by omega
  generalize (max 0 (min c 256)).toNat = M at *
  go_enter Try.func29, Try.ntmps29
  go_wp2_with fail
  refine HW.out.mono ?_
  rintro e w1 ⟨rfl, rfl⟩
  go_wp2_with (first
    | (at_make; refine wpList_make_full _ rfl _ _ 34 rfl w.heap.size 3 i0 (.int .i64 0) 1 Try.underlying34 hi hz0 hz1 .i64 .i64 _ _ M rfl rfl rfl rfl (by rw [hz2]; omega) (by unfold maxLen; omega) (Nat.le_refl _) ?_; intro w0 hown0 hgrow0; rw [toList_madeCells_zero] at hown0; have hb0 : Below w.heap.size w w0 := (Below.refl _ _).grown hgrow0 (Nat.le_refl _) (fun k h => by cases h); have hh := own_heap hown0)
    | (with_reducible refine wpList_copy_splice rfl (.tmp 9) (.tmp 10) 34 34 rfl 3 Try.underlying34 hsz _ _ M M xs.length ca rfl rfl w.heap.size 0 _ 3 hh ((xs.take (min xs.length M)).map (Value.int .i64)) (by rw [List.length_map, List.length_take]; exact Nat.min_eq_left (Nat.min_le_left _ _)) (fun h0 => ⟨rfl, part_src (HA.out.below hb0) _ (Nat.min_le_left _ _) (by simpa using h0)⟩) (by simp; omega) (ints_oneCell .i64 _) w.heap.size w hb0 (Nat.le_refl _) ?_; intro w2 hh2 hb2))
  go_ret
  refine ⟨_, rfl, ?_, fun k hk _ => by cases hk; exact Nat.le_refl _, NilOk.some _ _ _, hb2⟩
  refine IVec.of_heap (t := 3) (resizeL_len _ _) (by unfold maxLen; omega) ?_
  rw [hh2.out, resize_splice]

def shlL (xs : List Int) (k : Nat) : List Int := List.replicate (min k xs.length) 0 ++ xs.take (xs.length - k)
theorem shlL_len (xs : List Int) (k : Nat) : (shlL xs k).length = xs.length := by unfold shlL; simp; omega
theorem shl_splice (xs : List Int) (k : Nat) (hk : k ≤ xs.length) : splice (List.replicate xs.length (Value.int .i64 0)) k ((xs.take (xs.length - k)).map (Value.int .i64)) = (shlL xs k).map (Value.int .i64) := by
  unfold shlL splice
  simp only [List.take_replicate, List.length_map, List.length_take, List.drop_replicate, List.map_append, List.map_replicate]
  have e1 : xs.length - (k + min (xs.length - k) xs.length) = 0 := by omega
  rw [e1]
  simp
def shrL (xs : List Int) (k : Nat) : List Int := xs.drop k ++ List.replicate (min k xs.length) 0
theorem shrL_len (xs : List Int) (k : Nat) : (shrL xs k).length = xs.length := by unfold shrL; simp; omega
theorem shr_splice (xs : List Int) (k : Nat) (hk : k ≤ xs.length) : splice (List.replicate xs.length (Value.int .i64 0)) 0 ((xs.drop k).map (Value.int .i64)) = (shrL xs k).map (Value.int .i64) := by
  unfold shrL splice
  simp only [List.take_zero, List.nil_append, Nat.zero_add, List.length_map, List.length_drop, List.drop_replicate, List.map_append, List.map_replicate]
  have e1 : xs.length - (xs.length - k) = min k xs.length := by omega
  rw [e1]

/-- How far is shifted. -/
def shAmt (n : Nat) (c : Int) : Nat := min (max c 0).toNat n

set_option maxRecDepth 100000 in
set_option maxHeartbeats 1600000 in
theorem symbvShl_any (va : Value) (xs : List Int) (c : Int) (w : World) (ha : IVec w va xs) (hxl : xs.length ≤ 1000000) :
    Calls Try.prog 26 #[va, .int .i64 c] w (RetVecN w (shlL xs (shAmt xs.length c))) := by
  obtain ⟨i0, hi, hz0, hz1, hz2⟩ := info_parts Try.infoInt
  have HA := Lib.hid ha
  obtain ⟨pa, ca, rfl, ha3, ha4, -⟩ := ha.shape
  clear ha
  have hsz : (Try.prog.info? 3).map (·.size) = some 1 := by rw [hi]; simp [hz1]
  by_cases hc0 : c < 0
  · have HE : Hid (shAmt xs.length c = 0) := by show _ = _; unfold shAmt; omega
    go_enter Try.func26, Try.ntmps26
    go_wp2_with (first
      | (at_make; refine wpList_make_full _ rfl _ _ 34 rfl w.heap.size 3 i0 (.int .i64 0) 1 Try.underlying34 hi hz0 hz1 .i64 .i64 _ _ xs.length rfl rfl rfl rfl (by rw [hz2]; omega) (by unfold maxLen; omega) (Nat.le_refl _) ?_; intro w0 hown0 hgrow0; rw [toList_madeCells_zero] at hown0; have hb0 : Below w.heap.size w w0 := (Below.refl _ _).grown hgrow0 (Nat.le_refl _) (fun k h => by cases h); have hh := own_heap hown0)
      | (with_reducible refine wpList_copy_splice rfl (.tmp 15) (.tmp 16) 34 34 rfl 3 Try.underlying34 hsz _ _ xs.length xs.length xs.length ca rfl rfl w.heap.size 0 _ 3 hh ((xs.take (xs.length - 0)).map (Value.int .i64)) (by rw [List.length_map, List.length_take]; simp) (fun h0 => ⟨rfl, part_src (HA.out.below hb0) _ (Nat.sub_le _ _) (by simpa using h0)⟩) (by simp) (ints_oneCell .i64 _) w.heap.size w hb0 (Nat.le_refl _) ?_; intro w2 hh2 hb2))
    go_ret
    refine ⟨_, rfl, ?_, fun k hk _ => by cases hk; exact Nat.le_refl _, NilOk.some _ _ _, hb2⟩
    rw [HE.out]
    refine IVec.of_heap (t := 3) (shlL_len xs 0) (by unfold maxLen; omega) ?_
    rw [hh2.out, ← shl_splice xs 0 (by omega)]
    try (first | rfl | simp [splice])
  · by_cases hc1 : c < xs.length
    · obtain ⟨k, rfl⟩ : ∃ k : Nat, c = (k : Int) := ⟨c.toNat, by omega⟩
      have HE : Hid (shAmt xs.length (k : Int) = k) := by show _ = _; unfold shAmt; omega
      have hk : k < xs.length := by omega
      go_enter Try.func26, Try.ntmps26
      go_wp2_with (first
        | (at_make; refine wpList_make_full _ rfl _ _ 34 rfl w.heap.size 3 i0 (.int .i64 0) 1 Try.underlying34 hi hz0 hz1 .i64 .i64 _ _ xs.length rfl rfl rfl rfl (by rw [hz2]; omega) (by unfold maxLen; omega) (Nat.le_refl _) ?_; intro w0 hown0 hgrow0; rw [toList_madeCells_zero] at hown0; have hb0 : Below w.heap.size w w0 := (Below.refl _ _).grown hgrow0 (Nat.le_refl _) (fun k h => by cases h); have hh := own_heap hown0)
        | (with_reducible refine wpList_copy_splice rfl (.tmp 15) (.tmp 16) 34 34 rfl 3 Try.underlying34 hsz _ _ (xs.length - k) (xs.length - k) xs.length ca rfl rfl w.heap.size k _ 3 hh ((xs.take (xs.length - k)).map (Value.int .i64)) (by rw [List.length_map, List.length_take]; exact (Nat.min_comm _ _)) (fun h0 => ⟨rfl, part_src (HA.out.below hb0) _ (Nat.sub_le _ _) (by omega)⟩) (by simp; omega) (ints_oneCell .i64 _) w.heap.size w hb0 (Nat.le_refl _) ?_; intro w2 hh2 hb2))
      go_ret
      refine ⟨_, rfl, ?_, fun k hk _ => by cases hk; exact Nat.le_refl _, NilOk.some _ _ _, hb2⟩
      rw [HE.out]
      refine IVec.of_heap (t := 3) (shlL_len xs k) (by unfold maxLen; omega) ?_
      rw [hh2.out, ← shl_splice xs k (by omega)]
      try (first | rfl | simp [splice])
    · by_cases hc2 : c = xs.length
      · subst hc2
        have HE : Hid (shAmt xs.length (xs.length : Int) = xs.length) := by show _ = _; unfold shAmt; omega
        go_enter Try.func26, Try.ntmps26
        go_wp2_with (first
          | (at_make; refine wpList_make_full _ rfl _ _ 34 rfl w.heap.size 3 i0 (.int .i64 0) 1 Try.underlying34 hi hz0 hz1 .i64 .i64 _ _ xs.length rfl rfl rfl rfl (by rw [hz2]; omega) (by unfold maxLen; omega) (Nat.le_refl _) ?_; intro w0 hown0 hgrow0; rw [toList_madeCells_zero] at hown0; have hb0 : Below w.heap.size w w0 := (Below.refl _ _).grown hgrow0 (Nat.le_refl _) (fun k h => by cases h); have hh := own_heap hown0)
          | (with_reducible refine wpList_copy_splice rfl (.tmp 15) (.tmp 16) 34 34 rfl 3 Try.underlying34 hsz _ _ 0 0 xs.length ca rfl rfl w.heap.size 0 _ 3 hh (([] : List Int).map (Value.int .i64)) (by simp) (fun h0 => by simp at h0) (by simp) (ints_oneCell .i64 _) w.heap.size w hb0 (Nat.le_refl _) ?_; intro w2 hh2 hb2))
        go_ret
        refine ⟨_, rfl, ?_, fun k hk _ => by cases hk; exact Nat.le_refl _, NilOk.some _ _ _, hb2⟩
        rw [HE.out]
        refine IVec.of_heap (t := 3) (shlL_len xs xs.length) (by unfold maxLen; omega) ?_
        rw [hh2.out, ← shl_splice xs xs.length (by omega)]
        try (first | rfl | simp [splice])
      · have hc3 : (xs.length : Int) < c := by omega
        have HE : Hid (shAmt xs.length c = xs.length) := by show _ = _; unfold shAmt; omega
        clear hc2 hc1
        go_enter Try.func26, Try.ntmps26
        go_wp2_with (first
          | (at_make; refine wpList_make_full _ rfl _ _ 34 rfl w.heap.size 3 i0 (.int .i64 0) 1 Try.underlying34 hi hz0 hz1 .i64 .i64 _ _ xs.length rfl rfl rfl rfl (by rw [hz2]; omega) (by unfold maxLen; omega) (Nat.le_refl _) ?_; intro w0 hown0 hgrow0; rw [toList_madeCells_zero] at hown0; have hb0 : Below w.heap.size w w0 := (Below.refl _ _).grown hgrow0 (Nat.le_refl _) (fun k h => by cases h); have hh := own_heap hown0)
          | (with_reducible refine wpList_copy_splice rfl (.tmp 15) (.tmp 16) 34 34 rfl 3 Try.underlying34 hsz _ _ 0 0 xs.length ca rfl rfl w.heap.size 0 _ 3 hh (([] : List Int).map (Value.int .i64)) (by simp) (fun h0 => by simp at h0) (by simp) (ints_oneCell .i64 _) w.heap.size w hb0 (Nat.le_refl _) ?_; intro w2 hh2 hb2))
        go_ret
        refine ⟨_, rfl, ?_, fun k hk _ => by cases hk; exact Nat.le_refl _, NilOk.some _ _ _, hb2⟩
        rw [HE.out]
        refine IVec.of_heap (t := 3) (shlL_len xs xs.length) (by unfold maxLen; omega) ?_
        rw [hh2.out, ← shl_splice xs xs.length (by omega)]
        try (first | rfl | simp [splice])

set_option maxRecDepth 100000 in
set_option maxHeartbeats 1600000 in
theorem symbvShr_any (va : Value) (xs : List Int) (c : Int) (w : World) (ha : IVec w va xs) (hxl : xs.length ≤ 1000000) :
    Calls Try.prog 27 #[va, .int .i64 c] w (RetVecN w (shrL xs (shAmt xs.length c))) := by
  obtain ⟨i0, hi, hz0, hz1, hz2⟩ := info_parts Try.infoInt
  have HA := Lib.hid ha
  obtain ⟨pa, ca, rfl, ha3, ha4, -⟩ := ha.shape
  clear ha
  have hsz : (Try.prog.info? 3).map (·.size) = some 1 := by rw [hi]; simp [hz1]
  by_cases h0 : xs.length = 0
  · have hx : shrL xs (shAmt xs.length c) = [] := List.eq_nil_of_length_eq_zero (by rw [shrL_len, h0])
    rw [hx]
    clear hx
    generalize hn : xs.length = n at *
    subst h0
    clear hn HA hxl
    by_cases hc0 : c < 0
    · go_enter Try.func27, Try.ntmps27
      go_wp2_with (first
        | (at_make; refine wpList_make_full _ rfl _ _ 34 rfl w.heap.size 3 i0 (.int .i64 0) 1 Try.underlying34 hi hz0 hz1 .i64 .i64 _ _ 0 rfl rfl rfl rfl (by rw [hz2]; omega) (by unfold maxLen; omega) (Nat.le_refl _) ?_; intro w0 hown0 hgrow0; rw [toList_madeCells_zero] at hown0; have hb0 : Below w.heap.size w w0 := (Below.refl _ _).grown hgrow0 (Nat.le_refl _) (fun k h => by cases h); have hh := own_heap hown0)
        | (with_reducible refine wpList_copy_splice rfl (.tmp 9) (.tmp 16) 34 34 rfl 3 Try.underlying34 hsz _ _ 0 0 0 _ rfl rfl w.heap.size 0 _ 3 hh (([] : List Int).map (Value.int .i64)) (by simp) (fun h0 => by simp at h0) (by simp) (ints_oneCell .i64 _) w.heap.size w hb0 (Nat.le_refl _) ?_; intro w2 hh2 hb2))
      go_ret
      refine ⟨_, rfl, IVec.of_heap (t := 3) rfl (by unfold maxLen; omega) ?_, fun k _ h => by simp at h, NilOk.some _ _ _, hb2⟩
      rw [hh2.out]
      simp [splice]
    · by_cases hc1 : c = 0
      · subst hc1
        go_enter Try.func27, Try.ntmps27
        go_wp2_with (first
          | (at_make; refine wpList_make_full _ rfl _ _ 34 rfl w.heap.size 3 i0 (.int .i64 0) 1 Try.underlying34 hi hz0 hz1 .i64 .i64 _ _ 0 rfl rfl rfl rfl (by rw [hz2]; omega) (by unfold maxLen; omega) (Nat.le_refl _) ?_; intro w0 hown0 hgrow0; rw [toList_madeCells_zero] at hown0; have hb0 : Below w.heap.size w w0 := (Below.refl _ _).grown hgrow0 (Nat.le_refl _) (fun k h => by cases h); have hh := own_heap hown0)
          | (with_reducible refine wpList_copy_splice rfl (.tmp 9) (.tmp 16) 34 34 rfl 3 Try.underlying34 hsz _ _ 0 0 0 _ rfl rfl w.heap.size 0 _ 3 hh (([] : List Int).map (Value.int .i64)) (by simp) (fun h0 => by simp at h0) (by simp) (ints_oneCell .i64 _) w.heap.size w hb0 (Nat.le_refl _) ?_; intro w2 hh2 hb2))
        all_goals
          go_ret
          refine ⟨_, rfl, IVec.of_heap (t := 3) rfl (by unfold maxLen; omega) ?_, fun k _ h => by simp at h, NilOk.some _ _ _, hb2⟩
          rw [hh2.out]
          simp [splice]
      · have hc2 : 0 < c := by omega
        clear hc1
        go_enter Try.func27, Try.ntmps27
        go_wp2_with (first
          | (at_make; refine wpList_make_full _ rfl _ _ 34 rfl w.heap.size 3 i0 (.int .i64 0) 1 Try.underlying34 hi hz0 hz1 .i64 .i64 _ _ 0 rfl rfl rfl rfl (by rw [hz2]; omega) (by unfold maxLen; omega) (Nat.le_refl _) ?_; intro w0 hown0 hgrow0; rw [toList_madeCells_zero] at hown0; have hb0 : Below w.heap.size w w0 := (Below.refl _ _).grown hgrow0 (Nat.le_refl _) (fun k h => by cases h); have hh := own_heap hown0)
          | (with_reducible refine wpList_copy_splice rfl (.tmp 9) (.tmp 16) 34 34 rfl 3 Try.underlying34 hsz _ _ 0 0 0 _ rfl rfl w.heap.size 0 _ 3 hh (([] : List Int).map (Value.int .i64)) (by simp) (fun h0 => by simp at h0) (by simp) (ints_oneCell .i64 _) w.heap.size w hb0 (Nat.le_refl _) ?_; intro w2 hh2 hb2))
        all_goals
          go_ret
          refine ⟨_, rfl, IVec.of_heap (t := 3) rfl (by unfold maxLen; omega) ?_, fun k _ h => by simp at h, NilOk.some _ _ _, hb2⟩
          rw [hh2.out]
          simp [splice]
  · obtain ⟨b0, o0, epa, -, -⟩ := (by obtain ⟨p1, c1, e1, -, -, h4⟩ := HA.out; simp only [Value.slice.injEq, true_and] at e1; obtain ⟨b, off, hp, hlt, hc⟩ := h4 (by omega); exact ⟨b, off, e1.1.trans hp, hlt, hc⟩ : ∃ b off, pa = some ⟨b, off, none⟩ ∧ b < w.heap.size ∧ ∀ i, i < xs.length → w.cell? ⟨b, off + i, none⟩ = some (.int .i64 (xs.getD i 0)))
    subst epa
    by_cases hc0 : c < 0
    · have HE : Hid (shAmt xs.length c = 0) := by show _ = _; unfold shAmt; omega
      go_enter Try.func27, Try.ntmps27
      go_wp2_with (first
        | (at_make; refine wpList_make_full _ rfl _ _ 34 rfl w.heap.size 3 i0 (.int .i64 0) 1 Try.underlying34 hi hz0 hz1 .i64 .i64 _ _ xs.length rfl rfl rfl rfl (by rw [hz2]; omega) (by unfold maxLen; omega) (Nat.le_refl _) ?_; intro w0 hown0 hgrow0; rw [toList_madeCells_zero] at hown0; have hb0 : Below w.heap.size w w0 := (Below.refl _ _).grown hgrow0 (Nat.le_refl _) (fun k h => by cases h); have hh := own_heap hown0)
        | (with_reducible refine wpList_copy_splice rfl (.tmp 9) (.tmp 16) 34 34 rfl 3 Try.underlying34 hsz _ _ xs.length xs.length xs.length ca rfl rfl w.heap.size 0 _ 3 hh (xs.map (Value.int .i64)) (by simp) (fun _ => ⟨rfl, copy_src (HA.out.below hb0) (by omega)⟩) (by simp) (ints_oneCell .i64 _) w.heap.size w hb0 (Nat.le_refl _) ?_; intro w2 hh2 hb2))
      go_ret
      refine ⟨_, rfl, ?_, fun k hk _ => by cases hk; exact Nat.le_refl _, NilOk.some _ _ _, hb2⟩
      rw [HE.out]
      refine IVec.of_heap (t := 3) (shrL_len xs 0) (by unfold maxLen; omega) ?_
      rw [hh2.out, ← shr_splice xs 0 (by omega)]
      try (first | rfl | simp [splice])
    · by_cases hc1 : c < xs.length
      · obtain ⟨k, rfl⟩ : ∃ k : Nat, c = (k : Int) := ⟨c.toNat, by omega⟩
        have HE : Hid (shAmt xs.length (k : Int) = k) := by show _ = _; unfold shAmt; omega
        have hk : k < xs.length := by omega
        have hkc : ¬ ca = k := by omega
        go_enter Try.func27, Try.ntmps27
        go_wp2_with (first
          | (at_make; refine wpList_make_full _ rfl _ _ 34 rfl w.heap.size 3 i0 (.int .i64 0) 1 Try.underlying34 hi hz0 hz1 .i64 .i64 _ _ xs.length rfl rfl rfl rfl (by rw [hz2]; omega) (by unfold maxLen; omega) (Nat.le_refl _) ?_; intro w0 hown0 hgrow0; rw [toList_madeCells_zero] at hown0; have hb0 : Below w.heap.size w w0 := (Below.refl _ _).grown hgrow0 (Nat.le_refl _) (fun k h => by cases h); have hh := own_heap hown0)
          | (with_reducible refine wpList_copy_splice rfl (.tmp 9) (.tmp 16) 34 34 rfl 3 Try.underlying34 hsz _ _ xs.length xs.length (xs.length - k) (ca - k) rfl rfl w.heap.size 0 _ 3 hh ((xs.drop k).map (Value.int .i64)) (by rw [List.length_map, List.length_drop]; exact (Nat.min_eq_left (by omega)).symm) (fun _ => ⟨rfl, drop_src (HA.out.below hb0) k hk⟩) (by simp) (ints_oneCell .i64 _) w.heap.size w hb0 (Nat.le_refl _) ?_; intro w2 hh2 hb2))
        go_ret
        refine ⟨_, rfl, ?_, fun k hk _ => by cases hk; exact Nat.le_refl _, NilOk.some _ _ _, hb2⟩
        rw [HE.out]
        refine IVec.of_heap (t := 3) (shrL_len xs k) (by unfold maxLen; omega) ?_
        rw [hh2.out, ← shr_splice xs k (by omega)]
        try (first | rfl | simp [splice])
      · by_cases hc2 : c = xs.length
        · subst hc2
          have HE : Hid (shAmt xs.length (xs.length : Int) = xs.length) := by show _ = _; unfold shAmt; omega
          go_enter Try.func27, Try.ntmps27
          go_wp2_with (first
            | (at_make; refine wpList_make_full _ rfl _ _ 34 rfl w.heap.size 3 i0 (.int .i64 0) 1 Try.underlying34 hi hz0 hz1 .i64 .i64 _ _ xs.length rfl rfl rfl rfl (by rw [hz2]; omega) (by unfold maxLen; omega) (Nat.le_refl _) ?_; intro w0 hown0 hgrow0; rw [toList_madeCells_zero] at hown0; have hb0 : Below w.heap.size w w0 := (Below.refl _ _).grown hgrow0 (Nat.le_refl _) (fun k h => by cases h); have hh := own_heap hown0)
            | (with_reducible refine wpList_copy_splice rfl (.tmp 9) (.tmp 16) 34 34 rfl 3 Try.underlying34 hsz _ _ xs.length xs.length 0 0 rfl rfl w.heap.size 0 _ 3 hh (([] : List Int).map (Value.int .i64)) (by simp) (fun h0 => by simp at h0) (by simp) (ints_oneCell .i64 _) w.heap.size w hb0 (Nat.le_refl _) ?_; intro w2 hh2 hb2)
            | (with_reducible refine wpList_copy_splice rfl (.tmp 9) (.tmp 16) 34 34 rfl 3 Try.underlying34 hsz _ _ xs.length xs.length 0 (ca - xs.length) rfl rfl w.heap.size 0 _ 3 hh (([] : List Int).map (Value.int .i64)) (by simp) (fun h0 => by simp at h0) (by simp) (ints_oneCell .i64 _) w.heap.size w hb0 (Nat.le_refl _) ?_; intro w2 hh2 hb2))
          all_goals
            go_ret
            refine ⟨_, rfl, ?_, fun k hk _ => by cases hk; exact Nat.le_refl _, NilOk.some _ _ _, hb2⟩
            rw [HE.out]
            refine IVec.of_heap (t := 3) (shrL_len xs xs.length) (by unfold maxLen; omega) ?_
            rw [hh2.out, ← shr_splice xs xs.length (by omega)]
            try (first | rfl | simp [splice])
        · have hc3 : (xs.length : Int) < c := by omega
          have HE : Hid (shAmt xs.length c = xs.length) := by show _ = _; unfold shAmt; omega
          clear hc2 hc1
          go_enter Try.func27, Try.ntmps27
          go_wp2_with (first
            | (at_make; refine wpList_make_full _ rfl _ _ 34 rfl w.heap.size 3 i0 (.int .i64 0) 1 Try.underlying34 hi hz0 hz1 .i64 .i64 _ _ xs.length rfl rfl rfl rfl (by rw [hz2]; omega) (by unfold maxLen; omega) (Nat.le_refl _) ?_; intro w0 hown0 hgrow0; rw [toList_madeCells_zero] at hown0; have hb0 : Below w.heap.size w w0 := (Below.refl _ _).grown hgrow0 (Nat.le_refl _) (fun k h => by cases h); have hh := own_heap hown0)
            | (with_reducible refine wpList_copy_splice rfl (.tmp 9) (.tmp 16) 34 34 rfl 3 Try.underlying34 hsz _ _ xs.length xs.length 0 0 rfl rfl w.heap.size 0 _ 3 hh (([] : List Int).map (Value.int .i64)) (by simp) (fun h0 => by simp at h0) (by simp) (ints_oneCell .i64 _) w.heap.size w hb0 (Nat.le_refl _) ?_; intro w2 hh2 hb2)
            | (with_reducible refine wpList_copy_splice rfl (.tmp 9) (.tmp 16) 34 34 rfl 3 Try.underlying34 hsz _ _ xs.length xs.length 0 (ca - xs.length) rfl rfl w.heap.size 0 _ 3 hh (([] : List Int).map (Value.int .i64)) (by simp) (fun h0 => by simp at h0) (by simp) (ints_oneCell .i64 _) w.heap.size w hb0 (Nat.le_refl _) ?_; intro w2 hh2 hb2))
          all_goals
            go_ret
            refine ⟨_, rfl, ?_, fun k hk _ => by cases hk; exact Nat.le_refl _, NilOk.some _ _ _, hb2⟩
            rw [HE.out]
            refine IVec.of_heap (t := 3) (shrL_len xs xs.length) (by unfold maxLen; omega) ?_
            rw [hh2.out, ← shr_splice xs xs.length (by omega)]
            try (first | rfl | simp [splice])

/-- append of a vector to a row of the call's own. -/
theorem append_vec {w : World} {ops : Array Oper} {rest : List Oper} {o : Oper} {a : Act} {Q : Exit → Act → World → Prop} (hgd : o.guard = none) (s x : Operand)
    (ho : o.op = .call { callee := .builtin .append, args := #[s, x], argTypes := #[34, 34] })
    (base : Nat) (v : Value) (zs : List Int) (hs : a.eval s = v) (hown : w.ownsRow base 3 1 v zs.length (zs.map (Value.int .i64)))
    (vx : Value) (xs : List Int) (hx : a.eval x = vx) (hv : IVec w vx xs) (hn : NilOk vx) (hl : zs.length + xs.length ≤ 2000000) (hbase : base ≤ w.heap.size)
    (h : ∀ v' w', w'.ownsRow base 3 1 v' (zs ++ xs).length ((zs ++ xs).map (Value.int .i64)) → w.grownBy w' v.ownBlock → wpList Try.prog ops Q rest (a.put o.dst v') w') : wpList Try.prog ops Q (o :: rest) a w := by
  obtain ⟨i0, hi, hz0, hz1, hz2⟩ := info_parts Try.infoInt
  obtain ⟨pa, ca, rfl, ha3, ha4, ha5⟩ := hv.shape
  cases pa with
  | none =>
    obtain rfl : ca = 0 := hn _ _ rfl
    obtain rfl : xs = [] := List.eq_nil_of_length_eq_zero (by omega)
    refine wpList_append_own_none hgd s x _ ho base 3 i0 1 Try.underlying34 hi v _ _ hs hown hx ?_
    exact h v w (by simpa using hown) (grownBy_none ⟨rfl, rfl, rfl, Nat.le_refl _, fun _ _ _ => rfl⟩ _)
  | some ad =>
    refine wpList_append_own _ hgd s x _ ho base 3 i0 (.int .i64 0) 1 8 Try.underlying34 hi hz0 hz1 hz2 rfl (by decide) v _ _ hs hown ad xs.length ca (xs.map (Value.int .i64)) hx (by simp) ?_ (ints_oneCell .i64 _) (by unfold maxLen; omega) (by omega) hbase ?_
    · intro j u hu
      have hj : j < xs.length := by
        have := (List.getElem?_eq_some_iff.1 hu).1
        simpa using this
      obtain ⟨ad', e, hsrc⟩ := copy_src hv (by omega)
      cases e
      exact hsrc j u hu
    · intro v' w' h1 h2 _
      exact h v' w' (by simpa using h1) h2

theorem own_empty (w : World) : (w.alloc (.cells #[] 3)).ownsRow w.heap.size 3 1 (.slice (some ⟨w.heap.size, 0, none⟩) 0 0) ([] : List Int).length (([] : List Int).map (Value.int .i64)) := by
  refine ⟨rfl, .inr ⟨w.heap.size, 0, #[], rfl, Nat.le_refl _, ?_, Nat.le_refl _, Nat.zero_le _, rfl, rfl⟩⟩
  show (w.heap.push _)[w.heap.size]? = _
  simp

theorem own_new {w w' : World} {v : Value} {xs : List Int} (h : w'.ownsRow w.heap.size 3 1 v xs.length (xs.map (Value.int .i64))) : IVec w' v xs ∧ (∀ k, v.ownBlock = some k → 0 < xs.length → w.heap.size ≤ k) ∧ NilOk v := by
  refine ⟨IVec.of_owns rfl h, fun k hk _ => (h.lt k hk).1, ?_⟩
  obtain ⟨-, h1 | ⟨g, cap, cur, h1, -⟩⟩ := h
  · rw [h1.1]; exact NilOk.nil
  · rw [h1]; exact NilOk.some _ _ _

set_option maxRecDepth 100000 in
set_option maxHeartbeats 1600000 in
theorem symbvCat_any (va vb : Value) (xs ys : List Int) (w : World) (ha : IVec w va xs) (hb : IVec w vb ys) (hna : NilOk va) (hnb : NilOk vb) (hxl : xs.length ≤ 1000000) (hyl : ys.length ≤ 1000000) :
    Calls Try.prog 25 #[va, vb] w (RetVecN w (ys ++ xs)) := by
  have HA := Lib.hid ha
  have HB := Lib.hid hb
  have HNA := Lib.hid hna
  have HNB := Lib.hid hnb
  have hem := own_empty w
  obtain ⟨pa, ca, rfl, ha3, ha4, -⟩ := ha.shape
  obtain ⟨pb, cb, rfl, hb3, hb4, -⟩ := hb.shape
  clear ha hb hna hnb
  go_enter Try.func25, Try.ntmps25
  go_wp2_with (first
    | (at_builtin; refine append_vec rfl (.tmp 5) (.tmp 6) rfl w.heap.size _ [] rfl hem _ ys rfl (HB.out.below ((Below.refl w.heap.size w).alloc (Nat.le_refl _) _)) HNB.out (by simp; omega) (by simp) ?_; intro v1 w1 hown1 hgrow1; have hb1 : Below w.heap.size w w1 := ((Below.refl w.heap.size w).alloc (Nat.le_refl _) _).grown hgrow1 (by simp) (fun k h => by cases h; exact Nat.le_refl _))
    | (at_builtin; refine append_vec rfl (.tmp 7) (.tmp 8) rfl w.heap.size _ ([] ++ ys) rfl hown1 _ xs rfl (HA.out.below hb1) HNA.out (by simp; omega) hb1.size ?_; intro v2 w2 hown2 hgrow2))
  have hb2 : Below w.heap.size w w2 := hb1.grown hgrow2 hb1.size (fun k h => (hown1.lt k h).1)
  obtain ⟨q1, q2, q3⟩ := own_new hown2
  have Q : Hid (IVec w2 v2 (ys ++ xs) ∧ (∀ k, v2.ownBlock = some k → 0 < (ys ++ xs).length → w.heap.size ≤ k) ∧ NilOk v2 ∧ Below w.heap.size w w2) := ⟨q1, q2, q3, hb2⟩
  clear q1 q2 q3 hb2 hb1 hown1 hgrow1 hown2 hgrow2 hem
  go_ret
  exact ⟨_, rfl, Q.out⟩

end Go.Proofs.Ytlnkflmnjkmhkaa
