/-
  Contract of symop.pairs.
-/
import Derived.Test.YtlihbbeodclncaaZip
namespace Go.Proofs.Ytlihbbeodclncaa
open Go.RowKit

theorem Try.infoBits : (Try.prog.info? 62).map (fun i => (i.zero, i.size, i.bytes)) = some (some (.agg #[.int .i64 0, .int .i64 0]), 2, 16) := by kernel_rfl

/-- Both bits at a place. -/
def pairAt (xs ys : List Int) (i : Nat) : Int × Int := (xs.getD i 0, ys.getD i 0)

/-- The value reads as n pairs. -/
def PVec (w : World) (v : Value) (n : Nat) (p : Nat → Int × Int) : Prop :=
  ∃ pa cap, v = .slice pa n cap ∧ n ≤ cap ∧ cap ≤ maxLen ∧
    (0 < n → ∃ b off, pa = some ⟨b, off, none⟩ ∧ b < w.heap.size ∧ ∀ i, i < n → w.cell? ⟨b, off + i * 2, none⟩ = some (.int .i64 (p i).1) ∧ w.cell? ⟨b, off + i * 2 + 1, none⟩ = some (.int .i64 (p i).2))
theorem PVec.below {w w' : World} {v : Value} {n : Nat} {p : Nat → Int × Int} (h : PVec w v n p) (hb : Below w.heap.size w w') : PVec w' v n p := by
  obtain ⟨pa, cap, h1, h2, h3, h4⟩ := h
  refine ⟨pa, cap, h1, h2, h3, fun h0 => ?_⟩
  obtain ⟨b, off, e, hlt, hc⟩ := h4 h0
  exact ⟨b, off, e, Nat.lt_of_lt_of_le hlt hb.size, fun i hi => by
    rw [hb.cell (p := ⟨b, off + i * 2, none⟩) hlt, hb.cell (p := ⟨b, off + i * 2 + 1, none⟩) hlt]; exact hc i hi⟩

/-- n pairs, their cells in no block of O. -/
def PVecX (w : World) (O : Nat → Prop) (v : Value) (n : Nat) (p : Nat → Int × Int) : Prop :=
  ∃ pa cap, v = .slice pa n cap ∧ n ≤ cap ∧ cap ≤ maxLen ∧
    (0 < n → ∃ b off, pa = some ⟨b, off, none⟩ ∧ b < w.heap.size ∧ ¬ O b ∧ ∀ i, i < n → w.cell? ⟨b, off + i * 2, none⟩ = some (.int .i64 (p i).1) ∧ w.cell? ⟨b, off + i * 2 + 1, none⟩ = some (.int .i64 (p i).2))
theorem PVecX.pvec {w : World} {O : Nat → Prop} {v : Value} {n : Nat} {p : Nat → Int × Int} (h : PVecX w O v n p) : PVec w v n p := by
  obtain ⟨pa, cap, h1, h2, h3, h4⟩ := h
  refine ⟨pa, cap, h1, h2, h3, fun h0 => ?_⟩
  obtain ⟨b, off, e, hlt, -, hc⟩ := h4 h0
  exact ⟨b, off, e, hlt, hc⟩

def pc (xs ys : List Int) (k j : Nat) : Int := if j / 2 < k then (if j % 2 = 0 then xs.getD (j / 2) 0 else ys.getD (j / 2) 0) else 0
def pTo (xs ys : List Int) (M k : Nat) : List Value := (List.range (M * 2)).map fun j => .int .i64 (pc xs ys k j)
theorem pTo_len (xs ys : List Int) (M k : Nat) : (pTo xs ys M k).length = M * 2 := by simp [pTo]
theorem pTo_at (xs ys : List Int) (M k j : Nat) (hj : j < M * 2) : (pTo xs ys M k)[j]? = some (.int .i64 (pc xs ys k j)) := by simp [pTo, hj]
theorem pTo_zero (xs ys : List Int) (M : Nat) : pTo xs ys M 0 = List.replicate (M * 2) (.int .i64 0) := by
  simp [pTo, pc, List.map_const']
theorem pTo_both (xs ys : List Int) (M k : Nat) (hk : k < M) : ((pTo xs ys M k).set (k * 2) (.int .i64 (xs.getD k 0))).set (k * 2 + 1) (.int .i64 (ys.getD k 0)) = pTo xs ys M (k + 1) := by
  apply List.ext_getElem
  · simp [pTo]
  · intro j h1 h2
    rw [List.getElem_set, List.getElem_set]
    simp only [pTo, List.getElem_map, List.getElem_range, pc]
    by_cases e1 : k * 2 + 1 = j
    · subst e1
      rw [if_pos rfl, if_pos (by omega), if_neg (by omega)]
      congr 2; omega
    · rw [if_neg e1]
      by_cases e2 : k * 2 = j
      · subst e2
        rw [if_pos rfl, if_pos (by omega), if_pos (by omega)]
        congr 2; omega
      · rw [if_neg e2]
        by_cases e3 : j / 2 < k
        · have e4 : j / 2 < k + 1 := by omega
          simp only [if_pos e3, if_pos e4]
        · have e4 : ¬ j / 2 < k + 1 := by omega
          simp only [if_neg e3, if_neg e4]
theorem pTo_x (xs ys : List Int) (M k : Nat) : (pTo xs ys M k).set (k * 2) (.int .i64 0) = pTo xs ys M k := by
  apply List.ext_getElem
  · simp [pTo]
  · intro j h1 h2
    rw [List.getElem_set]
    split
    · rename_i e; subst e
      simp only [pTo, List.getElem_map, List.getElem_range, pc]
      rw [if_neg (by omega)]
    · rfl
theorem pTo_y (xs ys : List Int) (M k : Nat) (x : Value) : ((pTo xs ys M k).set (k * 2) x).set (k * 2 + 1) (.int .i64 0) = (pTo xs ys M k).set (k * 2) x := by
  apply List.ext_getElem
  · simp [pTo]
  · intro j h1 h2
    rw [List.getElem_set]
    split
    · rename_i e; subst e
      rw [List.getElem_set_ne (by omega)]
      simp only [pTo, List.getElem_map, List.getElem_range, pc]
      rw [if_neg (by omega)]
    · rfl

theorem two_zero_cells (n : Nat) : (madeCells (Value.agg #[.int .i64 0, .int .i64 0]).cells (n * 2)).toList = List.replicate (n * 2) (.int .i64 0) := by
  apply List.ext_getElem
  · simp [size_madeCells]
  · intro j h1 h2
    simp only [madeCells, Array.toList_map, Array.toList_range, List.getElem_map, List.getElem_range, List.getElem_replicate]
    have e : (Value.agg #[.int .i64 0, .int .i64 0]).cells = #[.int .i64 0, .int .i64 0] := rfl
    rw [e]
    have : j % 2 = 0 ∨ j % 2 = 1 := by omega
    rcases this with h | h
    · simp [h]
    · simp [h]

theorem PVecX.of_owns {w : World} {base e M : Nat} {v : Value} {xs ys : List Int} {O : Nat → Prop} (hO : ∀ k, O k → k < base) (h : w.ownsRow base e 2 v M (pTo xs ys M M)) : PVecX w O v M (pairAt xs ys) := by
  obtain ⟨hl, h⟩ := h
  rcases h with ⟨h1, h2⟩ | ⟨g, cap, cur, h1, h2, h3, h4, h5, h6, h7⟩
  · subst h2; exact ⟨none, 0, h1, Nat.le_refl _, Nat.zero_le _, fun h => absurd h (Nat.lt_irrefl 0)⟩
  · have hlt : g < w.heap.size := by
      rcases Nat.lt_or_ge g w.heap.size with h | h
      · exact h
      · rw [Array.getElem?_eq_none h] at h3; cases h3
    have hc : ∀ j, j < M * 2 → w.cell? ⟨g, j, none⟩ = some (.int .i64 (pc xs ys M j)) := fun j hj => by
      simp only [World.cell?, h3]
      have h8 : (cur.toList.take (M * 2))[j]? = some (.int .i64 (pc xs ys M j)) := by rw [h7]; exact pTo_at _ _ _ _ _ hj
      rw [List.getElem?_take_of_lt hj] at h8
      simpa using h8
    refine ⟨some ⟨g, 0, none⟩, cap, h1, h4, h5, fun _ => ⟨g, 0, rfl, hlt, fun h => by have := hO g h; omega, fun i hi => ⟨?_, ?_⟩⟩⟩
    · rw [Nat.zero_add, hc (i * 2) (by omega)]
      simp only [pc, pairAt]
      rw [if_pos (by omega), if_pos (by omega)]
      congr 3; omega
    · rw [Nat.zero_add, hc (i * 2 + 1) (by omega)]
      simp only [pc, pairAt]
      rw [if_pos (by omega), if_neg (by omega)]
      congr 3; omega

set_option maxHeartbeats 1000000 in
theorem pairs_any (O : Nat → Prop) (va vb : Value) (xs ys : List Int) (w : World) (hO : ∀ k, O k → k < w.heap.size) (ha : IVec w va xs) (hb : IVec w vb ys) (hxl : xs.length ≤ 1000000) (hyl : ys.length ≤ 1000000) :
    Calls Try.prog 32 #[va, vb] w fun e w' => ∃ v, e = .returned v ∧ PVecX w' O v (max xs.length ys.length) (pairAt xs ys) ∧ Below w.heap.size w w' := by
  obtain ⟨i0, hi, hz0, hz1, hz2⟩ := info_parts Try.infoBits
  have HO0 := Lib.hid hO; clear hO
  obtain ⟨M, hM⟩ : ∃ M, M = max xs.length ys.length := ⟨_, rfl⟩
  have hMx : xs.length ≤ M := by omega
  have hMy : ys.length ≤ M := by omega
  have hMm : M ≤ 1000000 := by omega
  have hMo : M ≤ xs.length ∨ M ≤ ys.length := by omega
  rw [← hM]
  clear hM
  obtain ⟨pa, ca, rfl, ha3, ha4, ha5⟩ := ha.shape
  obtain ⟨pb, cb, rfl, hb3, hb4, hb5⟩ := hb.shape
  clear ha hb
  have HA := Lib.hid ha5; clear ha5
  have HB := Lib.hid hb5; clear hb5
  go_enter Try.func32, Try.ntmps32
  go_wp2_with (first
    | (at_make; refine wpList_make_full _ rfl _ _ 63 rfl w.heap.size 62 i0 (.agg #[.int .i64 0, .int .i64 0]) 2 Try.underlying63 hi hz0 hz1 .i64 .i64 _ _ M rfl rfl (by omega) (by omega) (by rw [hz2]; omega) (by unfold maxLen; omega) (Nat.le_refl _) ?_; intro w0 hown0 hgrow0))
  all_goals rw [two_zero_cells, ← pTo_zero xs ys M] at hown0
  all_goals
    go_loopw [15] (fun i wr => ∃ k : Nat, k ≤ M ∧ i = .int .i64 k ∧ wr.ownsRow w.heap.size 62 2 (.slice (some ⟨w.heap.size, 0, none⟩) M M) M (pTo xs ys M k) ∧ Below w.heap.size w wr)
      (fun i _ => M - (intOf i).toNat)
    case atStart => exact ⟨0, Nat.zero_le _, rfl, hown0, (Below.refl _ _).grown hgrow0 (Nat.le_refl _) (fun k h => by cases h)⟩
    case round =>
      obtain ⟨k, hk, rfl, hown, hnx⟩ := hrel
      have hsize := hnx.size
      by_cases hlt : k < M
      · have q0 : wr.cell? ⟨w.heap.size, k * 2, none⟩ = some (.int .i64 0) := by
          rw [hown.cellAt (k * 2) (by omega), pTo_at _ _ _ _ _ (by omega)]
          simp only [pc]; rw [if_neg (by omega)]
        have q1 : wr.cell? ⟨w.heap.size, k * 2 + 1, none⟩ = some (.int .i64 0) := by
          rw [hown.cellAt (k * 2 + 1) (by omega), pTo_at _ _ _ _ _ (by omega)]
          simp only [pc]; rw [if_neg (by omega)]
        have z0 := hown.frozenAt (k * 2)
        have z1 := hown.frozenAt (k * 2 + 1)
        by_cases hka : k < xs.length
        · by_cases hkb : k < ys.length
          · try (exfalso; omega)
            all_goals
              obtain ⟨ba, oa, rfl, ha2, ha5⟩ := HA.out (by omega)
              have ga := (hnx.cell (p := ⟨ba, oa + k, none⟩) ha2).trans (ha5 k hka)
              clear ha5
              obtain ⟨bb, ob, rfl, hb2, hb5⟩ := HB.out (by omega)
              have gb := (hnx.cell (p := ⟨bb, ob + k, none⟩) hb2).trans (hb5 k hkb)
              clear hb5
              have ea : xs.getD k 0 = xs[k] := by simp [hka]
              have eb : ys.getD k 0 = ys[k] := by simp [hkb]
              have HT := pTo_both xs ys M k hlt
              rw [ea, eb] at HT
              have HO : Hid (((wr.setCell ⟨w.heap.size, k * 2, none⟩ (.int .i64 xs[k])).setCell ⟨w.heap.size, k * 2 + 1, none⟩ (.int .i64 ys[k])).ownsRow w.heap.size 62 2 (.slice (some ⟨w.heap.size, 0, none⟩) M M) M (pTo xs ys M (k + 1))) := by
                show World.ownsRow _ _ _ _ _ _ _
                rw [← HT]
                exact ((hown.stored (k * 2) (.int .i64 xs[k])).1.stored (k * 2 + 1) (.int .i64 ys[k])).1
              clear ea eb HT hown
              go_wp2_with fail
              go_roundw
              case rel => exact ⟨k + 1, by omega, by go_num, HO.out, (hnx.setCell (Nat.le_refl _) _).setCell (Nat.le_refl _) _⟩
              case measure => simp [intOf]; omega
          · try (exfalso; omega)
            all_goals
              obtain ⟨ba, oa, rfl, ha2, ha5⟩ := HA.out (by omega)
              have ga := (hnx.cell (p := ⟨ba, oa + k, none⟩) ha2).trans (ha5 k hka)
              clear ha5
              have ea : xs.getD k 0 = xs[k] := by simp [hka]
              have eb : ys.getD k 0 = 0 := by rw [List.getD_eq_getElem?_getD, List.getElem?_eq_none (Nat.le_of_not_lt hkb)]; rfl
              have HT := pTo_both xs ys M k hlt
              rw [ea, eb] at HT
              rw [pTo_y] at HT
              have HO : Hid ((wr.setCell ⟨w.heap.size, k * 2, none⟩ (.int .i64 xs[k])).ownsRow w.heap.size 62 2 (.slice (some ⟨w.heap.size, 0, none⟩) M M) M (pTo xs ys M (k + 1))) := by
                show World.ownsRow _ _ _ _ _ _ _
                rw [← HT]
                exact (hown.stored (k * 2) (.int .i64 xs[k])).1
              clear ea eb HT hown
              go_wp2_with fail
              go_roundw
              case rel => exact ⟨k + 1, by omega, by go_num, HO.out, hnx.setCell (Nat.le_refl _) _⟩
              case measure => simp [intOf]; omega
        · by_cases hkb : k < ys.length
          · try (exfalso; omega)
            all_goals
              obtain ⟨bb, ob, rfl, hb2, hb5⟩ := HB.out (by omega)
              have gb := (hnx.cell (p := ⟨bb, ob + k, none⟩) hb2).trans (hb5 k hkb)
              clear hb5
              have ea : xs.getD k 0 = 0 := by rw [List.getD_eq_getElem?_getD, List.getElem?_eq_none (Nat.le_of_not_lt hka)]; rfl
              have eb : ys.getD k 0 = ys[k] := by simp [hkb]
              have HT := pTo_both xs ys M k hlt
              rw [ea, eb] at HT
              rw [pTo_x] at HT
              have HO : Hid ((wr.setCell ⟨w.heap.size, k * 2 + 1, none⟩ (.int .i64 ys[k])).ownsRow w.heap.size 62 2 (.slice (some ⟨w.heap.size, 0, none⟩) M M) M (pTo xs ys M (k + 1))) := by
                show World.ownsRow _ _ _ _ _ _ _
                rw [← HT]
                exact (hown.stored (k * 2 + 1) (.int .i64 ys[k])).1
              clear ea eb HT hown
              go_wp2_with fail
              go_roundw
              case rel => exact ⟨k + 1, by omega, by go_num, HO.out, hnx.setCell (Nat.le_refl _) _⟩
              case measure => simp [intOf]; omega
          · exfalso; omega
      · obtain rfl : k = M := by omega
        go_wp2_with fail
        go_ret
        exact ⟨_, rfl, PVecX.of_owns HO0.out hown, hnx⟩

end Go.Proofs.Ytlihbbeodclncaa
