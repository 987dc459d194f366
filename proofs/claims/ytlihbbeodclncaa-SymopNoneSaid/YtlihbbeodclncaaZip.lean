/-
  Contract of symbv.zip at two lists of integers, for any function value that hands back an integer and changes nothing that was.
-/
import Derived.Test.YtlihbbeodclncaaNil
namespace Go.Proofs.Ytlihbbeodclncaa
open Go.RowKit

theorem Try.infoInt : (Try.prog.info? 3).map (fun i => (i.zero, i.size, i.bytes)) = some (some (.int .i64 0), 1, 8) := by kernel_rfl

def zipL (g : Int → Int → Int) (xs ys : List Int) (n : Nat) : List Int := (List.range n).map fun i => g (xs.getD i 0) (ys.getD i 0)
theorem zipL_succ (g : Int → Int → Int) (xs ys : List Int) (n : Nat) : zipL g xs ys (n + 1) = zipL g xs ys n ++ [g (xs.getD n 0) (ys.getD n 0)] := by simp [zipL, List.range_succ]
theorem zipL_len (g : Int → Int → Int) (xs ys : List Int) (n : Nat) : (zipL g xs ys n).length = n := by simp [zipL]

set_option maxHeartbeats 1000000 in
theorem zip_any (f : Nat) (fst cp : Array Value) (g : Int → Int → Int) (va vb : Value) (xs ys : List Int) (w : World) (ha : IVec w va xs) (hb : IVec w vb ys)
    (hxl : xs.length ≤ 1000000) (hyl : ys.length ≤ 1000000)
    (hf : ∀ (x y : Int) W, Below w.heap.size w W → Calls Try.prog f (fst ++ (#[.int .i64 x, .int .i64 y] ++ cp)) W (RetInt W (g x y)))
    (hcall : ∀ (av : Array Value) (W : World), (callFunc f av).run Try.prog W = .ok (.enter f av) W) :
    Calls Try.prog 45 #[va, vb, .func (.func f) fst cp] w (RetVec w (zipL g xs ys (max xs.length ys.length))) := by
  obtain ⟨i0, hi, hz0, hz1, hz2⟩ := info_parts Try.infoInt
  obtain ⟨M, hM⟩ : ∃ M, M = max xs.length ys.length := ⟨_, rfl⟩
  have hMx : xs.length ≤ M := by omega
  have hMy : ys.length ≤ M := by omega
  have hMm : M ≤ 1000000 := by omega
  have hMo : M ≤ xs.length ∨ M ≤ ys.length := by omega
  rw [← hM]
  clear hM
  have HF := Lib.hid hf; clear hf
  obtain ⟨pa, ca, rfl, ha3, ha4, ha5⟩ := ha.shape
  obtain ⟨pb, cb, rfl, hb3, hb4, hb5⟩ := hb.shape
  clear ha hb
  have HA := Lib.hid ha5; clear ha5
  have HB := Lib.hid hb5; clear hb5
  go_enter Try.func45, Try.ntmps45
  go_wp2_with (first
    | (at_make; refine wpList_make_own _ rfl _ _ 22 rfl w.heap.size 3 i0 (.int .i64 0) 1 Try.underlying22 hi hz0 hz1 .i64 .i64 _ M rfl rfl (by omega) (by rw [hz2]; omega) (by unfold maxLen; omega) (Nat.le_refl _) ?_; intro w0 hown0 hgrow0))
  all_goals
    go_loopw [7, 19] (fun v i wr => ∃ k : Nat, k ≤ M ∧ i = .int .i64 k ∧ v = .slice (some ⟨w.heap.size, 0, none⟩) k M ∧ wr.ownsRow w.heap.size 3 1 v k ((zipL g xs ys k).map (Value.int .i64)) ∧ Below w.heap.size w wr)
      (fun _ i _ => M - (intOf i).toNat)
    case atStart => exact ⟨0, Nat.zero_le _, rfl, rfl, hown0, (Below.refl _ _).grown hgrow0 (Nat.le_refl _) (fun k h => by cases h)⟩
    case round =>
      obtain ⟨k, hk, rfl, rfl, hown, hnx⟩ := hrel
      have hsize := hnx.size
      by_cases hlt : k < M
      · by_cases hka : k < xs.length
        · by_cases hkb : k < ys.length
          · try (exfalso; omega)
            all_goals
              obtain ⟨ba, oa, rfl, ha2, ha5⟩ := HA.out (by omega)
              have ga := (hnx.cell (p := ⟨ba, oa + k, none⟩) ha2).trans (ha5 k hka)
              obtain ⟨bb, ob, rfl, hb2, hb5⟩ := HB.out (by omega)
              have gb := (hnx.cell (p := ⟨bb, ob + k, none⟩) hb2).trans (hb5 k hkb)
              have ez : Hid ((zipL g xs ys k).map (Value.int .i64) ++ [Value.int .i64 (g (xs[k]) (ys[k]))] = (zipL g xs ys (k + 1)).map (Value.int .i64)) := by show _ = _; rw [zipL_succ]; simp [hka, hkb]
              clear ha5 hb5
              go_wp2_with fail
              refine (HF.out _ _ _ hnx).mono ?_
              rintro e w1 ⟨rfl, hb1⟩
              go_wp2_with (at_builtin; refine wpList_append_fits _ rfl (.tmp 38) (.tmp 43) 22 rfl w.heap.size 3 i0 1 Try.underlying22 hi hz1 w.heap.size k M _ rfl ((own_below hown hb1).alloc _) ⟨w1.heap.size, 0, none⟩ 1 1 [.int .i64 _] rfl rfl (cell_one_new _ _ _) (ints_oneCell .i64 [_]) (by omega) ?_; intro w2 hown2 hgrow2)
              go_roundw
              case rel => exact ⟨k + 1, by omega, by go_num, rfl, ez.out ▸ hown2, (((hnx.trans (hb1.mono hsize)).alloc (by have := hb1.size; omega) _).grown hgrow2 (by have := hb1.size; simp; omega) (fun j hj => by cases hj; exact Nat.le_refl _))⟩
              case measure => simp [intOf]; omega
          · try (exfalso; omega)
            all_goals
              obtain ⟨ba, oa, rfl, ha2, ha5⟩ := HA.out (by omega)
              have ga := (hnx.cell (p := ⟨ba, oa + k, none⟩) ha2).trans (ha5 k hka)
              have eb : ys[k]?.getD 0 = 0 := by simp [List.getElem?_eq_none (Nat.le_of_not_lt hkb)]
              have ez : Hid ((zipL g xs ys k).map (Value.int .i64) ++ [Value.int .i64 (g (xs[k]) (0))] = (zipL g xs ys (k + 1)).map (Value.int .i64)) := by show _ = _; rw [zipL_succ]; simp [hka, eb]
              clear ha5 eb
              go_wp2_with fail
              refine (HF.out _ _ _ hnx).mono ?_
              rintro e w1 ⟨rfl, hb1⟩
              go_wp2_with (at_builtin; refine wpList_append_fits _ rfl (.tmp 38) (.tmp 43) 22 rfl w.heap.size 3 i0 1 Try.underlying22 hi hz1 w.heap.size k M _ rfl ((own_below hown hb1).alloc _) ⟨w1.heap.size, 0, none⟩ 1 1 [.int .i64 _] rfl rfl (cell_one_new _ _ _) (ints_oneCell .i64 [_]) (by omega) ?_; intro w2 hown2 hgrow2)
              go_roundw
              case rel => exact ⟨k + 1, by omega, by go_num, rfl, ez.out ▸ hown2, (((hnx.trans (hb1.mono hsize)).alloc (by have := hb1.size; omega) _).grown hgrow2 (by have := hb1.size; simp; omega) (fun j hj => by cases hj; exact Nat.le_refl _))⟩
              case measure => simp [intOf]; omega
        · by_cases hkb : k < ys.length
          · try (exfalso; omega)
            all_goals
              have ea : xs[k]?.getD 0 = 0 := by simp [List.getElem?_eq_none (Nat.le_of_not_lt hka)]
              obtain ⟨bb, ob, rfl, hb2, hb5⟩ := HB.out (by omega)
              have gb := (hnx.cell (p := ⟨bb, ob + k, none⟩) hb2).trans (hb5 k hkb)
              have ez : Hid ((zipL g xs ys k).map (Value.int .i64) ++ [Value.int .i64 (g (0) (ys[k]))] = (zipL g xs ys (k + 1)).map (Value.int .i64)) := by show _ = _; rw [zipL_succ]; simp [hkb, ea]
              clear ea hb5
              go_wp2_with fail
              refine (HF.out _ _ _ hnx).mono ?_
              rintro e w1 ⟨rfl, hb1⟩
              go_wp2_with (at_builtin; refine wpList_append_fits _ rfl (.tmp 38) (.tmp 43) 22 rfl w.heap.size 3 i0 1 Try.underlying22 hi hz1 w.heap.size k M _ rfl ((own_below hown hb1).alloc _) ⟨w1.heap.size, 0, none⟩ 1 1 [.int .i64 _] rfl rfl (cell_one_new _ _ _) (ints_oneCell .i64 [_]) (by omega) ?_; intro w2 hown2 hgrow2)
              go_roundw
              case rel => exact ⟨k + 1, by omega, by go_num, rfl, ez.out ▸ hown2, (((hnx.trans (hb1.mono hsize)).alloc (by have := hb1.size; omega) _).grown hgrow2 (by have := hb1.size; simp; omega) (fun j hj => by cases hj; exact Nat.le_refl _))⟩
              case measure => simp [intOf]; omega
          · exfalso; omega
      · obtain rfl : k = M := by omega
        go_wp2_with fail
        go_ret
        exact ⟨_, rfl, IVec.of_owns (zipL_len _ _ _ _) hown, hnx⟩

end Go.Proofs.Ytlihbbeodclncaa
