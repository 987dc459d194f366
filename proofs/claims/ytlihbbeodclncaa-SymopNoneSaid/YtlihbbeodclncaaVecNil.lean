/-
  Contracts of package symbv at a store that is not there: each vector holds 0 alone.
-/
import Derived.Test.YtlihbbeodclncaaZip
namespace Go.Proofs.Ytlihbbeodclncaa
open Go.RowKit

theorem zipL_zero (xs ys : List Int) (n : Nat) : zipL (fun _ _ => 0) xs ys n = List.replicate n 0 := by
  unfold zipL; rw [List.map_const']; simp

theorem call_and (av : Array Value) (W : World) : (callFunc 36 av).run Try.prog W = .ok (.enter 36 av) W := by kernel_rfl
theorem call_or (av : Array Value) (W : World) : (callFunc 40 av).run Try.prog W = .ok (.enter 40 av) W := by kernel_rfl
theorem call_xor (av : Array Value) (W : World) : (callFunc 35 av).run Try.prog W = .ok (.enter 35 av) W := by kernel_rfl
theorem call_mux1 (av : Array Value) (W : World) : (callFunc 46 av).run Try.prog W = .ok (.enter 46 av) W := by kernel_rfl

set_option maxHeartbeats 400000 in
theorem symbvAnd_nil (va vb : Value) (xs ys : List Int) (w : World) (ha : IVec w va xs) (hb : IVec w vb ys) (hxl : xs.length ≤ 1000000) (hyl : ys.length ≤ 1000000) :
    Calls Try.prog 18 #[.pointer none, va, vb] w (RetVec w (List.replicate (max xs.length ys.length) 0)) := by
  rw [← zipL_zero xs ys]
  go_enter Try.func18, Try.ntmps18
  go_wp2_with fail
  refine (zip_any 36 #[.pointer none] #[] (fun _ _ => 0) va vb xs ys _ ha hb hxl hyl (fun x y W _ => and_nil x y W) call_and).mono ?_
  rintro e w1 ⟨v, rfl, hv, hb1⟩
  go_wp2_with fail
  go_ret
  exact ⟨_, rfl, hv, hb1⟩

set_option maxHeartbeats 400000 in
theorem symbvOr_nil (va vb : Value) (xs ys : List Int) (w : World) (ha : IVec w va xs) (hb : IVec w vb ys) (hxl : xs.length ≤ 1000000) (hyl : ys.length ≤ 1000000) :
    Calls Try.prog 19 #[.pointer none, va, vb] w (RetVec w (List.replicate (max xs.length ys.length) 0)) := by
  rw [← zipL_zero xs ys]
  go_enter Try.func19, Try.ntmps19
  go_wp2_with fail
  refine (zip_any 40 #[.pointer none] #[] (fun _ _ => 0) va vb xs ys _ ha hb hxl hyl (fun x y W _ => or_nil x y W) call_or).mono ?_
  rintro e w1 ⟨v, rfl, hv, hb1⟩
  go_wp2_with fail
  go_ret
  exact ⟨_, rfl, hv, hb1⟩

set_option maxHeartbeats 400000 in
theorem symbvXor_nil (va vb : Value) (xs ys : List Int) (w : World) (ha : IVec w va xs) (hb : IVec w vb ys) (hxl : xs.length ≤ 1000000) (hyl : ys.length ≤ 1000000) :
    Calls Try.prog 20 #[.pointer none, va, vb] w (RetVec w (List.replicate (max xs.length ys.length) 0)) := by
  rw [← zipL_zero xs ys]
  go_enter Try.func20, Try.ntmps20
  go_wp2_with fail
  refine (zip_any 35 #[.pointer none] #[] (fun _ _ => 0) va vb xs ys _ ha hb hxl hyl (fun x y W _ => xor_nil x y W) call_xor).mono ?_
  rintro e w1 ⟨v, rfl, hv, hb1⟩
  go_wp2_with fail
  go_ret
  exact ⟨_, rfl, hv, hb1⟩

set_option maxHeartbeats 400000 in
theorem mux1_nil (x y c : Int) (p q : Addr) (W : World) (hp : W.cell? p = some (.pointer none)) (hq : W.cell? q = some (.int .i64 c)) :
    Calls Try.prog 46 #[.int .i64 x, .int .i64 y, .pointer (some p), .pointer (some q)] W (RetInt W 0) := by
  go_enter Try.func46, Try.ntmps46
  go_wp2_with (go_at_call 38; refine (ite_nil _ _ _ _).mono ?_; rintro e w1 ⟨rfl, hb⟩)
  go_ret
  exact ⟨rfl, hb⟩

set_option maxHeartbeats 400000 in
theorem symbvMux_nil (c : Int) (va vb : Value) (xs ys : List Int) (w : World) (ha : IVec w va xs) (hb : IVec w vb ys) (hxl : xs.length ≤ 1000000) (hyl : ys.length ≤ 1000000) :
    Calls Try.prog 22 #[.pointer none, .int .i64 c, va, vb] w (RetVec w (List.replicate (max xs.length ys.length) 0)) := by
  rw [← zipL_zero xs ys]
  go_enter Try.func22, Try.ntmps22
  go_wp2_with fail
  have hB : Below w.heap.size w ((w.alloc (.cells #[.pointer none] 30)).alloc (.cells #[.int .i64 c] 3)) := (by repeat (first | exact Below.refl _ _ | assumption | refine Below.drew ?_ | refine Below.alloc ?_ (by first | omega | (simp <;> omega)) _ | refine Below.setCell ?_ (by first | omega | (simp <;> omega)) _ | refine Below.trans ?_ (Below.mono (by assumption) (by first | omega | (simp <;> omega)))))
  have hF : ∀ (x y : Int) W, Below ((w.alloc (.cells #[.pointer none] 30)).alloc (.cells #[.int .i64 c] 3)).heap.size ((w.alloc (.cells #[.pointer none] 30)).alloc (.cells #[.int .i64 c] 3)) W →
      Calls Try.prog 46 (#[] ++ (#[.int .i64 x, .int .i64 y] ++ #[.pointer (some ⟨w.heap.size, 0, none⟩), .pointer (some ⟨w.heap.size + 1, 0, none⟩)])) W (RetInt W 0) := by
    intro x y W hW
    refine mux1_nil x y c _ _ W ?_ ?_
    · rw [hW.cell (by simp <;> omega)]; simp [go_sem]
    · rw [hW.cell (by simp <;> omega)]; simp [go_sem]
  refine (zip_any 46 #[] #[.pointer (some ⟨w.heap.size, 0, none⟩), .pointer (some ⟨w.heap.size + 1, 0, none⟩)] (fun _ _ => 0) va vb xs ys _ (ha.below hB) (hb.below hB) hxl hyl hF call_mux1).mono ?_
  rintro e w1 ⟨v, rfl, hv, hb1⟩
  go_wp2_with fail
  go_ret
  exact ⟨_, rfl, hv, hB.trans (hb1.mono hB.size)⟩

theorem zeroRow {w : World} {base e g n : Nat} (hn : n ≤ maxLen) (h : w.ownsRow base e 1 (.slice (some ⟨g, 0, none⟩) n n) n (List.replicate n (Value.int .i64 0))) (k : Nat) (hk : k < n) :
    w.cell? ⟨g, k, none⟩ = some (.int .i64 0) ∧ w.frozen? ⟨g, k, none⟩ = false ∧ (w.setCell ⟨g, k, none⟩ (.int .i64 0)).ownsRow base e 1 (.slice (some ⟨g, 0, none⟩) n n) n (List.replicate n (Value.int .i64 0)) := by
  refine ⟨?_, h.frozenAt k, ?_⟩
  · rw [h.cellAt k (by omega)]; simp [hk]
  · have h1 := h.stored k (.int .i64 0)
    simpa using h1.1

theorem toList_madeCells_zero (n : Nat) : (madeCells (Value.int .i64 0).cells (n * 1)).toList = List.replicate n (Value.int .i64 0) := by
  rw [Nat.mul_one]; exact toList_madeCells_one _ n

theorem IVec.of_zero {w : World} {base e : Nat} {v : Value} {n : Nat} (h : w.ownsRow base e 1 v n (List.replicate n (Value.int .i64 0))) : IVec w v (List.replicate n 0) :=
  IVec.of_owns (n := n) (by simp) (by simpa using h)

set_option maxHeartbeats 400000 in
/-- 'Not' at a store that is not there. -/
theorem symbvNot_nil (va : Value) (xs : List Int) (w : World) (ha : IVec w va xs) (hxl : xs.length ≤ 1000000) :
    Calls Try.prog 21 #[.pointer none, va] w (RetVec w (List.replicate xs.length 0)) := by
  obtain ⟨i0, hi, hz0, hz1, hz2⟩ := info_parts Try.infoInt
  obtain ⟨pa, ca, rfl, ha3, ha4, ha5⟩ := ha.shape
  clear ha
  have HA := Lib.hid ha5; clear ha5
  go_enter Try.func21, Try.ntmps21
  go_wp2_with (first
    | (at_make; refine wpList_make_full _ rfl _ _ 23 rfl w.heap.size 3 i0 (.int .i64 0) 1 Try.underlying23 hi hz0 hz1 .i64 .i64 _ _ xs.length rfl rfl rfl rfl (by rw [hz2]; omega) (by unfold maxLen; omega) (Nat.le_refl _) ?_; intro w0 hown0 hgrow0))
  rw [toList_madeCells_zero] at hown0
  go_loopw [13] (fun i wr => ∃ k : Nat, k ≤ xs.length ∧ i = .int .i64 k ∧ wr.ownsRow w.heap.size 3 1 (.slice (some ⟨w.heap.size, 0, none⟩) xs.length xs.length) xs.length (List.replicate xs.length (Value.int .i64 0)) ∧ Below w.heap.size w wr)
    (fun i _ => xs.length - (intOf i).toNat)
  case atStart => exact ⟨0, Nat.zero_le _, rfl, hown0, (Below.refl _ _).grown hgrow0 (Nat.le_refl _) (fun k h => by cases h)⟩
  case round =>
    obtain ⟨k, hk, rfl, hown, hnx⟩ := hrel
    have hsize := hnx.size
    by_cases hlt : k < xs.length
    · obtain ⟨ba, oa, rfl, ha2, ha5⟩ := HA.out (by omega)
      have ga := (hnx.cell (p := ⟨ba, oa + k, none⟩) ha2).trans (ha5 k hlt)
      clear ha5
      go_wp2_with fail
      refine (not_nil _ _).mono ?_
      rintro e w1 ⟨rfl, hb1⟩
      obtain ⟨z1, z2, z3⟩ := zeroRow (by unfold maxLen; omega) (own_below hown hb1) k hlt
      have Z := Lib.hid z3; clear z3
      go_wp2_with fail
      go_roundw
      case rel => exact ⟨k + 1, by omega, by go_num, Z.out, (hnx.trans (hb1.mono hsize)).setCell (Nat.le_refl _) _⟩
      case measure => simp [intOf]; omega
    · obtain rfl : k = xs.length := by omega
      go_wp2_with fail
      go_ret
      exact ⟨_, rfl, IVec.of_zero hown, hnx⟩

set_option maxHeartbeats 400000 in
/-- 'Vars' at a store that is not there. -/
theorem symbvVars_nil (first n : Int) (w : World) (h0 : -9223372036854775808 ≤ n) (h1 : n ≤ 9223372036854775807) :
    Calls Try.prog 17 #[.pointer none, .int .i64 first, .int .i64 n] w (RetVec w (List.replicate (max 0 (min n 64)).toNat 0)) := by
  obtain ⟨i0, hi, hz0, hz1, hz2⟩ := info_parts Try.infoInt
  obtain ⟨M, hM⟩ : ∃ M, M = (max 0 (min n 64)).toNat := ⟨_, rfl⟩
  have hM1 : M ≤ 64 := by omega
  have HM : Hid ((n ≤ 0 → M = 0) ∧ (0 ≤ n → n ≤ 64 → (M : Int) = n) ∧ (64 ≤ n → M = 64)) := ⟨by omega, by omega, by omega⟩
  rw [← hM]
  clear hM
  go_enter Try.func17, Try.ntmps17
  go_wp2_with (first
    | (at_make; refine wpList_make_full _ rfl _ _ 23 rfl w.heap.size 3 i0 (.int .i64 0) 1 Try.underlying23 hi hz0 hz1 .i64 .i64 _ _ M rfl rfl (by have := HM.out; omega) (by have := HM.out; omega) (by rw [hz2]; omega) (by unfold maxLen; omega) (Nat.le_refl _) ?_; intro w0 hown0 hgrow0))
  all_goals rw [toList_madeCells_zero] at hown0
  all_goals
    go_loopw [15] (fun i wr => ∃ k : Nat, k ≤ M ∧ i = .int .i64 k ∧ wr.ownsRow w.heap.size 3 1 (.slice (some ⟨w.heap.size, 0, none⟩) M M) M (List.replicate M (Value.int .i64 0)) ∧ Below w.heap.size w wr)
      (fun i _ => M - (intOf i).toNat)
    case atStart => exact ⟨0, Nat.zero_le _, rfl, hown0, (Below.refl _ _).grown hgrow0 (Nat.le_refl _) (fun k h => by cases h)⟩
    case round =>
      obtain ⟨k, hk, rfl, hown, hnx⟩ := hrel
      have hsize := hnx.size
      by_cases hlt : k < M
      · go_wp2_with fail
        refine (var_nil _ _).mono ?_
        rintro e w1 ⟨rfl, hb1⟩
        obtain ⟨z1, z2, z3⟩ := zeroRow (by unfold maxLen; omega) (own_below hown hb1) (M - 1 - k) (by omega)
        have Z := Lib.hid z3; clear z3
        go_wp2_with fail
        go_roundw
        case rel => exact ⟨k + 1, by omega, by go_num, Z.out, (hnx.trans (hb1.mono hsize)).setCell (Nat.le_refl _) _⟩
        case measure => simp [intOf]; omega
      · obtain rfl : k = M := by omega
        go_wp2_with fail
        go_ret
        exact ⟨_, rfl, IVec.of_zero hown, hnx⟩

end Go.Proofs.Ytlihbbeodclncaa
