/-
  Contracts of symbv.Is and quillonref17.Same; the page's examples of layer 17 answer true.
-/
import Derived.Test.YtlihbbeodclncaaEval3
namespace Go.Proofs.Ytlihbbeodclncaa
open Go.RowKit

set_option maxHeartbeats 800000 in
theorem is_two (b : Nat) (va : Value) (xs : List Int) (c : Int) (pn : Option Addr) (n cp : Nat) (w : World) (ha : IVec w va xs) (hxl : xs.length ≤ 128)
    (hx : ∀ k, k < xs.length → 0 ≤ xs.getD k 0 ∧ xs.getD k 0 ≤ 1) (hbs : b < w.heap.size)
    (h0 : w.cell? ⟨b, 0, none⟩ = some (.int .i64 c)) (hc : (c == 0) = false) (h1 : w.cell? ⟨b, 1, none⟩ = some (.slice pn n cp)) (hn : n ≤ 1000000000) :
    Calls Try.prog 23 #[.pointer (some ⟨b, 0, none⟩), va] w fun e w' => e = .returned (.tuple #[numV (evalN (fun k => xs.getD k 0 == 1) xs.length), .bool true]) ∧ Below w.heap.size w w' := by
  have HE : Hid (∀ W, Below w.heap.size w W → Calls Try.prog 24 #[.pointer (some ⟨b, 0, none⟩), va, .slice none 0 0] W (RetNum W (evalN (fun k => xs.getD k 0 == 1) xs.length))) := by
    intro W hW
    refine eval_any _ va _ xs _ W (ha.below hW) (by omega) fun k hk W2 hW2 => ?_
    have hB : Below w.heap.size w W2 := hW.trans (hW2.mono hW.size)
    obtain ⟨x1, x2⟩ := hx k hk
    exact holds_two b c _ pn n cp _ W2 (by rw [hB.cell (p := ⟨b, 0, none⟩) hbs]; exact h0) hc (by rw [hB.cell (p := ⟨b, 1, none⟩) hbs]; exact h1) x1 x2 hn
  obtain ⟨pa, ca, rfl, ha3, ha4, ha5⟩ := ha.shape
  clear ha
  have HA := Lib.hid ha5; clear ha5
  have HX := Lib.hid hx; clear hx
  clear h0 hc h1 hn
  go_enter Try.func23, Try.ntmps23
  go_wp2_with fail
  have hB : Below w.heap.size w (w.alloc (.cells #[.int .u64 0, .int .u64 0] 26)) := (by repeat (first | exact Below.refl _ _ | assumption | refine Below.drew ?_ | refine Below.alloc ?_ (by first | omega | (simp <;> omega)) _ | refine Below.setCell ?_ (by first | omega | (simp <;> omega)) _ | refine Below.trans ?_ (Below.mono (by assumption) (by first | omega | (simp <;> omega)))))
  go_loop [10] (fun i => ∃ k : Nat, k ≤ xs.length ∧ i = .int .i64 k) (fun i => xs.length - (intOf i).toNat)
  case atStart => exact ⟨0, Nat.zero_le _, rfl⟩
  case round =>
    obtain ⟨k, hk, rfl⟩ := hrel
    by_cases hlt : k < xs.length
    · obtain ⟨ba, oa, rfl, ha2, ha5⟩ := HA.out (by omega)
      have ga := ha5 k hlt
      clear ha5
      have hx := HX.out k hlt
      rcases (show xs.getD k 0 = 0 ∨ xs.getD k 0 = 1 by omega) with hz | hz
      · rw [hz] at ga
        clear hx hz
        go_wp2_with fail
        go_round
        case rel => exact ⟨k + 1, by omega, by go_num⟩
        case measure => simp [intOf]; omega
      · rw [hz] at ga
        clear hx hz
        go_wp2_with fail
        go_round
        case rel => exact ⟨k + 1, by omega, by go_num⟩
        case measure => simp [intOf]; omega
    · obtain rfl : k = xs.length := by omega
      obtain ⟨u, v, he, -, -⟩ := numV_parts (evalN (fun k => xs.getD k 0 == 1) xs.length)
      have HM := Lib.hid he; clear he
      go_wp2_with fail
      refine (HE.out _ hB).mono ?_
      rintro e w1 ⟨rfl, hb⟩
      rw [HM.out]
      obtain ⟨ec, ef⟩ := bcell hb
      go_wp2_with fail
      exact bodyPost_ret (v := .tuple #[.agg #[.int .u64 (u : Int), .int .u64 (v : Int)], .bool true]) (by simp [results, Try.results23, go_sem, ec, ef]) rfl ⟨by rw [HM.out], (by repeat (first | exact Below.refl _ _ | assumption | refine Below.drew ?_ | refine Below.alloc ?_ (by first | omega | (simp <;> omega)) _ | refine Below.setCell ?_ (by first | omega | (simp <;> omega)) _ | refine Below.trans ?_ (Below.mono (by assumption) (by first | omega | (simp <;> omega)))))⟩

set_option maxHeartbeats 800000 in
theorem same_any (va vb : Value) (xs ys : List Int) (w : World) (ha : IVec w va xs) (hb : IVec w vb ys) (hl : xs.length = ys.length) (hxl : xs.length ≤ 1000000) (he : xs = ys) :
    Calls Try.prog 25 #[va, vb] w fun e w' => e = .returned (.bool true) ∧ Below w.heap.size w w' := by
  subst he
  obtain ⟨pa, ca, rfl, ha3, ha4, ha5⟩ := ha.shape
  obtain ⟨pb, cb, rfl, hb3, hb4, hb5⟩ := hb.shape
  clear ha hb hl
  have HA := Lib.hid ha5; clear ha5
  have HB := Lib.hid hb5; clear hb5
  go_enter Try.func25, Try.ntmps25
  go_wp2_with fail
  go_loopw [5] (fun i wr => ∃ k : Nat, k ≤ xs.length ∧ i = .int .i64 k ∧ Below w.heap.size w wr) (fun i _ => xs.length - (intOf i).toNat)
  case atStart => exact ⟨0, Nat.zero_le _, rfl, Below.refl _ _⟩
  case round =>
    obtain ⟨k, hk, rfl, hnx⟩ := hrel
    by_cases hlt : k < xs.length
    · obtain ⟨ba, oa, rfl, ha2, ha5⟩ := HA.out (by omega)
      have ga := (hnx.cell (p := ⟨ba, oa + k, none⟩) ha2).trans (ha5 k hlt)
      obtain ⟨bb, ob, rfl, hb2, hb5⟩ := HB.out (by omega)
      have gb := (hnx.cell (p := ⟨bb, ob + k, none⟩) hb2).trans (hb5 k hlt)
      clear ha5 hb5
      go_wp2_with fail
      go_quiet (fail)
      go_wp2_with fail
      go_roundw
      case rel => exact ⟨k + 1, by omega, by go_num, below_drewN hnx _⟩
      case measure => simp [intOf]; omega
    · obtain rfl : k = xs.length := by omega
      go_wp2_with fail
      go_ret
      exact ⟨rfl, hnx⟩

end Go.Proofs.Ytlihbbeodclncaa
