/-
  slices.Backward over instructions: its contract as an iterator.
-/
import Derived.Test.YtfhleldmkhllaaaFlowD
import Derived.RangeFuncNested
import Derived.RangeFuncBound
import Derived.RangeFuncCalls
import Derived.RangeFuncLeaves
import Derived.Shelf.Abstract
import Derived.Shelf.RegionOpen
import Derived.WalkKit
import Derived.OwnWalkIn
import Derived.TacticsInMore
import Derived.LoopNIn
import Derived.LoopIn
namespace Go.Proofs.Ytfhleldmkhllaaa
open Go.RowKit Flow Go.Shelf

attribute [local go_sem] Oper.semAt_some

/-- What has come when k rounds are over: the last k places, backward. -/
def bk (n k : Nat) : List (Fin n) := (List.range k).filterMap fun j => if h : n - 1 - j < n then some ⟨n - 1 - j, h⟩ else none
theorem bk_succ (n k : Nat) (h : k < n) : bk n (k + 1) = bk n k ++ [⟨n - 1 - k, by omega⟩] := by
  unfold bk
  rw [List.range_succ, List.filterMap_append]
  simp [show n - 1 - k < n by omega]
theorem bk_len (n k : Nat) (h : k ≤ n) : (bk n k).length = k := by
  induction k with
  | zero => rfl
  | succ k ih => rw [bk_succ n k (by omega), List.length_append, ih (by omega)]; rfl

/-- What a round keeps: what lay below n₀, and the iterator's own box. -/
def Kb (n₀ Bs : Nat) (W W' : World) : Prop := ∀ g, (g < n₀ ∨ g = Bs) → W'.heap[g]? = W.heap[g]?
theorem Kb.refl (n₀ Bs : Nat) (W : World) : Kb n₀ Bs W W := fun _ _ => rfl
theorem Kb.trans {n₀ Bs : Nat} {A B C : World} (h : Kb n₀ Bs A B) (h' : Kb n₀ Bs B C) : Kb n₀ Bs A C := fun g hg => (h' g hg).trans (h g hg)
theorem Kb.cell {n₀ Bs : Nat} {A B : World} (h : Kb n₀ Bs A B) {p : Addr} (hp : p.block < n₀ ∨ p.block = Bs) : B.cell? p = A.cell? p := World.cell?_of_block (h p.block hp)
theorem Kb.put {n₀ Bs : Nat} {w : World} (h0 : n₀ ≤ w.heap.size) (hB : Bs < w.heap.size) (W : World) (l : Nat) (o o' : Obj) (hl : w.heap.size ≤ l) (_ : W.heap[l]? = some o) (_ : o.isCells = false) (_ : o.isWalk = false) : Kb n₀ Bs W (W.putObj l o') := fun g hg => by
  have hne : l ≠ g := by rcases hg with q | q <;> omega
  show (W.heap.setIfInBounds l o')[g]? = _
  exact Array.getElem?_setIfInBounds_ne hne

set_option maxRecDepth 100000 in
set_option maxHeartbeats 4000000 in
/-- 'for i := len(s) - 1; i >= 0; i-- { if !yield(i, s[i]) { return } }'. -/
theorem back1_in (F : Fence) (n : Nat) (h8 : F.fn 19) (hro : F.round = none) (hn : 1 ≤ n) (l Bs n₀ b off cap : Nat) (xs : List Ins) (evf : Nat → Value) (hb : b < n₀) (hlen : xs.length ≤ 1000000000000000) (J Jx : List (Fin xs.length) → World → Prop)
    (hY : ∀ pre (x : Fin xs.length) W, J pre W → pre.length < xs.length → YieldAt F (n - 1) Try.prog l #[.int .i64 ((x.val : Nat) : Int), insV (at' xs x.val) (evf x.val)] W fun e W' =>
      (e = .returned (.bool true) ∧ J (pre ++ [x]) W' ∧ Kb n₀ Bs W W') ∨ (e = .returned (.bool false) ∧ Jx (pre ++ [x]) W'))
    (W : World) (hBs : W.cell? ⟨Bs, 0, none⟩ = some (.slice (some ⟨b, off, none⟩) xs.length cap))
    (hc : ∀ j, j < xs.length → W.cell? ⟨b, off + j * 5, none⟩ = some (.int .u8 (at' xs j).k) ∧ W.cell? ⟨b, off + j * 5 + 1, none⟩ = some (.int .i64 (at' xs j).a) ∧ W.cell? ⟨b, off + j * 5 + 2, none⟩ = some (.int .i64 (at' xs j).b) ∧ W.cell? ⟨b, off + j * 5 + 3, none⟩ = some (evf j) ∧ W.cell? ⟨b, off + j * 5 + 4, none⟩ = some (.int .i64 (at' xs j).to))
    (hev : ∀ j, j < xs.length → ∃ p m c, evf j = .slice p m c) (h0 : J [] W) :
    CallsIn F n Try.prog 19 #[.func (.yield l) #[] #[], .pointer (some ⟨Bs, 0, none⟩)] W fun e W' => (∃ v, e = .returned v) ∧
      ((∃ ys, ys = bk xs.length xs.length ∧ J ys W') ∨ (∃ pre, (∃ k, k ≤ xs.length ∧ pre = bk xs.length k) ∧ Jx pre W')) := by
  refine callsIn_of_wp Try.func19 rfl h8 ?_ hro
  simp only [Try.ntmps19, List.size_toArray, List.length_cons, List.length_nil, Nat.reduceAdd, Nat.reduceSub, Array.replicate_succ, Array.replicate_zero, List.push_toArray, List.append_toArray, List.nil_append, List.cons_append]
  gi_wp2
  gi_loopw [3] (fun i wr => ∃ k : Nat, k ≤ xs.length ∧ i = .int .i64 ((xs.length : Int) - 1 - (k : Int)) ∧ J (bk xs.length k) wr ∧ Kb n₀ Bs W wr)
    (fun i _ => (RowKit.intOf i + 1).toNat)
  case atStart => exact ⟨0, Nat.zero_le _, by simp, h0, Kb.refl _ _ _⟩
  case round =>
    obtain ⟨k, hk, rfl, hJs, hnx⟩ := hrel
    have hBc := (hnx.cell (p := ⟨Bs, 0, none⟩) (.inr rfl)).trans hBs
    by_cases hlt : k < xs.length
    · obtain ⟨q, hq⟩ : ∃ q : Nat, xs.length - 1 - k = q := ⟨_, rfl⟩
      have hqi : (xs.length : Int) - 1 - (k : Int) = (q : Int) := by omega
      have hql : q < xs.length := by omega
      rw [hqi]
      obtain ⟨c0, c1, c2, c3, c4⟩ := hc q hql
      have d0 := (hnx.cell (p := ⟨b, off + q * 5, none⟩) (.inl hb)).trans c0
      have d1 := (hnx.cell (p := ⟨b, off + q * 5 + 1, none⟩) (.inl hb)).trans c1
      have d2 := (hnx.cell (p := ⟨b, off + q * 5 + 2, none⟩) (.inl hb)).trans c2
      have d3 := (hnx.cell (p := ⟨b, off + q * 5 + 3, none⟩) (.inl hb)).trans c3
      have d4 := (hnx.cell (p := ⟨b, off + q * 5 + 4, none⟩) (.inl hb)).trans c4
      obtain ⟨fn, tmps, assign, body, hy, hR⟩ := hY (bk xs.length k) ⟨q, hql⟩ wr hJs (by rw [bk_len _ _ (by omega)]; exact hlt)
      dsimp only at hy
      unfold insV at hy
      obtain ⟨pe, me, ce, hev1⟩ := hev q hql
      rw [hev1] at d3 hy
      have hbk : bk xs.length k ++ [⟨q, hql⟩] = bk xs.length (k + 1) := by rw [bk_succ _ _ hlt]; simp only [hq]
      rw [hbk] at hR
      have HC := Lib.hid (And.intro hc hev)
      clear hc hev c0 c1 c2 c3 c4 hJs hBs
      have hq0 : ¬ (q : Int) < 0 := by omega
      have hqn : (q : Int) < (xs.length : Int) := by omega
      gi_wp2
      refine hR.mono ?_
      rintro e W3 (⟨rfl, hJ3, hk3⟩ | ⟨rfl, hJx3⟩)
      · gi_wp2
        go_roundw
        case rel => exact ⟨k + 1, by omega, by simp only [Value.int.injEq, true_and]; omega, hJ3, hnx.trans hk3⟩
        case measure => simp only [RowKit.intOf]; omega
      · gi_wp2
        refine bodyPost_ret (results_none rfl _ _ _) rfl ?_
        exact ⟨⟨_, rfl⟩, .inr ⟨_, ⟨k + 1, by omega, rfl⟩, hJx3⟩⟩
    · obtain rfl : k = xs.length := by omega
      gi_wp2
      go_end0
      exact ⟨⟨_, rfl⟩, .inl ⟨_, rfl, hJs⟩⟩

set_option maxRecDepth 100000 in
set_option maxHeartbeats 1000000 in
/-- slices.Backward(s): the slice value is boxed; the function value captures the box. -/
theorem backward_in (F : Fence) (n : Nat) (h6 : F.fn 16) (hro : F.round = none) (a : Option Addr) (len cap : Nat) (w : World) :
    CallsIn F n Try.prog 16 #[.slice a len cap] w fun e w' => e = .returned (.func (.func 19) #[] #[.pointer (some ⟨w.heap.size, 0, none⟩)]) ∧ w' = w.alloc (.cells #[.slice a len cap] 22) := by
  refine callsIn_of_wp Try.func16 rfl h6 ?_ hro
  simp only [Try.ntmps16, List.size_toArray, List.length_cons, List.length_nil, Nat.reduceAdd, Nat.reduceSub, Array.replicate_succ, Array.replicate_zero, List.push_toArray, List.append_toArray, List.nil_append, List.cons_append]
  gi_wp2
  go_ret
  exact ⟨rfl, rfl⟩

/-- It hands back a value that yields the places backward. -/
theorem back_stops (F : Fence) (n : Nat) (h8 : F.fn 19) (hro : F.round = none) (hn : 1 ≤ n) (Bs n₀ b off cap : Nat) (xs : List Ins) (evf : Nat → Value) (hb : b < n₀) (hlen : xs.length ≤ 1000000000000000) (w : World) (hBs : Bs < w.heap.size) (hn₀ : n₀ ≤ w.heap.size)
    (hbox : w.cell? ⟨Bs, 0, none⟩ = some (.slice (some ⟨b, off, none⟩) xs.length cap))
    (hc : ∀ j, j < xs.length → w.cell? ⟨b, off + j * 5, none⟩ = some (.int .u8 (at' xs j).k) ∧ w.cell? ⟨b, off + j * 5 + 1, none⟩ = some (.int .i64 (at' xs j).a) ∧ w.cell? ⟨b, off + j * 5 + 2, none⟩ = some (.int .i64 (at' xs j).b) ∧ w.cell? ⟨b, off + j * 5 + 3, none⟩ = some (evf j) ∧ w.cell? ⟨b, off + j * 5 + 4, none⟩ = some (.int .i64 (at' xs j).to))
    (hev : ∀ j, j < xs.length → ∃ p m c, evf j = .slice p m c) :
    SeqStopsK F n Try.prog 19 #[.pointer (some ⟨Bs, 0, none⟩)] (fun x : Fin xs.length => #[Value.int .i64 ((x.val : Nat) : Int), insV (at' xs x.val) (evf x.val)]) (Kb n₀ Bs) (fun ys => ys = bk xs.length xs.length)
      (fun pre => ∃ k, k ≤ xs.length ∧ pre = bk xs.length k) xs.length w := fun l J Jx W hW _ _ hY h0 => by
  have hbl : b < w.heap.size := by omega
  refine back1_in F n h8 hro hn l Bs n₀ b off cap xs evf hb hlen J Jx hY W ((hW.cell (p := ⟨Bs, 0, none⟩) hBs).trans hbox) (fun j hj => ?_) hev h0
  obtain ⟨c0, c1, c2, c3, c4⟩ := hc j hj
  exact ⟨(hW.cell (p := ⟨b, _, none⟩) hbl).trans c0, (hW.cell (p := ⟨b, _, none⟩) hbl).trans c1, (hW.cell (p := ⟨b, _, none⟩) hbl).trans c2, (hW.cell (p := ⟨b, _, none⟩) hbl).trans c3, (hW.cell (p := ⟨b, _, none⟩) hbl).trans c4⟩

end Go.Proofs.Ytfhleldmkhllaaa
