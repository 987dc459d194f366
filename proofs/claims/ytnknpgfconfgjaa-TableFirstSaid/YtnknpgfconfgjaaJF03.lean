/-
  Lemmas, joined: StabM, StabR, StabS, StabT.
-/
import Derived.Test.YtnknpgfconfgjaaJF01
import Derived.Test.YtnknpgfconfgjaaJF02
import Derived.Deep.RegionHeld3
import Derived.BigRegion
import Derived.BigQuiet
import Derived.IntWalk
import Derived.Deep.AppendLies
import Derived.Outline
/-
  A row of integers that is sorted in place: its memory; swaps; the insertion sort of slices.SortStableFunc.
-/
namespace Go.Proofs.Ytnknpgfconfgjaa
open Go.RowKit Stab

/-- Block g holds the integers f 0 .. f (n-1), and may be written. -/
def RowF (w : World) (g n : Nat) (f : Nat → Int) : Prop := ∀ i, i < n → w.cell? ⟨g, i, none⟩ = some (.int .i64 (f i)) ∧ w.frozen? ⟨g, i, none⟩ = false

/-- A world of the sort's: only block g, and what is new, has turned; the things of g are such as V says. -/
structure SWd (V : Int → Prop) (w0 : World) (g n : Nat) (f : Nat → Int) (w : World) : Prop where
  row : RowF w g n f
  gr : w0.grownBy w (some g)
  hg : g < w0.heap.size
  val : ∀ i, i < n → V (f i)

theorem grown_below {a w w1 : World} {r : Option Nat} (h : a.grownBy w r) (hb : Below w.heap.size w w1) : a.grownBy w1 r :=
  ⟨hb.os.trans h.os, hb.tape.trans h.tape, hb.output.trans h.output, Nat.le_trans h.size hb.size, fun i hi hn => (hb.block i (Nat.lt_of_lt_of_le hi h.size)).trans (h.block i hi hn)⟩

theorem SWd.glt {V : Int → Prop} {w0 w : World} {g n : Nat} {f : Nat → Int} (h : SWd V w0 g n f w) : g < w.heap.size := Nat.lt_of_lt_of_le h.hg h.gr.size
theorem SWd.below {V : Int → Prop} {w0 w w1 : World} {g n : Nat} {f : Nat → Int} (h : SWd V w0 g n f w) (hb : Below w.heap.size w w1) : SWd V w0 g n f w1 :=
  ⟨fun i hi => ⟨(hb.cell (p := ⟨g, i, none⟩) h.glt).trans (h.row i hi).1, (hb.frozen (p := ⟨g, i, none⟩) h.glt).trans (h.row i hi).2⟩, grown_below h.gr hb, h.hg, h.val⟩
theorem SWd.drewN {V : Int → Prop} {w0 w : World} {g n : Nat} {f : Nat → Int} (h : SWd V w0 g n f w) (k : Nat) : SWd V w0 g n f (w.drewN k) :=
  ⟨h.row, ⟨h.gr.os, h.gr.tape, h.gr.output, h.gr.size, h.gr.block⟩, h.hg, h.val⟩
theorem SWd.cell {V : Int → Prop} {w0 w : World} {g n : Nat} {f : Nat → Int} (h : SWd V w0 g n f w) (i : Nat) (hi : i < n) : w.cell? ⟨g, i, none⟩ = some (.int .i64 (f i)) := (h.row i hi).1
theorem SWd.free {V : Int → Prop} {w0 w : World} {g n : Nat} {f : Nat → Int} (h : SWd V w0 g n f w) (i : Nat) (hi : i < n) : w.frozen? ⟨g, i, none⟩ = false := (h.row i hi).2
/-- Two places change their things. -/
theorem SWd.swapped {V : Int → Prop} {w0 w : World} {g n : Nat} {f : Nat → Int} (h : SWd V w0 g n f w) (i j : Nat) (hi : i < n) (hj : j < n) :
    SWd V w0 g n (swp f i j) ((w.setCell ⟨g, i, none⟩ (.int .i64 (f j))).setCell ⟨g, j, none⟩ (.int .i64 (f i))) := by
  refine ⟨fun k hk => ⟨?_, ?_⟩, ?_, h.hg, fun k hk => ?_⟩
  · by_cases e2 : k = j
    · subst e2
      have hs : ∃ u, (w.setCell ⟨g, i, none⟩ (.int .i64 (f k))).cell? ⟨g, k, none⟩ = some u := by
        by_cases e : i = k
        · subst e; exact ⟨_, World.cell?_setCell_same _ _ _ (h.cell i hi)⟩
        · exact ⟨_, (World.cell?_setCell_other _ _ _ _ (by intro e'; simp only [Addr.mk.injEq] at e'; omega)).trans (h.cell k hk)⟩
      obtain ⟨u, hu⟩ := hs
      rw [World.cell?_setCell_same _ _ _ hu]
      unfold swp
      by_cases e : k = i
      · rw [if_pos e, e]
      · rw [if_neg e, if_pos rfl]
    · rw [World.cell?_setCell_other _ _ _ _ (by intro e'; simp only [Addr.mk.injEq] at e'; omega)]
      by_cases e1 : k = i
      · subst e1
        rw [World.cell?_setCell_same _ _ _ (h.cell k hk)]
        unfold swp; rw [if_pos rfl]
      · rw [World.cell?_setCell_other _ _ _ _ (by intro e'; simp only [Addr.mk.injEq] at e'; omega), h.cell k hk]
        unfold swp; rw [if_neg e1, if_neg e2]
  · rw [World.frozen?_setCell, World.frozen?_setCell]; exact h.free k hk
  · refine ⟨h.gr.os, h.gr.tape, h.gr.output, by simpa [World.setCell] using h.gr.size, fun b hb hne => ?_⟩
    have hgb : b ≠ g := fun e => hne (by rw [e])
    rw [Below.heap_setCell _ _ _ b (by exact hgb), Below.heap_setCell _ _ _ b (by exact hgb)]
    exact h.gr.block b hb hne
  · unfold swp
    split
    · exact h.val j hj
    · split
      · exact h.val i hi
      · exact h.val k hk
theorem SWd.c2 {V : Int → Prop} {w0 w : World} {g n : Nat} {f : Nat → Int} (h : SWd V w0 g n f w) (i j : Nat) (hi : i < n) (hj : j < n) (hij : i ≠ j) (v : Value) : (w.setCell ⟨g, i, none⟩ v).cell? ⟨g, j, none⟩ = some (.int .i64 (f j)) :=
  (World.cell?_setCell_other _ _ _ _ (by intro e'; simp only [Addr.mk.injEq] at e'; omega)).trans (h.cell j hj)

/-- What is asked of the comparison: function c bound to cb: of any two things it says whether the first goes ahead. -/
structure CmpOk (V : Int → Prop) (w0 : World) (g c : Nat) (cb : Array Value) (cf : Int → Int → Int) : Prop where
  call : ∀ (av : Array Value) (W : World), (callFunc c av).run Try.prog W = .ok (.enter c av) W
  con : ∀ W, w0.grownBy W (some g) → ∀ x y, V x → V y → Calls Try.prog c (#[.int .i64 x, .int .i64 y] ++ cb) W fun e w' => e = .returned (.int .i64 (cf x y)) ∧ Below W.heap.size W w'

def SOk (V : Int → Prop) (w0 : World) (g n : Nat) (R : (Nat → Int) → Prop) (e : Ending) (w' : World) : Prop := e = .returned (.tuple #[]) ∧ ∃ f, SWd V w0 g n f w' ∧ R f

set_option maxRecDepth 100000 in
set_option maxHeartbeats 1600000 in
theorem ins_any (V : Int → Prop) (L : Int → Int → Bool) (hO : Ord L) (w0 : World) (g n cap c : Nat) (cb : Array Value) (cf : Int → Int → Int) (hC : CmpOk V w0 g c cb cf) (hlt : ∀ x y, x < y → (cf y x < 0 ↔ L y x = true))
    (a b : Nat) (f : Nat → Int) (w : World) (hab : a ≤ b) (hbn : b ≤ n) (hn : n ≤ 1000000) (hasc : ∀ p q, a ≤ p → p < q → q < b → f p < f q) (S : SWd V w0 g n f w) :
    Calls Try.prog 76 #[.slice (some ⟨g, 0, none⟩) n cap, .int .i64 a, .int .i64 b, .func (.func c) #[] cb] w (SOk V w0 g n (fun f' => MrgOk L f f' a b)) := by
  have HC := Lib.hid hC
  have HL := Lib.hid hlt
  have HA := Lib.hid hasc
  have HS := Lib.hid S
  have hcall := hC.call
  clear hC hlt hasc S
  go_enter Try.func76, Try.ntmps76
  go_wp2
  go_loopg [8] (b - a) (fun g1 vi wr => ∃ (i : Nat) (fk : Nat → Int), vi = .int .i64 i ∧ a < i ∧ (i ≤ b ∨ i = a + 1) ∧ b + 1 - i ≤ g1 + 1 ∧ Hid (SWd V w0 g n fk wr) ∧ Hid (Ins L f fk a i))
  case atStart => exact ⟨a + 1, f, by go_num, by omega, by omega, by omega, HS, Ins.start L f a⟩
  case round =>
    clear HS
    obtain ⟨i, fk, rfl, hai, hib, hg1, HS, HI⟩ := hrel
    by_cases hlt : i < b
    · go_wp2
      go_loopg [9] i (fun g2 vj wr2 => ∃ (j : Nat) (fj : Nat → Int), vj = .int .i64 j ∧ a ≤ j ∧ j ≤ i ∧ j ≤ g2 ∧ Hid (SWd V w0 g n fj wr2) ∧ Hid (InsI L f fj a i j))
      case atStart => exact ⟨i, fk, rfl, by omega, Nat.le_refl _, Nat.le_refl _, HS, HI.out.inner (by omega) hlt HA.out⟩
      case round =>
        clear HS HI
        obtain ⟨j, fj, rfl, haj, hji, hg2, HS, HI⟩ := hrel
        by_cases hja : a < j
        · obtain ⟨jp, rfl⟩ : ∃ jp, j = jp + 1 := ⟨j - 1, by omega⟩
          have hjaz : (a : Int) < (jp : Int) + 1 := by omega
          have l1 := HS.out.cell (jp + 1) (by omega)
          have l2 := HS.out.cell jp (by omega)
          have f1 := HS.out.free (jp + 1) (by omega)
          have f2 := HS.out.free jp (by omega)
          have v1 := HS.out.val (jp + 1) (by omega)
          have v2 := HS.out.val jp (by omega)
          have hl := HI.out.less jp (by omega) (by omega) (by omega)
          have hcc := fun W hW => HC.out.con W hW (fj (jp + 1)) (fj jp) v1 v2
          have HX : Hid (L (fj (jp + 1)) (fj jp) = true ↔ cf (fj (jp + 1)) (fj jp) < 0) := (HL.out _ _ hl).symm
          have HW : Hid (∀ W, Below wr.heap.size wr W → w0.grownBy W (some g)) := fun W hW => grown_below HS.out.gr hW
          clear v1 v2 hl
          have q0 : (0 : Int) ≤ (jp : Int) + 1 := by omega
          have q1 : (jp : Int) + 1 < (n : Int) := by omega
          have q2 : (jp : Int) < (n : Int) := by omega
          have q3 : ((jp : Int) + 1).toNat = jp + 1 := by omega
          have q4 : (0 : Int) ≤ (jp : Int) := by omega
          have q5 : IntKind.i64.wrap (jp : Int) = (jp : Int) := by rw [IntKind.wrap_i64]; omega
          obtain ⟨x, hx⟩ : ∃ x, x = fj (jp + 1) := ⟨_, rfl⟩
          obtain ⟨y, hy⟩ : ∃ y, y = fj jp := ⟨_, rfl⟩
          rw [← hx, ← hy] at hcc HX
          rw [← hx] at l1
          rw [← hy] at l2
          have Hx := Lib.hid hx
          have Hy := Lib.hid hy
          have hcc' := Lib.hid hcc
          clear hx hy hcc
          go_wp2_with fail
          go_region_held3 (fun Wk => Below (wr.heap.size) (wr) Wk ∧ Wk.cell? ⟨g, jp + 1, none⟩ = some (.int .i64 x) ∧ Wk.cell? ⟨g, jp, none⟩ = some (.int .i64 y))
            (first | exact ⟨below_drewN (Below.refl _ _) 1, l1, l2⟩ | exact held_2_0 hb1 (by assumption) | go_keep)
            (((with_reducible refine (hcc'.out _ (HW.out _ (And.left (by assumption)))).mono ?_); rintro e w1 ⟨rfl, hb1⟩))
          rename_i hS1
          have HS1 : Hid (SWd V w0 g n fj w1) := HS.out.below hS1.1
          clear hS1 l1 l2 f1 f2 HS HW hcc'
          by_cases hv : cf x y < 0
          · have l1 := HS1.out.cell (jp + 1) (by omega)
            have l2 := HS1.out.cell jp (by omega)
            have f1 := HS1.out.free (jp + 1) (by omega)
            have f2 := HS1.out.free jp (by omega)
            have l3 := HS1.out.c2 (jp + 1) jp (by omega) (by omega) (by omega) (.int .i64 y)
            have HS2 := Lib.hid (HS1.out.swapped (jp + 1) jp (by omega) (by omega))
            rw [← Hx.out, ← Hy.out] at HS2
            rw [← Hx.out] at l1
            rw [← Hy.out] at l2 l3
            clear HS1
            go_wp2_with fail
            go_big_region
            have HS3 : Hid (SWd V w0 g n (swp fj (jp + 1) jp) (((w1.setCell ⟨g, jp + 1, none⟩ (.int .i64 y)).setCell ⟨g, jp, none⟩ (.int .i64 x)).drew)) := HS2.out.drewN 1
            clear l1 l2 l3 f1 f2 HS2
            go_wp2
            go_roundg jp
            case measure => omega
            case rel => exact ⟨jp, _, by first | rfl | go_num, by omega, by omega, Nat.le_refl _, HS3, HI.out.step (by omega) (by simp only [Nat.add_sub_cancel]; rw [← Hx.out, ← Hy.out]; exact HX.out.2 hv) hO⟩
          · go_wp2
            go_roundg (b - (i + 1))
            case measure => omega
            case rel => exact ⟨i + 1, fj, by go_num, by omega, by omega, by omega, HS1, HI.out.done hO (.inr (by simp only [Nat.add_sub_cancel]; rw [← Hx.out, ← Hy.out]; cases hq : L x y; rfl; have hz := HX.out.1 hq; exfalso; omega))⟩
        · have hjaz : decide ((j : Int) > (a : Int)) = false := decide_eq_false (by omega)
          have hjaz' : ¬ (a : Int) < (j : Int) := by omega
          go_wp2_with fail
          go_big_region
          have HS1 : Hid (SWd V w0 g n fj wr.drew) := HS.out.drewN 1
          clear HS
          go_wp2
          go_roundg (b - (i + 1))
          case measure => omega
          case rel => exact ⟨i + 1, fj, by go_num, by omega, by omega, by omega, HS1, HI.out.done hO (.inl (by omega))⟩
    · go_wp2
      go_end0
      exact ⟨rfl, fk, HS.out, HI.out.last (by omega) (by omega)⟩

end Go.Proofs.Ytnknpgfconfgjaa

/-
  slices.SortStableFunc: swapRange, rotate.
-/
namespace Go.Proofs.Ytnknpgfconfgjaa
open Go.RowKit Stab

set_option maxRecDepth 100000 in
set_option maxHeartbeats 1600000 in
theorem swr_any (V : Int → Prop) (w0 : World) (g n cap : Nat) (cv : Value) (a b k : Nat) (f : Nat → Int) (w : World) (hab : a + k ≤ b) (hbn : b + k ≤ n) (hn : n ≤ 1000000) (S : SWd V w0 g n f w) :
    Calls Try.prog 88 #[.slice (some ⟨g, 0, none⟩) n cap, .int .i64 a, .int .i64 b, .int .i64 k, cv] w (SOk V w0 g n (fun f' => f' = swr f a b k)) := by
  have HS := Lib.hid S
  clear S
  go_enter Try.func88, Try.ntmps88
  go_wp2
  go_loopw [10] (fun vi wr => ∃ (i : Nat), vi = .int .i64 i ∧ i ≤ k ∧ Hid (SWd V w0 g n (swr f a b i) wr)) (fun vi _ => k - (intOf vi).toNat)
  case atStart => exact ⟨0, rfl, by omega, by rw [swr_zero]; exact HS.out⟩
  case round =>
    clear HS
    obtain ⟨i, rfl, hik, HS⟩ := hrel
    by_cases hlt : i < k
    · have l1 := HS.out.cell (a + i) (by omega)
      have l2 := HS.out.cell (b + i) (by omega)
      have f1 := HS.out.free (a + i) (by omega)
      have f2 := HS.out.free (b + i) (by omega)
      obtain ⟨x, hx⟩ : ∃ x, x = swr f a b i (a + i) := ⟨_, rfl⟩
      obtain ⟨y, hy⟩ : ∃ y, y = swr f a b i (b + i) := ⟨_, rfl⟩
      have l3 := HS.out.c2 (a + i) (b + i) (by omega) (by omega) (by omega) (.int .i64 y)
      have HS2 := Lib.hid (HS.out.swapped (a + i) (b + i) (by omega) (by omega))
      rw [swr_succ f a b i (by omega)] at HS2
      rw [← hx] at l1 HS2
      rw [← hy] at l2 l3 HS2
      obtain ⟨p, hp⟩ : ∃ p, p = a + i := ⟨_, rfl⟩
      obtain ⟨q, hq⟩ : ∃ q, q = b + i := ⟨_, rfl⟩
      rw [← hp] at l1 f1 l3 HS2
      rw [← hq] at l2 f2 l3 HS2
      have q1 : ((a : Int) + (i : Int)).toNat = p := by omega
      have q2 : ((b : Int) + (i : Int)).toNat = q := by omega
      have q3 : (0 : Int) ≤ (a : Int) + (i : Int) := by omega
      have q4 : (0 : Int) ≤ (b : Int) + (i : Int) := by omega
      have q5 : (a : Int) + (i : Int) < (n : Int) := by omega
      have q6 : (b : Int) + (i : Int) < (n : Int) := by omega
      have q7 : IntKind.i64.wrap ((a : Int) + (i : Int)) = (a : Int) + (i : Int) := by rw [IntKind.wrap_i64]; omega
      have q8 : IntKind.i64.wrap ((b : Int) + (i : Int)) = (b : Int) + (i : Int) := by rw [IntKind.wrap_i64]; omega
      clear hx hy hp hq HS
      go_wp2_with fail
      go_big_region
      have HS3 : Hid (SWd V w0 g n (swr f a b (i + 1)) ((wr.setCell ⟨g, p, none⟩ (.int .i64 y)).setCell ⟨g, q, none⟩ (.int .i64 x)).drew) := HS2.out.drewN 1
      clear l1 l2 l3 f1 f2 HS2 q1 q2 q3 q4 q5 q6 q7 q8
      go_wp2
      go_roundw
      case rel => exact ⟨i + 1, by go_num, by omega, HS3⟩
      case measure => simp [intOf]; omega
    · obtain rfl : i = k := by omega
      go_wp2
      go_end0
      exact ⟨rfl, _, HS.out, rfl⟩

set_option maxRecDepth 100000 in
set_option maxHeartbeats 1600000 in
theorem rot_any (V : Int → Prop) (w0 : World) (g n cap : Nat) (cv : Value) (a m b : Nat) (f : Nat → Int) (w : World) (ham : a < m) (hmb : m < b) (hbn : b ≤ n) (hn : n ≤ 1000000) (S : SWd V w0 g n f w) :
    Calls Try.prog 86 #[.slice (some ⟨g, 0, none⟩) n cap, .int .i64 a, .int .i64 m, .int .i64 b, cv] w (SOk V w0 g n (fun f' => f' = rot f a m b)) := by
  have HS := Lib.hid S
  clear S
  go_enter Try.func86, Try.ntmps86
  go_wp2
  go_loopg [10, 11] (b - a) (fun gk vi vj wr => ∃ (i j : Nat) (fk : Nat → Int), vi = .int .i64 i ∧ vj = .int .i64 j ∧ 0 < i ∧ 0 < j ∧ i ≤ m ∧ m + j ≤ n ∧ i + j ≤ gk ∧ Hid (SWd V w0 g n fk wr) ∧ Hid (rot fk (m - i) m (m + j) = rot f a m b))
  case atStart => exact ⟨m - a, b - m, f, by congr 1; omega, by congr 1; omega, by omega, by omega, by omega, by omega, by omega, HS, by show _ = _; rw [show m - (m - a) = a by omega, show m + (b - m) = b by omega]⟩
  case round =>
    clear HS
    obtain ⟨i, j, fk, rfl, rfl, hi, hj, him, hjn, hgk, HS, HR⟩ := hrel
    rcases Nat.lt_trichotomy i j with h | h | h
    · have hne : ¬ (i : Int) = (j : Int) := by omega
      have hng : ¬ (j : Int) < (i : Int) := by omega
      have hlt : (i : Int) < (j : Int) := by omega
      have q1 : (i : Int) ≤ (m : Int) := by omega
      have q2 : (m : Int) + (j : Int) ≤ 1000000 := by omega
      have HK := Lib.hid (swr_any V w0 g n cap cv (m - i) (m + j - i) i fk wr (by omega) (by omega) hn HS.out)
      rw [show ((m - i : Nat) : Int) = (m : Int) - (i : Int) by omega, show ((m + j - i : Nat) : Int) = (m : Int) + (j : Int) - (i : Int) by omega] at HK
      clear HS
      go_wp2_with fail
      refine HK.out.mono ?_
      rintro e w1 ⟨rfl, f1, S1, rfl⟩
      have HS := Lib.hid S1
      clear S1 HK
      go_wp2_with fail
      go_roundg (i + j - 1)
      case measure => omega
      case rel => exact ⟨i, j - i, _, rfl, by congr 1; omega, by omega, by omega, by omega, by omega, by omega, HS, by show _ = _; rw [← HR.out]; exact rot_lt fk m i j him h⟩
    · subst h
      have q1 : (i : Int) ≤ (m : Int) := by omega
      have HK := Lib.hid (swr_any V w0 g n cap cv (m - i) m i fk wr (by omega) (by omega) hn HS.out)
      rw [show ((m - i : Nat) : Int) = (m : Int) - (i : Int) by omega] at HK
      clear HS
      go_wp2_with fail
      refine HK.out.mono ?_
      rintro e w1 ⟨rfl, f1, S1, rfl⟩
      have HS := Lib.hid S1
      clear S1 HK
      go_wp2_with fail
      go_end0
      exact ⟨rfl, _, HS.out, by rw [← HR.out]; exact rot_eq fk m i him⟩
    · have hne : ¬ (i : Int) = (j : Int) := by omega
      have hgt : (j : Int) < (i : Int) := by omega
      have q1 : (i : Int) ≤ (m : Int) := by omega
      have HK := Lib.hid (swr_any V w0 g n cap cv (m - i) m j fk wr (by omega) (by omega) hn HS.out)
      rw [show ((m - i : Nat) : Int) = (m : Int) - (i : Int) by omega] at HK
      clear HS
      go_wp2_with fail
      refine HK.out.mono ?_
      rintro e w1 ⟨rfl, f1, S1, rfl⟩
      have HS := Lib.hid S1
      clear S1 HK
      go_wp2_with fail
      go_roundg (i + j - 1)
      case measure => omega
      case rel => exact ⟨i - j, j, _, by congr 1; omega, rfl, by omega, by omega, by omega, by omega, by omega, HS, by show _ = _; rw [← HR.out]; exact rot_gt fk m i j him h⟩

end Go.Proofs.Ytnknpgfconfgjaa

/-
  slices.SortStableFunc: symMerge, one element ahead.
-/
namespace Go.Proofs.Ytnknpgfconfgjaa
open Go.RowKit Stab

set_option maxRecDepth 100000 in
set_option maxHeartbeats 1600000 in
theorem smg_one (V : Int → Prop) (L : Int → Int → Bool) (hO : Ord L) (w0 : World) (g n cap c : Nat) (cb : Array Value) (cf : Int → Int → Int) (hC : CmpOk V w0 g c cb cf) (hlt : ∀ x y, x < y → (cf y x < 0 ↔ L y x = true))
    (a b : Nat) (f : Nat → Int) (w : World) (hbn : b ≤ n) (hn : n ≤ 1000000) (hM : Mrg L f a (a + 1) b) (S : SWd V w0 g n f w) :
    Calls Try.prog 77 #[.slice (some ⟨g, 0, none⟩) n cap, .int .i64 a, .int .i64 (a + 1 : Nat), .int .i64 b, .func (.func c) #[] cb] w (SOk V w0 g n (fun f' => MrgOk L f f' a b)) := by
  have HC := Lib.hid hC
  have HL := Lib.hid hlt
  have HM := Lib.hid hM
  have HS := Lib.hid S
  have hcall := hC.call
  have hmb := hM.mb
  have t1 : ((a : Int) + 1 - (a : Int) == 1) = true := by simp; omega
  have q0 : (a : Int) + 1 ≤ 1000000 := by omega
  clear hC hlt S hM
  go_enter Try.func77, Try.ntmps77
  go_wp2
  clear t1
  go_loopg [10, 11, 12] (b - a) (fun gk vi vj vh wr => ∃ (i j : Nat), vi = .int .i64 i ∧ vj = .int .i64 j ∧ a + 1 ≤ i ∧ i ≤ j ∧ j ≤ b ∧ j - i ≤ gk ∧ Hid (SWd V w0 g n f wr) ∧ Hid ((∀ k, a + 1 ≤ k → k < i → L (f k) (f a) = true) ∧ (∀ k, j ≤ k → k < b → L (f k) (f a) = false)))
  case atStart => exact ⟨a + 1, b, by go_num, rfl, by omega, by omega, by omega, by omega, HS, ⟨fun k h1 h2 => by omega, fun k h1 h2 => by omega⟩⟩
  case round =>
    clear HS
    obtain ⟨i, j, rfl, rfl, hi, hij, hjb, hgk, HS, HI⟩ := hrel
    by_cases hlt : i < j
    · have q1 : (i : Int) + (j : Int) ≤ 2000000 := by omega
      go_wp2
      obtain ⟨h, hh⟩ : ∃ h : Nat, h = (i + j) / 2 := ⟨_, rfl⟩
      have hi1 : i ≤ h := by omega
      have hj1 : h < j := by omega
      rw [show ((i : Int) + (j : Int)) / 2 = (h : Int) by omega]
      clear hh
      have l1 := HS.out.cell h (by omega)
      have l2 := HS.out.cell a (by omega)
      have hcc := Lib.hid (fun W hW => HC.out.con W hW (f h) (f a) (HS.out.val h (by omega)) (HS.out.val a (by omega)))
      have HX : Hid (L (f h) (f a) = true ↔ cf (f h) (f a) < 0) := (HL.out _ _ (HM.out.ap a h (Nat.le_refl _) (by omega) (by omega) (by omega))).symm
      have HW : Hid (∀ W, Below wr.heap.size wr W → w0.grownBy W (some g)) := fun W hW => grown_below HS.out.gr hW
      have q2 : (h : Int) < (n : Int) := by omega
      have q3 : (a : Int) < (n : Int) := by omega
      have q4 : (0 : Int) ≤ (h : Int) := by omega
      have q5 : (0 : Int) ≤ (a : Int) := by omega
      obtain ⟨x, hx⟩ : ∃ x, x = f h := ⟨_, rfl⟩
      obtain ⟨y, hy⟩ : ∃ y, y = f a := ⟨_, rfl⟩
      rw [← hx, ← hy] at hcc HX
      rw [← hx] at l1
      rw [← hy] at l2
      have Hx := Lib.hid hx
      have Hy := Lib.hid hy
      clear hx hy
      go_region_held3 (fun Wk => Below (wr.heap.size) (wr) Wk ∧ Wk.cell? ⟨g, h, none⟩ = some (.int .i64 x) ∧ Wk.cell? ⟨g, a, none⟩ = some (.int .i64 y))
        (first | exact ⟨below_drewN (Below.refl _ _) 1, l1, l2⟩ | exact held_2_0 hb1 (by assumption) | go_keep)
        (((with_reducible refine (hcc.out _ (HW.out _ (And.left (by assumption)))).mono ?_); rintro e w1 ⟨rfl, hb1⟩))
      rename_i hS1
      have HS1 : Hid (SWd V w0 g n f w1) := HS.out.below hS1.1
      clear hS1 l1 l2 HS HW hcc hb1 q0 q1 q4 q5
      by_cases hv : cf x y < 0
      · go_wp2
        go_roundg (j - (h + 1))
        case measure => omega
        case rel =>
          refine ⟨h + 1, j, by go_num, rfl, by omega, by omega, by omega, by omega, HS1, ⟨fun k h1 h2 => ?_, HI.out.2⟩⟩
          have hq : L (f h) (f a) = true := by rw [← Hx.out, ← Hy.out]; exact HX.out.2 hv
          by_cases e : k = h
          · rw [e]; exact hq
          · exact hO.tr _ _ _ (HM.out.s2 k h h1 (by omega) (by omega)) hq
      · go_wp2
        go_roundg (h - i)
        case measure => omega
        case rel =>
          refine ⟨i, h, rfl, rfl, by omega, by omega, by omega, by omega, HS1, ⟨HI.out.1, fun k h1 h2 => ?_⟩⟩
          have hq : L (f h) (f a) = false := by
            rw [← Hx.out, ← Hy.out]
            cases hq : L x y
            · rfl
            · have := HX.out.1 hq; exfalso; omega
          cases hz : L (f k) (f a)
          · rfl
          · by_cases e : k = h
            · rw [e, hq] at hz; cases hz
            · have := hO.tr _ _ _ (HM.out.s2 h k (by omega) (by omega) (by omega)) hz; rw [hq] at this; cases this
    · obtain rfl : i = j := by omega
      have HF : Hid (MrgOk L f (mvR f a (i - 1)) a b) := HM.out.one hO hi hjb HI.out.1 HI.out.2
      have q1 : (i : Int) ≤ 1000000 := by omega
      have q2 : 1 ≤ (i : Int) := by omega
      go_wp2
      go_loopg [13] (b - a) (fun gk vk wr => ∃ (k : Nat), vk = .int .i64 k ∧ a ≤ k ∧ k ≤ i - 1 ∧ i - 1 - k ≤ gk ∧ Hid (SWd V w0 g n (mvR f a k) wr))
      case atStart => exact ⟨a, rfl, by omega, by omega, by omega, by rw [mvR_zero]; exact HS.out⟩
      case round =>
        clear HS HI
        obtain ⟨k, rfl, hk, hki, hgk, HS⟩ := hrel
        by_cases hlt : k < i - 1
        · have hz : (k : Int) < (i : Int) - 1 := by omega
          have l1 := HS.out.cell k (by omega)
          have l2 := HS.out.cell (k + 1) (by omega)
          have f1 := HS.out.free k (by omega)
          have f2 := HS.out.free (k + 1) (by omega)
          obtain ⟨x, hx⟩ : ∃ x, x = mvR f a k k := ⟨_, rfl⟩
          obtain ⟨y, hy⟩ : ∃ y, y = mvR f a k (k + 1) := ⟨_, rfl⟩
          have l3 := HS.out.c2 k (k + 1) (by omega) (by omega) (by omega) (.int .i64 y)
          have HS2 := Lib.hid (HS.out.swapped k (k + 1) (by omega) (by omega))
          rw [mvR_succ f a k hk] at HS2
          rw [← hx] at l1 HS2
          rw [← hy] at l2 l3 HS2
          have q1 : ((k : Int) + 1).toNat = k + 1 := by omega
          have q3 : (0 : Int) ≤ (k : Int) + 1 := by omega
          have q5 : (k : Int) < (n : Int) := by omega
          have q6 : (k : Int) + 1 < (n : Int) := by omega
          have q7 : IntKind.i64.wrap ((k : Int) + 1) = (k : Int) + 1 := by rw [IntKind.wrap_i64]; omega
          clear hx hy HS
          go_wp2_with fail
          go_big_region
          have HS3 : Hid (SWd V w0 g n (mvR f a (k + 1)) ((wr.setCell ⟨g, k, none⟩ (.int .i64 y)).setCell ⟨g, k + 1, none⟩ (.int .i64 x)).drew) := HS2.out.drewN 1
          clear l1 l2 l3 f1 f2 HS2 q1 q3 q5 q6 q7
          go_wp2
          go_roundg (i - 1 - (k + 1))
          case measure => omega
          case rel => exact ⟨k + 1, by go_num, by omega, by omega, by omega, HS3⟩
        · obtain rfl : k = i - 1 := by omega
          have hz : ¬ ((i - 1 : Nat) : Int) < (i : Int) - 1 := by omega
          go_wp2
          go_end0
          exact ⟨rfl, _, HS.out, HF.out⟩

end Go.Proofs.Ytnknpgfconfgjaa

/-
  slices.SortStableFunc: symMerge, one element behind; a search for the cut.
-/
namespace Go.Proofs.Ytnknpgfconfgjaa
open Go.RowKit Stab

set_option maxRecDepth 100000 in
set_option maxHeartbeats 1600000 in
theorem smg_oneR (V : Int → Prop) (L : Int → Int → Bool) (hO : Ord L) (w0 : World) (g n cap c : Nat) (cb : Array Value) (cf : Int → Int → Int) (hC : CmpOk V w0 g c cb cf) (hlt : ∀ x y, x < y → (cf y x < 0 ↔ L y x = true))
    (a m : Nat) (f : Nat → Int) (w : World) (hbn : m + 1 ≤ n) (hn : n ≤ 1000000) (ham : a + 1 < m) (hM : Mrg L f a m (m + 1)) (S : SWd V w0 g n f w) :
    Calls Try.prog 77 #[.slice (some ⟨g, 0, none⟩) n cap, .int .i64 a, .int .i64 m, .int .i64 (m + 1 : Nat), .func (.func c) #[] cb] w (SOk V w0 g n (fun f' => MrgOk L f f' a (m + 1))) := by
  have HC := Lib.hid hC
  have HL := Lib.hid hlt
  have HM := Lib.hid hM
  have HS := Lib.hid S
  have hcall := hC.call
  have t0 : ((m : Int) - (a : Int) == 1) = false := by simp; omega
  have t1 : ((m : Int) + 1 - (m : Int) == 1) = true := by simp; omega
  clear hC hlt S hM
  go_enter Try.func77, Try.ntmps77
  go_wp2
  clear t0 t1
  go_loopg [14, 15, 16] (m + 1 - a) (fun gk vi vj vh wr => ∃ (i j : Nat), vi = .int .i64 i ∧ vj = .int .i64 j ∧ a ≤ i ∧ i ≤ j ∧ j ≤ m ∧ j - i ≤ gk ∧ Hid (SWd V w0 g n f wr) ∧ Hid ((∀ k, a ≤ k → k < i → L (f m) (f k) = false) ∧ (∀ k, j ≤ k → k < m → L (f m) (f k) = true)))
  case atStart => exact ⟨a, m, rfl, rfl, by omega, by omega, by omega, by omega, HS, ⟨fun k h1 h2 => by omega, fun k h1 h2 => by omega⟩⟩
  case round =>
    clear HS
    obtain ⟨i, j, rfl, rfl, hi, hij, hjb, hgk, HS, HI⟩ := hrel
    by_cases hlt : i < j
    · have q1 : (i : Int) + (j : Int) ≤ 2000000 := by omega
      go_wp2
      obtain ⟨h, hh⟩ : ∃ h : Nat, h = (i + j) / 2 := ⟨_, rfl⟩
      have hi1 : i ≤ h := by omega
      have hj1 : h < j := by omega
      rw [show ((i : Int) + (j : Int)) / 2 = (h : Int) by omega]
      clear hh
      have l1 := HS.out.cell m (by omega)
      have l2 := HS.out.cell h (by omega)
      have hcc := Lib.hid (fun W hW => HC.out.con W hW (f m) (f h) (HS.out.val m (by omega)) (HS.out.val h (by omega)))
      have HX : Hid (L (f m) (f h) = true ↔ cf (f m) (f h) < 0) := (HL.out _ _ (HM.out.ap h m (by omega) (by omega) (by omega) (by omega))).symm
      have HW : Hid (∀ W, Below wr.heap.size wr W → w0.grownBy W (some g)) := fun W hW => grown_below HS.out.gr hW
      have q2 : (h : Int) < (n : Int) := by omega
      have q3 : (m : Int) < (n : Int) := by omega
      have q4 : (0 : Int) ≤ (h : Int) := by omega
      have q5 : (0 : Int) ≤ (m : Int) := by omega
      obtain ⟨x, hx⟩ : ∃ x, x = f m := ⟨_, rfl⟩
      obtain ⟨y, hy⟩ : ∃ y, y = f h := ⟨_, rfl⟩
      rw [← hx, ← hy] at hcc HX
      rw [← hx] at l1
      rw [← hy] at l2
      have Hx := Lib.hid hx
      have Hy := Lib.hid hy
      clear hx hy
      go_region_held3 (fun Wk => Below (wr.heap.size) (wr) Wk ∧ Wk.cell? ⟨g, m, none⟩ = some (.int .i64 x) ∧ Wk.cell? ⟨g, h, none⟩ = some (.int .i64 y))
        (first | exact ⟨below_drewN (Below.refl _ _) 1, l1, l2⟩ | exact held_2_0 hb1 (by assumption) | go_keep)
        (((with_reducible refine (hcc.out _ (HW.out _ (And.left (by assumption)))).mono ?_); rintro e w1 ⟨rfl, hb1⟩))
      rename_i hS1
      have HS1 : Hid (SWd V w0 g n f w1) := HS.out.below hS1.1
      clear hS1 l1 l2 HS HW hcc hb1 q1 q4 q5
      by_cases hv : cf x y < 0
      · rw [show (!decide (cf x y < 0)) = false by simp; omega]
        go_wp2
        go_roundg (h - i)
        case measure => omega
        case rel =>
          refine ⟨i, h, rfl, rfl, by omega, by omega, by omega, by omega, HS1, ⟨HI.out.1, fun k h1 h2 => ?_⟩⟩
          have hq : L (f m) (f h) = true := by rw [← Hx.out, ← Hy.out]; exact HX.out.2 hv
          by_cases e : k = h
          · rw [e]; exact hq
          · exact hO.tr _ _ _ hq (HM.out.s1 h k (by omega) (by omega) (by omega))
      · rw [show (!decide (cf x y < 0)) = true by simp; omega]
        go_wp2
        go_roundg (j - (h + 1))
        case measure => omega
        case rel =>
          refine ⟨h + 1, j, by go_num, rfl, by omega, by omega, by omega, by omega, HS1, ⟨fun k h1 h2 => ?_, HI.out.2⟩⟩
          have hq : L (f m) (f h) = false := by
            rw [← Hx.out, ← Hy.out]
            cases hq : L x y
            · rfl
            · have := HX.out.1 hq; exfalso; omega
          cases hz : L (f m) (f k)
          · rfl
          · by_cases e : k = h
            · rw [e, hq] at hz; cases hz
            · have := hO.tr _ _ _ hz (HM.out.s1 k h (by omega) (by omega) (by omega)); rw [hq] at this; cases this
    · obtain rfl : i = j := by omega
      have HF : Hid (MrgOk L f (mvL f m i) a (m + 1)) := HM.out.oneR hO hi hjb HI.out.1 HI.out.2
      have q1 : (i : Int) ≤ 1000000 := by omega
      go_wp2
      clear q1
      go_loopg [17] (m + 1) (fun gk vk wr => ∃ (k : Nat), vk = .int .i64 k ∧ i ≤ k ∧ k ≤ m ∧ k ≤ gk ∧ Hid (SWd V w0 g n (mvL f m k) wr))
      case atStart => exact ⟨m, rfl, by omega, by omega, by omega, by rw [mvL_zero]; exact HS.out⟩
      case round =>
        clear HS HI
        obtain ⟨k, rfl, hk, hki, hgk, HS⟩ := hrel
        by_cases hlt : i < k
        · obtain ⟨p, rfl⟩ : ∃ p, k = p + 1 := ⟨k - 1, by omega⟩
          have hz : (i : Int) < (p : Int) + 1 := by omega
          have l1 := HS.out.cell (p + 1) (by omega)
          have l2 := HS.out.cell p (by omega)
          have f1 := HS.out.free (p + 1) (by omega)
          have f2 := HS.out.free p (by omega)
          obtain ⟨x, hx⟩ : ∃ x, x = mvL f m (p + 1) (p + 1) := ⟨_, rfl⟩
          obtain ⟨y, hy⟩ : ∃ y, y = mvL f m (p + 1) p := ⟨_, rfl⟩
          have l3 := HS.out.c2 (p + 1) p (by omega) (by omega) (by omega) (.int .i64 y)
          have HS2 := Lib.hid (HS.out.swapped (p + 1) p (by omega) (by omega))
          have hsc := mvL_succ f m (p + 1) (by omega) (by omega)
          simp only [Nat.add_sub_cancel] at hsc
          rw [hsc] at HS2
          rw [← hx] at l1 HS2
          rw [← hy] at l2 l3 HS2
          have q1 : ((p : Int) + 1).toNat = p + 1 := by omega
          have q3 : (0 : Int) ≤ (p : Int) + 1 := by omega
          have q4 : (0 : Int) ≤ (p : Int) := by omega
          have q5 : (p : Int) < (n : Int) := by omega
          have q6 : (p : Int) + 1 < (n : Int) := by omega
          have q7 : IntKind.i64.wrap (p : Int) = (p : Int) := by rw [IntKind.wrap_i64]; omega
          clear hx hy HS hsc
          go_wp2_with fail
          go_big_region
          have HS3 : Hid (SWd V w0 g n (mvL f m p) ((wr.setCell ⟨g, p + 1, none⟩ (.int .i64 y)).setCell ⟨g, p, none⟩ (.int .i64 x)).drew) := HS2.out.drewN 1
          clear l1 l2 l3 f1 f2 HS2 q1 q3 q4 q5 q6 q7
          go_wp2
          go_roundg p
          case measure => omega
          case rel => exact ⟨p, by first | rfl | go_num, by omega, by omega, by omega, HS3⟩
        · obtain rfl : k = i := by omega
          go_wp2
          go_end0
          exact ⟨rfl, _, HS.out, HF.out⟩

end Go.Proofs.Ytnknpgfconfgjaa
