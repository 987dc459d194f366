/-
  Lemmas, joined: StabR, StabS, StabT.
-/
import Derived.Test.YtnknpgfconfgjaaJT03
import Derived.Outline
/-
  slices.SortStableFunc: swapRange, rotate.
-/
namespace Go.Proofs.Ytnknpgfconfgjaa
open Go.RowKit Stab

set_option maxRecDepth 100000 in
set_option maxHeartbeats 1600000 in
theorem swr_any (V : Int → Prop) (w0 : World) (g n cap : Nat) (cv : Value) (a b k : Nat) (f : Nat → Int) (w : World) (hab : a + k ≤ b) (hbn : b + k ≤ n) (hn : n ≤ 1000000) (S : SWd V w0 g n f w) :
    Calls Try.prog 88 #[.slice (some ⟨g, 0, none⟩) n cap, .int .i64 a, .int .i64 b, .int .i64 k, cv] w (SOk V w0 g n (fun f' => f' = swr f a b k)) := by
  have HS := Lib.hid S
  clear S
  go_enter Try.func88, Try.ntmps88
  go_wp2
  go_loopw [10] (fun vi wr => ∃ (i : Nat), vi = .int .i64 i ∧ i ≤ k ∧ Hid (SWd V w0 g n (swr f a b i) wr)) (fun vi _ => k - (intOf vi).toNat)
  case atStart => exact ⟨0, rfl, by omega, by rw [swr_zero]; exact HS.out⟩
  case round =>
    clear HS
    obtain ⟨i, rfl, hik, HS⟩ := hrel
    by_cases hlt : i < k
    · have l1 := HS.out.cell (a + i) (by omega)
      have l2 := HS.out.cell (b + i) (by omega)
      have f1 := HS.out.free (a + i) (by omega)
      have f2 := HS.out.free (b + i) (by omega)
      obtain ⟨x, hx⟩ : ∃ x, x = swr f a b i (a + i) := ⟨_, rfl⟩
      obtain ⟨y, hy⟩ : ∃ y, y = swr f a b i (b + i) := ⟨_, rfl⟩
      have l3 := HS.out.c2 (a + i) (b + i) (by omega) (by omega) (by omega) (.int .i64 y)
      have HS2 := Lib.hid (HS.out.swapped (a + i) (b + i) (by omega) (by omega))
      rw [swr_succ f a b i (by omega)] at HS2
      rw [← hx] at l1 HS2
      rw [← hy] at l2 l3 HS2
      obtain ⟨p, hp⟩ : ∃ p, p = a + i := ⟨_, rfl⟩
      obtain ⟨q, hq⟩ : ∃ q, q = b + i := ⟨_, rfl⟩
      rw [← hp] at l1 f1 l3 HS2
      rw [← hq] at l2 f2 l3 HS2
      have q1 : ((a : Int) + (i : Int)).toNat = p := by omega
      have q2 : ((b : Int) + (i : Int)).toNat = q := by omega
      have q3 : (0 : Int) ≤ (a : Int) + (i : Int) := by omega
      have q4 : (0 : Int) ≤ (b : Int) + (i : Int) := by omega
      have q5 : (a : Int) + (i : Int) < (n : Int) := by omega
      have q6 : (b : Int) + (i : Int) < (n : Int) := by omega
      have q7 : IntKind.i64.wrap ((a : Int) + (i : Int)) = (a : Int) + (i : Int) := by rw [IntKind.wrap_i64]; omega
      have q8 : IntKind.i64.wrap ((b : Int) + (i : Int)) = (b : Int) + (i : Int) := by rw [IntKind.wrap_i64]; omega
      clear hx hy hp hq HS
      go_wp2_with fail
      go_big_region
      have HS3 : Hid (SWd V w0 g n (swr f a b (i + 1)) ((wr.setCell ⟨g, p, none⟩ (.int .i64 y)).setCell ⟨g, q, none⟩ (.int .i64 x)).drew) := HS2.out.drewN 1
      clear l1 l2 l3 f1 f2 HS2 q1 q2 q3 q4 q5 q6 q7 q8
      go_wp2
      go_roundw
      case rel => exact ⟨i + 1, by go_num, by omega, HS3⟩
      case measure => simp [intOf]; omega
    · obtain rfl : i = k := by omega
      go_wp2
      go_end0
      exact ⟨rfl, _, HS.out, rfl⟩

set_option maxRecDepth 100000 in
set_option maxHeartbeats 1600000 in
theorem rot_any (V : Int → Prop) (w0 : World) (g n cap : Nat) (cv : Value) (a m b : Nat) (f : Nat → Int) (w : World) (ham : a < m) (hmb : m < b) (hbn : b ≤ n) (hn : n ≤ 1000000) (S : SWd V w0 g n f w) :
    Calls Try.prog 86 #[.slice (some ⟨g, 0, none⟩) n cap, .int .i64 a, .int .i64 m, .int .i64 b, cv] w (SOk V w0 g n (fun f' => f' = rot f a m b)) := by
  have HS := Lib.hid S
  clear S
  go_enter Try.func86, Try.ntmps86
  go_wp2
  go_loopg [10, 11] (b - a) (fun gk vi vj wr => ∃ (i j : Nat) (fk : Nat → Int), vi = .int .i64 i ∧ vj = .int .i64 j ∧ 0 < i ∧ 0 < j ∧ i ≤ m ∧ m + j ≤ n ∧ i + j ≤ gk ∧ Hid (SWd V w0 g n fk wr) ∧ Hid (rot fk (m - i) m (m + j) = rot f a m b))
  case atStart => exact ⟨m - a, b - m, f, by congr 1; omega, by congr 1; omega, by omega, by omega, by omega, by omega, by omega, HS, by show _ = _; rw [show m - (m - a) = a by omega, show m + (b - m) = b by omega]⟩
  case round =>
    clear HS
    obtain ⟨i, j, fk, rfl, rfl, hi, hj, him, hjn, hgk, HS, HR⟩ := hrel
    rcases Nat.lt_trichotomy i j with h | h | h
    · have hne : ¬ (i : Int) = (j : Int) := by omega
      have hng : ¬ (j : Int) < (i : Int) := by omega
      have hlt : (i : Int) < (j : Int) := by omega
      have q1 : (i : Int) ≤ (m : Int) := by omega
      have q2 : (m : Int) + (j : Int) ≤ 1000000 := by omega
      have HK := Lib.hid (swr_any V w0 g n cap cv (m - i) (m + j - i) i fk wr (by omega) (by omega) hn HS.out)
      rw [show ((m - i : Nat) : Int) = (m : Int) - (i : Int) by omega, show ((m + j - i : Nat) : Int) = (m : Int) + (j : Int) - (i : Int) by omega] at HK
      clear HS
      go_wp2_with fail
      refine HK.out.mono ?_
      rintro e w1 ⟨rfl, f1, S1, rfl⟩
      have HS := Lib.hid S1
      clear S1 HK
      go_wp2_with fail
      go_roundg (i + j - 1)
      case measure => omega
      case rel => exact ⟨i, j - i, _, rfl, by congr 1; omega, by omega, by omega, by omega, by omega, by omega, HS, by show _ = _; rw [← HR.out]; exact rot_lt fk m i j him h⟩
    · subst h
      have q1 : (i : Int) ≤ (m : Int) := by omega
      have HK := Lib.hid (swr_any V w0 g n cap cv (m - i) m i fk wr (by omega) (by omega) hn HS.out)
      rw [show ((m - i : Nat) : Int) = (m : Int) - (i : Int) by omega] at HK
      clear HS
      go_wp2_with fail
      refine HK.out.mono ?_
      rintro e w1 ⟨rfl, f1, S1, rfl⟩
      have HS := Lib.hid S1
      clear S1 HK
      go_wp2_with fail
      go_end0
      exact ⟨rfl, _, HS.out, by rw [← HR.out]; exact rot_eq fk m i him⟩
    · have hne : ¬ (i : Int) = (j : Int) := by omega
      have hgt : (j : Int) < (i : Int) := by omega
      have q1 : (i : Int) ≤ (m : Int) := by omega
      have HK := Lib.hid (swr_any V w0 g n cap cv (m - i) m j fk wr (by omega) (by omega) hn HS.out)
      rw [show ((m - i : Nat) : Int) = (m : Int) - (i : Int) by omega] at HK
      clear HS
      go_wp2_with fail
      refine HK.out.mono ?_
      rintro e w1 ⟨rfl, f1, S1, rfl⟩
      have HS := Lib.hid S1
      clear S1 HK
      go_wp2_with fail
      go_roundg (i + j - 1)
      case measure => omega
      case rel => exact ⟨i - j, j, _, by congr 1; omega, rfl, by omega, by omega, by omega, by omega, by omega, HS, by show _ = _; rw [← HR.out]; exact rot_gt fk m i j him h⟩

end Go.Proofs.Ytnknpgfconfgjaa

/-
  slices.SortStableFunc: symMerge, one element ahead.
-/
namespace Go.Proofs.Ytnknpgfconfgjaa
open Go.RowKit Stab

set_option maxRecDepth 100000 in
set_option maxHeartbeats 1600000 in
theorem smg_one (V : Int → Prop) (L : Int → Int → Bool) (hO : Ord L) (w0 : World) (g n cap c : Nat) (cb : Array Value) (cf : Int → Int → Int) (hC : CmpOk V w0 g c cb cf) (hlt : ∀ x y, x < y → (cf y x < 0 ↔ L y x = true))
    (a b : Nat) (f : Nat → Int) (w : World) (hbn : b ≤ n) (hn : n ≤ 1000000) (hM : Mrg L f a (a + 1) b) (S : SWd V w0 g n f w) :
    Calls Try.prog 77 #[.slice (some ⟨g, 0, none⟩) n cap, .int .i64 a, .int .i64 (a + 1 : Nat), .int .i64 b, .func (.func c) #[] cb] w (SOk V w0 g n (fun f' => MrgOk L f f' a b)) := by
  have HC := Lib.hid hC
  have HL := Lib.hid hlt
  have HM := Lib.hid hM
  have HS := Lib.hid S
  have hcall := hC.call
  have hmb := hM.mb
  have t1 : ((a : Int) + 1 - (a : Int) == 1) = true := by simp; omega
  have q0 : (a : Int) + 1 ≤ 1000000 := by omega
  clear hC hlt S hM
  go_enter Try.func77, Try.ntmps77
  go_wp2
  clear t1
  go_loopg [10, 11, 12] (b - a) (fun gk vi vj vh wr => ∃ (i j : Nat), vi = .int .i64 i ∧ vj = .int .i64 j ∧ a + 1 ≤ i ∧ i ≤ j ∧ j ≤ b ∧ j - i ≤ gk ∧ Hid (SWd V w0 g n f wr) ∧ Hid ((∀ k, a + 1 ≤ k → k < i → L (f k) (f a) = true) ∧ (∀ k, j ≤ k → k < b → L (f k) (f a) = false)))
  case atStart => exact ⟨a + 1, b, by go_num, rfl, by omega, by omega, by omega, by omega, HS, ⟨fun k h1 h2 => by omega, fun k h1 h2 => by omega⟩⟩
  case round =>
    clear HS
    obtain ⟨i, j, rfl, rfl, hi, hij, hjb, hgk, HS, HI⟩ := hrel
    by_cases hlt : i < j
    · have q1 : (i : Int) + (j : Int) ≤ 2000000 := by omega
      go_wp2
      obtain ⟨h, hh⟩ : ∃ h : Nat, h = (i + j) / 2 := ⟨_, rfl⟩
      have hi1 : i ≤ h := by omega
      have hj1 : h < j := by omega
      rw [show ((i : Int) + (j : Int)) / 2 = (h : Int) by omega]
      clear hh
      have l1 := HS.out.cell h (by omega)
      have l2 := HS.out.cell a (by omega)
      have hcc := Lib.hid (fun W hW => HC.out.con W hW (f h) (f a) (HS.out.val h (by omega)) (HS.out.val a (by omega)))
      have HX : Hid (L (f h) (f a) = true ↔ cf (f h) (f a) < 0) := (HL.out _ _ (HM.out.ap a h (Nat.le_refl _) (by omega) (by omega) (by omega))).symm
      have HW : Hid (∀ W, Below wr.heap.size wr W → w0.grownBy W (some g)) := fun W hW => grown_below HS.out.gr hW
      have q2 : (h : Int) < (n : Int) := by omega
      have q3 : (a : Int) < (n : Int) := by omega
      have q4 : (0 : Int) ≤ (h : Int) := by omega
      have q5 : (0 : Int) ≤ (a : Int) := by omega
      obtain ⟨x, hx⟩ : ∃ x, x = f h := ⟨_, rfl⟩
      obtain ⟨y, hy⟩ : ∃ y, y = f a := ⟨_, rfl⟩
      rw [← hx, ← hy] at hcc HX
      rw [← hx] at l1
      rw [← hy] at l2
      have Hx := Lib.hid hx
      have Hy := Lib.hid hy
      clear hx hy
      go_region_held3 (fun Wk => Below (wr.heap.size) (wr) Wk ∧ Wk.cell? ⟨g, h, none⟩ = some (.int .i64 x) ∧ Wk.cell? ⟨g, a, none⟩ = some (.int .i64 y))
        (first | exact ⟨below_drewN (Below.refl _ _) 1, l1, l2⟩ | exact held_2_0 hb1 (by assumption) | go_keep)
        (((with_reducible refine (hcc.out _ (HW.out _ (And.left (by assumption)))).mono ?_); rintro e w1 ⟨rfl, hb1⟩))
      rename_i hS1
      have HS1 : Hid (SWd V w0 g n f w1) := HS.out.below hS1.1
      clear hS1 l1 l2 HS HW hcc hb1 q0 q1 q4 q5
      by_cases hv : cf x y < 0
      · go_wp2
        go_roundg (j - (h + 1))
        case measure => omega
        case rel =>
          refine ⟨h + 1, j, by go_num, rfl, by omega, by omega, by omega, by omega, HS1, ⟨fun k h1 h2 => ?_, HI.out.2⟩⟩
          have hq : L (f h) (f a) = true := by rw [← Hx.out, ← Hy.out]; exact HX.out.2 hv
          by_cases e : k = h
          · rw [e]; exact hq
          · exact hO.tr _ _ _ (HM.out.s2 k h h1 (by omega) (by omega)) hq
      · go_wp2
        go_roundg (h - i)
        case measure => omega
        case rel =>
          refine ⟨i, h, rfl, rfl, by omega, by omega, by omega, by omega, HS1, ⟨HI.out.1, fun k h1 h2 => ?_⟩⟩
          have hq : L (f h) (f a) = false := by
            rw [← Hx.out, ← Hy.out]
            cases hq : L x y
            · rfl
            · have := HX.out.1 hq; exfalso; omega
          cases hz : L (f k) (f a)
          · rfl
          · by_cases e : k = h
            · rw [e, hq] at hz; cases hz
            · have := hO.tr _ _ _ (HM.out.s2 h k (by omega) (by omega) (by omega)) hz; rw [hq] at this; cases this
    · obtain rfl : i = j := by omega
      have HF : Hid (MrgOk L f (mvR f a (i - 1)) a b) := HM.out.one hO hi hjb HI.out.1 HI.out.2
      have q1 : (i : Int) ≤ 1000000 := by omega
      have q2 : 1 ≤ (i : Int) := by omega
      go_wp2
      go_loopg [13] (b - a) (fun gk vk wr => ∃ (k : Nat), vk = .int .i64 k ∧ a ≤ k ∧ k ≤ i - 1 ∧ i - 1 - k ≤ gk ∧ Hid (SWd V w0 g n (mvR f a k) wr))
      case atStart => exact ⟨a, rfl, by omega, by omega, by omega, by rw [mvR_zero]; exact HS.out⟩
      case round =>
        clear HS HI
        obtain ⟨k, rfl, hk, hki, hgk, HS⟩ := hrel
        by_cases hlt : k < i - 1
        · have hz : (k : Int) < (i : Int) - 1 := by omega
          have l1 := HS.out.cell k (by omega)
          have l2 := HS.out.cell (k + 1) (by omega)
          have f1 := HS.out.free k (by omega)
          have f2 := HS.out.free (k + 1) (by omega)
          obtain ⟨x, hx⟩ : ∃ x, x = mvR f a k k := ⟨_, rfl⟩
          obtain ⟨y, hy⟩ : ∃ y, y = mvR f a k (k + 1) := ⟨_, rfl⟩
          have l3 := HS.out.c2 k (k + 1) (by omega) (by omega) (by omega) (.int .i64 y)
          have HS2 := Lib.hid (HS.out.swapped k (k + 1) (by omega) (by omega))
          rw [mvR_succ f a k hk] at HS2
          rw [← hx] at l1 HS2
          rw [← hy] at l2 l3 HS2
          have q1 : ((k : Int) + 1).toNat = k + 1 := by omega
          have q3 : (0 : Int) ≤ (k : Int) + 1 := by omega
          have q5 : (k : Int) < (n : Int) := by omega
          have q6 : (k : Int) + 1 < (n : Int) := by omega
          have q7 : IntKind.i64.wrap ((k : Int) + 1) = (k : Int) + 1 := by rw [IntKind.wrap_i64]; omega
          clear hx hy HS
          go_wp2_with fail
          go_big_region
          have HS3 : Hid (SWd V w0 g n (mvR f a (k + 1)) ((wr.setCell ⟨g, k, none⟩ (.int .i64 y)).setCell ⟨g, k + 1, none⟩ (.int .i64 x)).drew) := HS2.out.drewN 1
          clear l1 l2 l3 f1 f2 HS2 q1 q3 q5 q6 q7
          go_wp2
          go_roundg (i - 1 - (k + 1))
          case measure => omega
          case rel => exact ⟨k + 1, by go_num, by omega, by omega, by omega, HS3⟩
        · obtain rfl : k = i - 1 := by omega
          have hz : ¬ ((i - 1 : Nat) : Int) < (i : Int) - 1 := by omega
          go_wp2
          go_end0
          exact ⟨rfl, _, HS.out, HF.out⟩

end Go.Proofs.Ytnknpgfconfgjaa

/-
  slices.SortStableFunc: symMerge, one element behind; a search for the cut.
-/
namespace Go.Proofs.Ytnknpgfconfgjaa
open Go.RowKit Stab

set_option maxRecDepth 100000 in
set_option maxHeartbeats 1600000 in
theorem smg_oneR (V : Int → Prop) (L : Int → Int → Bool) (hO : Ord L) (w0 : World) (g n cap c : Nat) (cb : Array Value) (cf : Int → Int → Int) (hC : CmpOk V w0 g c cb cf) (hlt : ∀ x y, x < y → (cf y x < 0 ↔ L y x = true))
    (a m : Nat) (f : Nat → Int) (w : World) (hbn : m + 1 ≤ n) (hn : n ≤ 1000000) (ham : a + 1 < m) (hM : Mrg L f a m (m + 1)) (S : SWd V w0 g n f w) :
    Calls Try.prog 77 #[.slice (some ⟨g, 0, none⟩) n cap, .int .i64 a, .int .i64 m, .int .i64 (m + 1 : Nat), .func (.func c) #[] cb] w (SOk V w0 g n (fun f' => MrgOk L f f' a (m + 1))) := by
  have HC := Lib.hid hC
  have HL := Lib.hid hlt
  have HM := Lib.hid hM
  have HS := Lib.hid S
  have hcall := hC.call
  have t0 : ((m : Int) - (a : Int) == 1) = false := by simp; omega
  have t1 : ((m : Int) + 1 - (m : Int) == 1) = true := by simp; omega
  clear hC hlt S hM
  go_enter Try.func77, Try.ntmps77
  go_wp2
  clear t0 t1
  go_loopg [14, 15, 16] (m + 1 - a) (fun gk vi vj vh wr => ∃ (i j : Nat), vi = .int .i64 i ∧ vj = .int .i64 j ∧ a ≤ i ∧ i ≤ j ∧ j ≤ m ∧ j - i ≤ gk ∧ Hid (SWd V w0 g n f wr) ∧ Hid ((∀ k, a ≤ k → k < i → L (f m) (f k) = false) ∧ (∀ k, j ≤ k → k < m → L (f m) (f k) = true)))
  case atStart => exact ⟨a, m, rfl, rfl, by omega, by omega, by omega, by omega, HS, ⟨fun k h1 h2 => by omega, fun k h1 h2 => by omega⟩⟩
  case round =>
    clear HS
    obtain ⟨i, j, rfl, rfl, hi, hij, hjb, hgk, HS, HI⟩ := hrel
    by_cases hlt : i < j
    · have q1 : (i : Int) + (j : Int) ≤ 2000000 := by omega
      go_wp2
      obtain ⟨h, hh⟩ : ∃ h : Nat, h = (i + j) / 2 := ⟨_, rfl⟩
      have hi1 : i ≤ h := by omega
      have hj1 : h < j := by omega
      rw [show ((i : Int) + (j : Int)) / 2 = (h : Int) by omega]
      clear hh
      have l1 := HS.out.cell m (by omega)
      have l2 := HS.out.cell h (by omega)
      have hcc := Lib.hid (fun W hW => HC.out.con W hW (f m) (f h) (HS.out.val m (by omega)) (HS.out.val h (by omega)))
      have HX : Hid (L (f m) (f h) = true ↔ cf (f m) (f h) < 0) := (HL.out _ _ (HM.out.ap h m (by omega) (by omega) (by omega) (by omega))).symm
      have HW : Hid (∀ W, Below wr.heap.size wr W → w0.grownBy W (some g)) := fun W hW => grown_below HS.out.gr hW
      have q2 : (h : Int) < (n : Int) := by omega
      have q3 : (m : Int) < (n : Int) := by omega
      have q4 : (0 : Int) ≤ (h : Int) := by omega
      have q5 : (0 : Int) ≤ (m : Int) := by omega
      obtain ⟨x, hx⟩ : ∃ x, x = f m := ⟨_, rfl⟩
      obtain ⟨y, hy⟩ : ∃ y, y = f h := ⟨_, rfl⟩
      rw [← hx, ← hy] at hcc HX
      rw [← hx] at l1
      rw [← hy] at l2
      have Hx := Lib.hid hx
      have Hy := Lib.hid hy
      clear hx hy
      go_region_held3 (fun Wk => Below (wr.heap.size) (wr) Wk ∧ Wk.cell? ⟨g, m, none⟩ = some (.int .i64 x) ∧ Wk.cell? ⟨g, h, none⟩ = some (.int .i64 y))
        (first | exact ⟨below_drewN (Below.refl _ _) 1, l1, l2⟩ | exact held_2_0 hb1 (by assumption) | go_keep)
        (((with_reducible refine (hcc.out _ (HW.out _ (And.left (by assumption)))).mono ?_); rintro e w1 ⟨rfl, hb1⟩))
      rename_i hS1
      have HS1 : Hid (SWd V w0 g n f w1) := HS.out.below hS1.1
      clear hS1 l1 l2 HS HW hcc hb1 q1 q4 q5
      by_cases hv : cf x y < 0
      · rw [show (!decide (cf x y < 0)) = false by simp; omega]
        go_wp2
        go_roundg (h - i)
        case measure => omega
        case rel =>
          refine ⟨i, h, rfl, rfl, by omega, by omega, by omega, by omega, HS1, ⟨HI.out.1, fun k h1 h2 => ?_⟩⟩
          have hq : L (f m) (f h) = true := by rw [← Hx.out, ← Hy.out]; exact HX.out.2 hv
          by_cases e : k = h
          · rw [e]; exact hq
          · exact hO.tr _ _ _ hq (HM.out.s1 h k (by omega) (by omega) (by omega))
      · rw [show (!decide (cf x y < 0)) = true by simp; omega]
        go_wp2
        go_roundg (j - (h + 1))
        case measure => omega
        case rel =>
          refine ⟨h + 1, j, by go_num, rfl, by omega, by omega, by omega, by omega, HS1, ⟨fun k h1 h2 => ?_, HI.out.2⟩⟩
          have hq : L (f m) (f h) = false := by
            rw [← Hx.out, ← Hy.out]
            cases hq : L x y
            · rfl
            · have := HX.out.1 hq; exfalso; omega
          cases hz : L (f m) (f k)
          · rfl
          · by_cases e : k = h
            · rw [e, hq] at hz; cases hz
            · have := hO.tr _ _ _ hz (HM.out.s1 k h (by omega) (by omega) (by omega)); rw [hq] at this; cases this
    · obtain rfl : i = j := by omega
      have HF : Hid (MrgOk L f (mvL f m i) a (m + 1)) := HM.out.oneR hO hi hjb HI.out.1 HI.out.2
      have q1 : (i : Int) ≤ 1000000 := by omega
      go_wp2
      clear q1
      go_loopg [17] (m + 1) (fun gk vk wr => ∃ (k : Nat), vk = .int .i64 k ∧ i ≤ k ∧ k ≤ m ∧ k ≤ gk ∧ Hid (SWd V w0 g n (mvL f m k) wr))
      case atStart => exact ⟨m, rfl, by omega, by omega, by omega, by rw [mvL_zero]; exact HS.out⟩
      case round =>
        clear HS HI
        obtain ⟨k, rfl, hk, hki, hgk, HS⟩ := hrel
        by_cases hlt : i < k
        · obtain ⟨p, rfl⟩ : ∃ p, k = p + 1 := ⟨k - 1, by omega⟩
          have hz : (i : Int) < (p : Int) + 1 := by omega
          have l1 := HS.out.cell (p + 1) (by omega)
          have l2 := HS.out.cell p (by omega)
          have f1 := HS.out.free (p + 1) (by omega)
          have f2 := HS.out.free p (by omega)
          obtain ⟨x, hx⟩ : ∃ x, x = mvL f m (p + 1) (p + 1) := ⟨_, rfl⟩
          obtain ⟨y, hy⟩ : ∃ y, y = mvL f m (p + 1) p := ⟨_, rfl⟩
          have l3 := HS.out.c2 (p + 1) p (by omega) (by omega) (by omega) (.int .i64 y)
          have HS2 := Lib.hid (HS.out.swapped (p + 1) p (by omega) (by omega))
          have hsc := mvL_succ f m (p + 1) (by omega) (by omega)
          simp only [Nat.add_sub_cancel] at hsc
          rw [hsc] at HS2
          rw [← hx] at l1 HS2
          rw [← hy] at l2 l3 HS2
          have q1 : ((p : Int) + 1).toNat = p + 1 := by omega
          have q3 : (0 : Int) ≤ (p : Int) + 1 := by omega
          have q4 : (0 : Int) ≤ (p : Int) := by omega
          have q5 : (p : Int) < (n : Int) := by omega
          have q6 : (p : Int) + 1 < (n : Int) := by omega
          have q7 : IntKind.i64.wrap (p : Int) = (p : Int) := by rw [IntKind.wrap_i64]; omega
          clear hx hy HS hsc
          go_wp2_with fail
          go_big_region
          have HS3 : Hid (SWd V w0 g n (mvL f m p) ((wr.setCell ⟨g, p + 1, none⟩ (.int .i64 y)).setCell ⟨g, p, none⟩ (.int .i64 x)).drew) := HS2.out.drewN 1
          clear l1 l2 l3 f1 f2 HS2 q1 q3 q4 q5 q6 q7
          go_wp2
          go_roundg p
          case measure => omega
          case rel => exact ⟨p, by first | rfl | go_num, by omega, by omega, by omega, HS3⟩
        · obtain rfl : k = i := by omega
          go_wp2
          go_end0
          exact ⟨rfl, _, HS.out, HF.out⟩

end Go.Proofs.Ytnknpgfconfgjaa
