/-
  The walk of quillonlaw01.NumBack: a number's text is parsed as it, and so are its bytes; what is parsed has one text.
-/
import Derived.Test.YtfalhemeiengcaaDoorParseA
import Derived.Test.YtfalhemeiengcaaDoorBytes
import Derived.Test.YtfalhemeiengcaaDoorKnown01
import Derived.Test.YtfalhemeiengcaaDoorHeld
namespace Go.Proofs.YtfalhemeiengcaaDoor
open Go.RowKit Go.Maps Go.Lib

theorem neq_same (x y : Int) (W : World) : (Go.binOp .neq 24 (.agg #[.int .u64 x, .int .u64 y]) (.agg #[.int .u64 x, .int .u64 y])).run Tryd.prog W = .ok (.bool false) W := by
  simp [go_sem]

theorem row16 {n base : Nat} {v : Value} {W : World} (h : W.ownsRow base 5 1 v 16 (byL n 16)) : ∃ g cap, v = .slice (some ⟨g, 0, none⟩) 16 cap ∧ ∀ j, j < 16 → W.cell? ⟨g, j, none⟩ = some (.int .u8 (byV n j : Int)) := by
  rcases h.2 with ⟨-, q⟩ | ⟨g, cap, cur, rfl, -⟩
  · exact absurd q (by decide)
  · refine ⟨g, cap, rfl, fun j hj => ?_⟩
    have := h.cellAt j (by omega)
    rw [this, byL_at n 16 j hj]

set_option maxRecDepth 100000 in
set_option maxHeartbeats 8000000 in
theorem back_long (n : Nat) (s : ByteArray) (w : World) (hs : ¬ s.size ≤ 60) : Calls Tryd.prog 3 #[numV n, .string s] w fun e w' => e = .returned (.bool true) ∧ Below w.heap.size w w' := by
  have HK := Lib.hid known01
  obtain ⟨y, z, e, -, -⟩ := numV_parts n
  rw [e]
  clear e
  have h60 : (60 : Int) < (s.size : Int) := by omega
  go_enter Tryd.func3, Tryd.ntmps3
  go_wp2_with (first
    | (go_at_call 6; (with_reducible refine (HK.out _).mono ?_); rintro e w1 ⟨rfl, hb1⟩))
  exact bodyPost_ret (v := .bool true) (by simp [results, Tryd.results3, go_sem]) rfl ⟨rfl, ((Below.refl _ _).alloc (Nat.le_refl _) _).trans (hb1.mono (by simp))⟩

set_option maxRecDepth 100000 in
set_option maxHeartbeats 8000000 in
theorem back_short (n : Nat) (hn : n < B * B) (s : ByteArray) (w : World) (hs : s.size ≤ 60) (hT : Tabs w) : Calls Tryd.prog 3 #[numV n, .string s] w fun e w' => e = .returned (.bool true) ∧ Below w.heap.size w w' := by
  have HK := Lib.hid known01
  obtain ⟨K, hKL⟩ := len_any n hn
  have hX : ∀ W, Calls Tryd.prog 8 #[numV n] W fun e w' => e = .returned (.string ⟨(dN n K).toArray⟩) ∧ Below W.heap.size W w' := fun W => text_any n K hn hKL W
  have hP : ∀ W, Calls Tryd.prog 7 #[.string ⟨(dN n K).toArray⟩] W fun e w' => e = .returned (.tuple #[numV n, .int .i64 0]) ∧ Below W.heap.size W w' := fun W => parse_text n K hn hKL W
  generalize (⟨(dN n K).toArray⟩ : ByteArray) = T at hX hP
  have hY : ∀ W, Calls Tryd.prog 10 #[numV n, .int .i64 16] W fun e w' => ∃ v, e = .returned v ∧ w'.ownsRow W.heap.size 5 1 v 16 (byL n 16) ∧ Below W.heap.size W w' := fun W => bytes_any n hn W
  have hF : ∀ g cap W, (∀ j, j < 16 → W.cell? ⟨g, j, none⟩ = some (.int .u8 (byV n j : Int))) → Calls Tryd.prog 9 #[.slice (some ⟨g, 0, none⟩) 16 cap] W (RetNum W n) := fun g cap W h => from_any n hn g cap W h
  have hPS : ∀ W, Below w.heap.size w W → ∃ (y : Nat) (f : Int), ParseLaw s y f ∧ Calls Tryd.prog 7 #[.string s] W fun e w' => e = .returned (.tuple #[numV y, .int .i64 f]) ∧ Below W.heap.size W w' := fun W hW => parse_any s W hs (hT.below hW)
  obtain ⟨y, z, e, -, -⟩ := numV_parts n
  unfold RetNum at hF
  rw [e] at hX hP hY hF
  rw [e]
  have HX := Lib.hid hX
  have HP := Lib.hid hP
  have HY := Lib.hid hY
  have HF := Lib.hid hF
  have HPS := Lib.hid hPS
  clear e hX hP hY hF hPS hT hn hKL
  have h60 : ¬ (60 : Int) < (s.size : Int) := by omega
  have hne := neq_same (y : Int) (z : Int)
  go_enter Tryd.func3, Tryd.ntmps3
  go_wp2_with (first
    | (go_at_call 8; (with_reducible refine (HX.out _).mono ?_); rintro e w1 ⟨rfl, hb1⟩)
    | (go_at_call 7; (with_reducible refine (HP.out _).mono ?_); rintro e w2 ⟨rfl, hb2⟩))
  have l1 : w.heap.size < w1.heap.size := by have := hb1.size; simp at this; omega
  have y1 := (hb1.block w.heap.size (by simp)).trans (heap_new w _)
  have y2 := (hb2.block w.heap.size l1).trans y1
  have l2 : w.heap.size < w2.heap.size := lt_of_block y2
  have y3 := (Below.heap_alloc w2 (.cells #[.int .u64 (y : Int), .int .u64 (z : Int)] 24) _ l2).trans y2
  have y4 := heap_new w2 (.cells #[.int .u64 (y : Int), .int .u64 (z : Int)] 24)
  have b2 : Below w.heap.size w w2 := ((Below.refl _ _).alloc (Nat.le_refl _) (.cells #[.int .u64 (y : Int), .int .u64 (z : Int)] 24)).trans ((hb1.mono (by simp)).trans (hb2.mono (by omega)))
  have b3 : Below w.heap.size w (w2.alloc (.cells #[.int .u64 (y : Int), .int .u64 (z : Int)] 24)) := b2.alloc b2.size _
  have hx : Hid ((fun Wk => Below (w.heap.size) (w) Wk ∧ Wk.cell? ⟨w.heap.size, 0, none⟩ = some (.int .u64 (y : Int)) ∧ Wk.cell? ⟨w.heap.size, 1, none⟩ = some (.int .u64 (z : Int)) ∧ Wk.cell? ⟨w2.heap.size, 0, none⟩ = some (.int .u64 (y : Int)) ∧ Wk.cell? ⟨w2.heap.size, 1, none⟩ = some (.int .u64 (z : Int))) (w2.alloc (.cells #[.int .u64 (y : Int), .int .u64 (z : Int)] 24)).drew) := ⟨below_drewN b3 1, by
      show (w2.alloc _).cell? _ = _
      simp [World.cell?, y3], by
      show (w2.alloc _).cell? _ = _
      simp [World.cell?, y3], by
      show (w2.alloc _).cell? _ = _
      simp only [World.cell?, y4]; rfl, by
      show (w2.alloc _).cell? _ = _
      simp only [World.cell?, y4]; rfl⟩
  clear y1 y2 y3 y4 b2 b3 hb1 hb2 l1 HX HP
  go_region_held3 (fun Wk => Below (w.heap.size) (w) Wk ∧ Wk.cell? ⟨w.heap.size, 0, none⟩ = some (.int .u64 (y : Int)) ∧ Wk.cell? ⟨w.heap.size, 1, none⟩ = some (.int .u64 (z : Int)) ∧ Wk.cell? ⟨w2.heap.size, 0, none⟩ = some (.int .u64 (y : Int)) ∧ Wk.cell? ⟨w2.heap.size, 1, none⟩ = some (.int .u64 (z : Int)))
    (first | exact hx.out | exact held_4_0 hb1 (by assumption) | assumption)
    (first
    | (go_at_call 10; (with_reducible refine (HY.out _).mono ?_); rintro e w9 ⟨v, rfl, hown, hb1⟩; obtain ⟨g, cap, rfl, hg⟩ := row16 hown; have HG := Lib.hid hg; clear hg hown)
    | (go_at_call 9; (with_reducible refine (HF.out _ _ _ HG.out).mono ?_); rintro e w8 ⟨rfl, hb1⟩))
  rename_i hH
  have HB8 := Lib.hid hH.1
  clear hH hb1 HG HY HF hx
  obtain ⟨yy, f, hlaw, hc⟩ := HPS.out w8 HB8.out
  have HC := Lib.hid hc
  clear hc HPS
  obtain ⟨hyB, hlw⟩ := hlaw
  obtain ⟨ya, za, ey, -, -⟩ := numV_parts yy
  have HE := Lib.hid ey
  rw [ey] at HC
  clear ey
  by_cases hf : f = 0
  · subst hf
    obtain ⟨hpos, hd⟩ := hlw rfl
    obtain ⟨c, hc⟩ : ∃ c : UInt8, s.data.toList.head? = some c := by
      cases hq : s.data.toList with
      | nil => have := size_toList s; rw [hq] at this; simp at this; omega
      | cons a l => exact ⟨a, rfl⟩
    rw [hc] at hd
    have hg0 : s[0]'hpos = c := by
      have : s.data.toList[0]? = some c := by rw [← List.head?_eq_getElem?]; exact hc
      rw [List.getElem?_eq_getElem (by rw [size_toList]; exact hpos)] at this
      simp only [Array.getElem_toList, Option.some.injEq] at this
      exact this
    have hz0 : (0 : Int) < (s.size : Int) := by omega
    by_cases h48 : c = 48
    · have hi : ((c.toNat : Nat) : Int) = 48 := by rw [h48]; rfl
      clear hd hc
      go_wp2_with (first
        | (go_at_call 7; (with_reducible refine HC.out.mono ?_); rintro e w10 ⟨rfl, hb10⟩)
        | (go_at_call 6; (with_reducible refine (HK.out _).mono ?_); rintro e w11 ⟨rfl, hb11⟩))
      exact bodyPost_ret (v := .bool true) (by simp [results, Tryd.results3, go_sem]) rfl ⟨rfl, ((HB8.out.trans (hb10.mono HB8.out.size)).alloc (Nat.le_trans HB8.out.size hb10.size) (.cells #[.int .u64 (ya : Int), .int .u64 (za : Int)] 24)).trans (hb11.mono (by have := HB8.out.size; have := hb10.size; simp; omega))⟩
    · have hi : ¬ ((c.toNat : Nat) : Int) = 48 := fun e => h48 (by
        have : c.toNat = 48 := by omega
        rw [show c = UInt8.ofNat c.toNat by simp, this]; rfl)
      have hd2 : IsLen yy s.size ∧ dN yy s.size = s.data.toList := by
        rcases hd with q | q
        · exact absurd (Option.some.inj q) h48
        · exact q
      have hT2 : ∀ W, Calls Tryd.prog 8 #[numV yy] W fun e w' => e = .returned (.string s) ∧ Below W.heap.size W w' := fun W => by
        have := text_any yy s.size hyB hd2.1 W
        rw [hd2.2] at this
        exact this
      rw [HE.out] at hT2
      have HT2 := Lib.hid hT2
      clear hd hd2 hT2 hc
      go_wp2_with (first
        | (go_at_call 7; (with_reducible refine HC.out.mono ?_); rintro e w10 ⟨rfl, hb10⟩)
        | (go_at_call 8; (with_reducible refine (HT2.out _).mono ?_); rintro e w11 ⟨rfl, hb11⟩)
        | (go_at_call 6; (with_reducible refine (HK.out _).mono ?_); rintro e w12 ⟨rfl, hb12⟩))
      have b10 : Below w.heap.size w (w10.alloc (.cells #[.int .u64 (ya : Int), .int .u64 (za : Int)] 24)) := (HB8.out.trans (hb10.mono HB8.out.size)).alloc (Nat.le_trans HB8.out.size hb10.size) _
      have b11 := b10.trans (hb11.mono b10.size)
      exact bodyPost_ret (v := .bool true) (by simp [results, Tryd.results3, go_sem]) rfl ⟨rfl, b11.trans (hb12.mono b11.size)⟩
  · clear hlw
    have hf2 : ¬ (f = 0) := hf
    go_wp2_with (first
      | (go_at_call 7; (with_reducible refine HC.out.mono ?_); rintro e w10 ⟨rfl, hb10⟩)
      | (go_at_call 6; (with_reducible refine (HK.out _).mono ?_); rintro e w11 ⟨rfl, hb11⟩))
    exact bodyPost_ret (v := .bool true) (by simp [results, Tryd.results3, go_sem]) rfl ⟨rfl, ((HB8.out.trans (hb10.mono HB8.out.size)).alloc (Nat.le_trans HB8.out.size hb10.size) (.cells #[.int .u64 (ya : Int), .int .u64 (za : Int)] 24)).trans (hb11.mono (by have := HB8.out.size; have := hb10.size; simp; omega))⟩

theorem back_any (n : Nat) (hn : n < B * B) (s : ByteArray) (w : World) (hT : Tabs w) : Calls Tryd.prog 3 #[numV n, .string s] w fun e w' => e = .returned (.bool true) ∧ Below w.heap.size w w' := by
  by_cases hs : s.size ≤ 60
  · exact back_short n hn s w hs hT
  · exact back_long n s w hs

end Go.Proofs.YtfalhemeiengcaaDoor
