/-
  Lemmas, joined: VecP3, RefP.
-/
import Derived.Test.YtlnkflmnjkmhkaaJR20
import Derived.Test.YtlnkflmnjkmhkaaJR19
/-
  Contract of symbv.Const: in memory of its own.
-/
namespace Go.Proofs.Ytlnkflmnjkmhkaa
open Go.RowKit Go.Maps

set_option maxRecDepth 100000 in
set_option maxHeartbeats 400000 in
theorem const_new (n : Nat) (k : Int) (w : World) (hn : n < B * B) :
    Calls Try.prog 19 #[numV n, .int .i64 k] w (RetVecN w (constBits n (max 0 (min k 256)).toNat)) := by
  obtain ⟨i0, hi, hz0, hz1, hz2⟩ := info_parts Try.infoInt
  obtain ⟨M, hM⟩ : ∃ M, M = (max 0 (min k 256)).toNat := ⟨_, rfl⟩
  have hM1 : M ≤ 256 := by omega
  have HW : Hid (∀ W, Calls Try.prog 79 #[.int .i64 k] W fun e w' => e = .returned (.int .i64 (M : Int)) ∧ W = w') := by
    show ∀ _, _
    rw [hM]; exact width_any k
  rw [← hM]
  clear hM
  obtain ⟨y, z, he, -, -⟩ := numV_parts n
  have HN : Hid (∀ (i : Nat) W, Calls Try.prog 80 #[.agg #[.int .u64 (y : Int), .int .u64 (z : Int)], .int .i64 (i : Int)] W fun e w' => e = .returned (.bool (bitB n (i : Nat))) ∧ Below W.heap.size W w') := by
    show ∀ _ _, _
    rw [← he]; exact fun i W => numBit_any n i W hn
  clear hn
  rw [he]
  clear he
  go_enter Try.func19, Try.ntmps19
  go_wp2_with (first
    | (go_at_call 79; refine (HW.out _).mono ?_; rintro e w1 ⟨rfl, rfl⟩)
    | (at_make; refine wpList_make_full _ rfl _ _ 34 rfl (w.heap.size + 1) 3 i0 (.int .i64 0) 1 Try.underlying34 hi hz0 hz1 .i64 .i64 _ _ M rfl rfl rfl rfl (by rw [hz2]; omega) (by unfold maxLen; omega) (by simp) ?_; intro w0 hown0 hgrow0))
  rw [toList_madeCells_zero, ← constTo_zero n] at hown0
  have hsz : (w.alloc (.cells #[.int .u64 (y : Int), .int .u64 (z : Int)] 41)).heap.size = w.heap.size + 1 := by simp
  rw [hsz] at hown0
  clear hsz
  have hb0 : Below (w.heap.size + 1) (w.alloc (.cells #[.int .u64 (y : Int), .int .u64 (z : Int)] 41)) w0 := (Below.refl _ _).grown hgrow0 (by simp) (fun k h => by cases h)
  go_loopw [12] (fun i wr => ∃ k : Nat, k ≤ M ∧ i = .int .i64 k ∧ wr.ownsRow (w.heap.size + 1) 3 1 (.slice (some ⟨w.heap.size + 1, 0, none⟩) M M) M (constTo n M k) ∧ Below (w.heap.size + 1) (w.alloc (.cells #[.int .u64 (y : Int), .int .u64 (z : Int)] 41)) wr)
    (fun i _ => M - (intOf i).toNat)
  case atStart => exact ⟨0, Nat.zero_le _, rfl, hown0, hb0⟩
  case round =>
    obtain ⟨k, hk, rfl, hown, hnx⟩ := hrel
    have hsize := hnx.size
    simp at hsize
    by_cases hlt : k < M
    · have hcy : wr.cell? ⟨w.heap.size, 0, none⟩ = some (.int .u64 (y : Int)) := by rw [hnx.cell (p := ⟨w.heap.size, 0, none⟩) (by simp)]; simp [go_sem]
      have hcz : wr.cell? ⟨w.heap.size, 1, none⟩ = some (.int .u64 (z : Int)) := by rw [hnx.cell (p := ⟨w.heap.size, 1, none⟩) (by simp)]; simp [go_sem]
      by_cases hbit : bitB n (k : Nat) = true
      · have HS := Lib.hid (constTo_yes n M k hlt hbit)
        go_wp2_with fail
        refine (HN.out k _).mono ?_
        rintro e w1 ⟨rfl, hb1⟩
        have hown1 := own_below hown hb1
        have z1 : ∃ x, w1.cell? ⟨w.heap.size + 1, k, none⟩ = some x := by
          rw [hown1.cellAt k (by omega)]; exact ⟨_, List.getElem?_eq_getElem (by simp [constTo]; omega)⟩
        obtain ⟨x, z1⟩ := z1
        have z2 := hown1.frozenAt k
        have Z := Lib.hid (hown1.stored k (.int .i64 1)).1
        have hz := hb1.size
        go_wp2_with fail
        go_roundw
        case rel => exact ⟨k + 1, by omega, by go_num, HS.out ▸ Z.out, (hnx.trans (hb1.mono (by omega))).setCell (by simp) _⟩
        case measure => simp [intOf]; omega
      · have hbit' : bitB n (k : Nat) = false := by simpa using hbit
        have HS := Lib.hid (constTo_no n M k hbit')
        clear hbit
        go_wp2_with fail
        refine (HN.out k _).mono ?_
        rintro e w1 ⟨rfl, hb1⟩
        have hown1 := Lib.hid (own_below hown hb1)
        have hz := hb1.size
        go_wp2_with fail
        go_roundw
        case rel => exact ⟨k + 1, by omega, by go_num, HS.out ▸ hown1.out, hnx.trans (hb1.mono (by omega))⟩
        case measure => simp [intOf]; omega
    · obtain rfl : k = M := by omega
      go_wp2_with fail
      go_ret
      exact ⟨_, rfl, IVec.of_owns (n := k) (constBits_len _ _) (constTo_end n k ▸ hown), fun j hj _ => (by cases hj; exact Nat.le_succ _), NilOk.some _ _ _, ((Below.refl _ _).alloc (Nat.le_refl _) _).trans (hnx.mono (by omega))⟩

end Go.Proofs.Ytlnkflmnjkmhkaa

/-
  Contracts of the reference's Const, Resize, Slice, Cat, Shl and Shr of vectors: a row in new memory.
-/
namespace Go.Proofs.Ytlnkflmnjkmhkaa
open Go.RowKit Go.Maps

/-- A row of the call's own in a world that is otherwise as it was. -/
def RowN (w : World) (zs : List Int) (v : Value) (wr : World) : Prop := Below w.heap.size w wr ∧ wr.ownsRow w.heap.size 3 1 v zs.length (zs.map (Value.int .i64))
theorem RowN.start (w : World) : RowN w [] (.slice none 0 0) w := ⟨Below.refl _ _, rfl, .inl ⟨rfl, rfl⟩⟩
theorem RowN.push {w w1 w2 : World} {zs : List Int} {v v' : Value} {z : Int} {o : Obj} (h : RowN w zs v w1) (hown : w2.ownsRow w.heap.size 3 1 v' (zs.length + 1) (zs.map (Value.int .i64) ++ [.int .i64 z])) (hg : (w1.alloc o).grownBy w2 v.ownBlock) : RowN w (zs ++ [z]) v' w2 := by
  refine ⟨(h.1.alloc h.1.size o).grown hg (by simp; have := h.1.size; omega) (fun k hk => ?_), ?_⟩
  · exact (h.2.lt k hk).1
  · rw [List.length_append, List.map_append]
    exact hown
theorem RowN.later {w w1 w2 : World} {zs : List Int} {v : Value} (h : RowN w zs v w1) (hb : Below w1.heap.size w1 w2) : RowN w zs v w2 := ⟨h.1.trans (hb.mono h.1.size), (own_ext h.2 (O := fun _ => False) (fun _ _ q => q) (Ext.of_below hb)).1⟩
theorem RowN.shape {w w1 : World} {zs : List Int} {v : Value} (h : RowN w zs v w1) : ∃ p c, v = .slice p zs.length c := by
  obtain ⟨p, c, e, -⟩ := own_shape h.2
  exact ⟨p, c, e⟩
theorem RowN.ret {w w1 : World} {zs : List Int} {v : Value} (h : RowN w zs v w1) : RetVecN w zs (.returned v) w1 :=
  ⟨v, rfl, IVec.of_owns rfl h.2, fun k hk _ => (h.2.lt k hk).1, own_nilOk h.2, h.1⟩

/-- A list by its places. -/
def tab (f : Nat → Int) (k : Nat) : List Int := (List.range k).map f
theorem tab_succ (f : Nat → Int) (k : Nat) : tab f (k + 1) = tab f k ++ [f k] := by simp [tab, List.range_succ]
theorem tab_len (f : Nat → Int) (k : Nat) : (tab f k).length = k := by simp [tab]
theorem tab_eq {f : Nat → Int} {k : Nat} {l : List Int} (hl : l.length = k) (h : ∀ i, i < k → l.getD i 0 = f i) : tab f k = l := by
  apply List.ext_getElem
  · rw [tab_len, hl]
  · intro i h1 h2
    have := h i (by omega)
    simp only [tab, List.getElem_map, List.getElem_range]
    rw [← this]
    simp [h2]

set_option maxRecDepth 100000 in
set_option maxHeartbeats 400000 in
theorem bit17_int (va : Value) (xs : List Int) (i : Int) (w : World) (ha : IVec w va xs) (hxl : xs.length ≤ 1000000) (hi : i ≤ 1000000) :
    Calls Try.prog 95 #[va, .int .i64 i] w fun e w' => e = .returned (.int .i64 (if i < 0 then 0 else xs.getD i.toNat 0)) ∧ w = w' := by
  by_cases h : i < 0
  · rw [if_pos h]
    obtain ⟨pa, ca, rfl, -, -, -⟩ := ha.shape
    clear ha
    go_enter Try.func95, Try.ntmps95
    go_wp2
    go_ret
    exact ⟨rfl, rfl⟩
  · obtain ⟨k, rfl⟩ : ∃ k : Nat, i = (k : Int) := ⟨i.toNat, by omega⟩
    rw [if_neg h]
    exact bit17_any va xs k w ha hxl (by omega)

theorem resizeL_at (xs : List Int) (M i : Nat) (h : i < M) : (resizeL xs M).getD i 0 = xs.getD i 0 := by
  unfold resizeL
  simp only [List.getD_eq_getElem?_getD]
  by_cases hi : i < xs.length
  · rw [List.getElem?_append_left (by simp; omega), List.getElem?_take_of_lt h]
  · rw [List.getElem?_append_right (by simp; omega), List.getElem?_replicate]
    rw [List.getElem?_eq_none (show xs.length ≤ i by omega)]
    split <;> rfl
theorem shlL_at (xs : List Int) (K i : Nat) (h : i < xs.length) (hK : K ≤ xs.length) : (shlL xs K).getD i 0 = if ((i : Int) - K) < 0 then 0 else xs.getD ((i : Int) - K).toNat 0 := by
  unfold shlL
  rw [Nat.min_eq_left hK]
  simp only [List.getD_eq_getElem?_getD]
  by_cases hi : i < K
  · rw [if_pos (by omega), List.getElem?_append_left (by simp; omega), List.getElem?_replicate, if_pos hi]; rfl
  · rw [if_neg (by omega), List.getElem?_append_right (by simp; omega), List.length_replicate, show ((i : Int) - K).toNat = i - K by omega, List.getElem?_take_of_lt (by omega)]
theorem shrL_at (xs : List Int) (K i : Nat) (h : i < xs.length) (hK : K ≤ xs.length) : (shrL xs K).getD i 0 = xs.getD (i + K) 0 := by
  unfold shrL
  simp only [List.getD_eq_getElem?_getD]
  by_cases hi : i + K < xs.length
  · rw [List.getElem?_append_left (by simp; omega), List.getElem?_drop, Nat.add_comm]
  · rw [List.getElem?_append_right (by simp; omega), List.getElem?_replicate, List.getElem?_eq_none (show xs.length ≤ i + K by omega)]
    split <;> rfl

set_option maxRecDepth 100000 in
set_option maxHeartbeats 1600000 in
theorem resize17_any (va : Value) (xs : List Int) (c : Int) (w : World) (ha : IVec w va xs) (hxl : xs.length ≤ 500000) :
    Calls Try.prog 102 #[va, .int .i64 c] w (RetVecN w (resizeL xs (max 0 (min c 256)).toNat)) := by
  have HR0 : Hid (RowN w [] (.slice none 0 0) w) := RowN.start w
  obtain ⟨f, hf⟩ : ∃ f : Nat → Int, f = fun i => xs.getD i 0 := ⟨_, rfl⟩
  obtain ⟨M, hM⟩ : ∃ M, M = (max 0 (min c 256)).toNat := ⟨_, rfl⟩
  have hMm : M ≤ 256 := by omega
  have HF : Hid (tab f M = resizeL xs M) := by rw [hf]; exact tab_eq (resizeL_len xs M) fun i hi => resizeL_at xs M i hi
  have HH : Hid (∀ W, Calls Try.prog 68 #[.int .i64 c, .int .i64 0, .int .i64 256] W fun e w' => e = .returned (.int .i64 (M : Int)) ∧ W = w') := fun W => by
    have e : (if c < 0 then 0 else if 256 < c then 256 else c) = (M : Int) := by split <;> (try split) <;> omega
    rw [← e]; exact held_any c 0 256 W
  have HB : Hid (∀ wr zs v (i : Nat), i ≤ 1000000 → RowN w zs v wr → Calls Try.prog 95 #[va, .int .i64 (i : Int)] wr fun e w' => e = .returned (.int .i64 (f i)) ∧ wr = w') := fun wr zs v i hi h => by rw [hf]; exact bit17_any va xs i wr (ha.below h.1) (by omega) hi
  rw [← hM]
  clear hM ha
  go_enter Try.func102, Try.ntmps102
  go_wp2_with fail
  go_loopw [5, 6] (fun v i wr => ∃ (k : Nat) (p : Option Addr) (cp : Nat), k ≤ M ∧ i = .int .i64 k ∧ v = .slice p k cp ∧ Hid (RowN w (tab f k) (.slice p k cp) wr)) (fun _ i _ => M - (intOf i).toNat)
  case atStart => exact ⟨0, none, 0, Nat.zero_le _, rfl, rfl, HR0⟩
  case round =>
    obtain ⟨k, p, cp, hk, rfl, rfl, HK⟩ := hrel
    have hl := tab_len f k
    have HSS : Hid (tab f (k + 1) = tab f k ++ [f k]) := tab_succ f k
    by_cases hlt : k < M
    · have HX := Lib.hid (HB.out wr _ _ k (by omega) HK.out)
      clear hf HF
      generalize f k = z at *
      generalize tab f k = zs at *
      have R2 := Lib.hid HK.out
      have hcell : (wr.alloc (.cells #[.int .i64 z] 3)).cell? ⟨wr.heap.size, 0, none⟩ = some (.int .i64 z) := by simp [go_sem]
      have hownA := R2.out.2.alloc (.cells #[.int .i64 z] 3)
      have hsz2 := R2.out.1.size
      have hzl : zs.length ≤ 2000000 := by omega
      go_wp2_with (first
        | (go_at_call 68; (with_reducible refine (HH.out _).mono ?_); rintro e w1 ⟨rfl, rfl⟩)
        | (go_at_call 95; (with_reducible refine HX.out.mono ?_); rintro e w1 ⟨rfl, rfl⟩)
        | (at_builtin; refine append_one rfl (.tmp 13) (.tmp 17) rfl w.heap.size _ zs rfl hownA wr.heap.size z rfl hcell hzl (by simp; omega) ?_; intro v3 w3 hown3 hgrow3 hwh3))
      have R3 : Hid (RowN w (zs ++ [z]) v3 w3) := R2.out.push hown3 hgrow3
      obtain ⟨p3, c3, rfl⟩ := R3.out.shape
      have hl3 : (zs ++ [z]).length = k + 1 := by simp; omega
      rw [hl3] at R3 ⊢
      clear hown3 hgrow3 hwh3 hownA hcell hl3
      go_roundw
      case rel => exact ⟨k + 1, p3, c3, by omega, by go_num, rfl, by rw [HSS.out]; exact R3.out⟩
      case measure => simp [intOf]; omega
    · obtain rfl : k = M := by omega
      have HE := Lib.hid HK.out.ret
      rw [HF.out] at HE
      clear HF hf
      go_wp2_with (go_at_call 68; (with_reducible refine (HH.out _).mono ?_); rintro e w1 ⟨rfl, rfl⟩)
      go_ret
      exact HE.out

set_option maxRecDepth 100000 in
set_option maxHeartbeats 1600000 in
theorem shl17_any (va : Value) (xs : List Int) (c : Int) (w : World) (ha : IVec w va xs) (hxl : xs.length ≤ 500000) :
    Calls Try.prog 105 #[va, .int .i64 c] w (RetVecN w (shlL xs (shAmt xs.length c))) := by
  have HR0 : Hid (RowN w [] (.slice none 0 0) w) := RowN.start w
  obtain ⟨M, hM⟩ : ∃ M, M = xs.length := ⟨_, rfl⟩
  obtain ⟨K, hK⟩ : ∃ K, K = shAmt xs.length c := ⟨_, rfl⟩
  obtain ⟨f, hf⟩ : ∃ f : Nat → Int, f = (fun i : Nat => if ((i : Int) - K) < 0 then 0 else xs.getD ((i : Int) - K).toNat 0) := ⟨_, rfl⟩
  have hMm : M ≤ 500000 := by omega
  have hKm : K ≤ M := by unfold shAmt at hK; omega
  have HF : Hid (tab f M = shlL xs K) := by rw [hf]; exact tab_eq (by rw [shlL_len]; exact hM.symm) fun i hi => shlL_at xs K i (by omega) (by omega)
  have HH : Hid (∀ W, Calls Try.prog 68 #[.int .i64 c, .int .i64 0, .int .i64 (M : Int)] W fun e w' => e = .returned (.int .i64 (K : Int)) ∧ W = w') := fun W => by
    have e : (if c < 0 then 0 else if (M : Int) < c then (M : Int) else c) = (K : Int) := by unfold shAmt at hK; split <;> (try split) <;> omega
    rw [← e]; exact held_any c 0 M W
  have HB : Hid (∀ wr zs v (i : Nat), i < M → RowN w zs v wr → Calls Try.prog 95 #[va, .int .i64 ((i : Int) - (K : Int))] wr fun e w' => e = .returned (.int .i64 (f i)) ∧ wr = w') := fun wr zs v i hi h => by rw [hf]; exact bit17_int va xs _ wr (ha.below h.1) (by omega) (by omega)
  obtain ⟨pa, ca, rfl, -, -, -⟩ := ha.shape
  rw [← hK]
  rw [← hM] at *
  clear hM hK ha hxl
  go_enter Try.func105, Try.ntmps105
  go_wp2_with (go_at_call 68; (with_reducible refine (HH.out _).mono ?_); rintro e w1 ⟨rfl, rfl⟩)
  go_loopw [5, 6] (fun v i wr => ∃ (k : Nat) (p : Option Addr) (cp : Nat), k ≤ M ∧ i = .int .i64 k ∧ v = .slice p k cp ∧ Hid (RowN w (tab f k) (.slice p k cp) wr)) (fun _ i _ => M - (intOf i).toNat)
  case atStart => exact ⟨0, none, 0, Nat.zero_le _, rfl, rfl, HR0⟩
  case round =>
    obtain ⟨k, p, cp, hk, rfl, rfl, HK⟩ := hrel
    have hl := tab_len f k
    have HSS : Hid (tab f (k + 1) = tab f k ++ [f k]) := tab_succ f k
    by_cases hlt : k < M
    · have HX := Lib.hid (HB.out wr _ _ k (by omega) HK.out)
      clear hf HF
      generalize f k = z at *
      generalize tab f k = zs at *
      have R2 := Lib.hid HK.out
      have hcell : (wr.alloc (.cells #[.int .i64 z] 3)).cell? ⟨wr.heap.size, 0, none⟩ = some (.int .i64 z) := by simp [go_sem]
      have hownA := R2.out.2.alloc (.cells #[.int .i64 z] 3)
      have hsz2 := R2.out.1.size
      have hzl : zs.length ≤ 2000000 := by omega
      go_wp2_with (first
        | (go_at_call 68; (with_reducible refine (HH.out _).mono ?_); rintro e w1 ⟨rfl, rfl⟩)
        | (go_at_call 95; (with_reducible refine HX.out.mono ?_); rintro e w1 ⟨rfl, rfl⟩)
        | (at_builtin; refine append_one rfl (.tmp 17) (.tmp 23) rfl w.heap.size _ zs rfl hownA wr.heap.size z rfl hcell hzl (by simp; omega) ?_; intro v3 w3 hown3 hgrow3 hwh3))
      have R3 : Hid (RowN w (zs ++ [z]) v3 w3) := R2.out.push hown3 hgrow3
      obtain ⟨p3, c3, rfl⟩ := R3.out.shape
      have hl3 : (zs ++ [z]).length = k + 1 := by simp; omega
      rw [hl3] at R3 ⊢
      clear hown3 hgrow3 hwh3 hownA hcell hl3
      go_roundw
      case rel => exact ⟨k + 1, p3, c3, by omega, by go_num, rfl, by rw [HSS.out]; exact R3.out⟩
      case measure => simp [intOf]; omega
    · obtain rfl : k = M := by omega
      have HE := Lib.hid HK.out.ret
      rw [HF.out] at HE
      clear HF hf
      go_wp2_with fail
      go_ret
      exact HE.out

set_option maxRecDepth 100000 in
set_option maxHeartbeats 1600000 in
theorem shr17_any (va : Value) (xs : List Int) (c : Int) (w : World) (ha : IVec w va xs) (hxl : xs.length ≤ 500000) :
    Calls Try.prog 106 #[va, .int .i64 c] w (RetVecN w (shrL xs (shAmt xs.length c))) := by
  have HR0 : Hid (RowN w [] (.slice none 0 0) w) := RowN.start w
  obtain ⟨M, hM⟩ : ∃ M, M = xs.length := ⟨_, rfl⟩
  obtain ⟨K, hK⟩ : ∃ K, K = shAmt xs.length c := ⟨_, rfl⟩
  obtain ⟨f, hf⟩ : ∃ f : Nat → Int, f = (fun i => xs.getD (i + K) 0) := ⟨_, rfl⟩
  have hMm : M ≤ 500000 := by omega
  have hKm : K ≤ M := by unfold shAmt at hK; omega
  have HF : Hid (tab f M = shrL xs K) := by rw [hf]; exact tab_eq (by rw [shrL_len]; exact hM.symm) fun i hi => shrL_at xs K i (by omega) (by omega)
  have HH : Hid (∀ W, Calls Try.prog 68 #[.int .i64 c, .int .i64 0, .int .i64 (M : Int)] W fun e w' => e = .returned (.int .i64 (K : Int)) ∧ W = w') := fun W => by
    have e : (if c < 0 then 0 else if (M : Int) < c then (M : Int) else c) = (K : Int) := by unfold shAmt at hK; split <;> (try split) <;> omega
    rw [← e]; exact held_any c 0 M W
  have HB : Hid (∀ wr zs v (i : Nat), i < M → RowN w zs v wr → Calls Try.prog 95 #[va, .int .i64 ((i : Int) + (K : Int))] wr fun e w' => e = .returned (.int .i64 (f i)) ∧ wr = w') := fun wr zs v i hi h => by rw [hf]; exact (show (i : Int) + (K : Int) = ((i + K : Nat) : Int) by omega) ▸ bit17_any va xs _ wr (ha.below h.1) (by omega) (by omega)
  obtain ⟨pa, ca, rfl, -, -, -⟩ := ha.shape
  rw [← hK]
  rw [← hM] at *
  clear hM hK ha hxl
  go_enter Try.func106, Try.ntmps106
  go_wp2_with (go_at_call 68; (with_reducible refine (HH.out _).mono ?_); rintro e w1 ⟨rfl, rfl⟩)
  go_loopw [5, 6] (fun v i wr => ∃ (k : Nat) (p : Option Addr) (cp : Nat), k ≤ M ∧ i = .int .i64 k ∧ v = .slice p k cp ∧ Hid (RowN w (tab f k) (.slice p k cp) wr)) (fun _ i _ => M - (intOf i).toNat)
  case atStart => exact ⟨0, none, 0, Nat.zero_le _, rfl, rfl, HR0⟩
  case round =>
    obtain ⟨k, p, cp, hk, rfl, rfl, HK⟩ := hrel
    have hl := tab_len f k
    have HSS : Hid (tab f (k + 1) = tab f k ++ [f k]) := tab_succ f k
    by_cases hlt : k < M
    · have HX := Lib.hid (HB.out wr _ _ k (by omega) HK.out)
      clear hf HF
      generalize f k = z at *
      generalize tab f k = zs at *
      have R2 := Lib.hid HK.out
      have hcell : (wr.alloc (.cells #[.int .i64 z] 3)).cell? ⟨wr.heap.size, 0, none⟩ = some (.int .i64 z) := by simp [go_sem]
      have hownA := R2.out.2.alloc (.cells #[.int .i64 z] 3)
      have hsz2 := R2.out.1.size
      have hzl : zs.length ≤ 2000000 := by omega
      go_wp2_with (first
        | (go_at_call 68; (with_reducible refine (HH.out _).mono ?_); rintro e w1 ⟨rfl, rfl⟩)
        | (go_at_call 95; (with_reducible refine HX.out.mono ?_); rintro e w1 ⟨rfl, rfl⟩)
        | (at_builtin; refine append_one rfl (.tmp 17) (.tmp 23) rfl w.heap.size _ zs rfl hownA wr.heap.size z rfl hcell hzl (by simp; omega) ?_; intro v3 w3 hown3 hgrow3 hwh3))
      have R3 : Hid (RowN w (zs ++ [z]) v3 w3) := R2.out.push hown3 hgrow3
      obtain ⟨p3, c3, rfl⟩ := R3.out.shape
      have hl3 : (zs ++ [z]).length = k + 1 := by simp; omega
      rw [hl3] at R3 ⊢
      clear hown3 hgrow3 hwh3 hownA hcell hl3
      go_roundw
      case rel => exact ⟨k + 1, p3, c3, by omega, by go_num, rfl, by rw [HSS.out]; exact R3.out⟩
      case measure => simp [intOf]; omega
    · obtain rfl : k = M := by omega
      have HE := Lib.hid HK.out.ret
      rw [HF.out] at HE
      clear HF hf
      go_wp2_with fail
      go_ret
      exact HE.out

theorem sliceL_none (xs : List Int) (hi lo : Int) (h : lo < 0 ∨ hi < lo ∨ (xs.length : Int) ≤ lo) : sliceL xs hi lo = [] := by unfold sliceL; rw [if_pos h]
theorem sliceL_tab (xs : List Int) (hi : Int) (L N : Nat) (h1 : L < xs.length) (h2 : (L : Int) ≤ hi) (hN : N = (min hi (xs.length - 1) + 1 - L).toNat) : tab (fun i => xs.getD (L + i) 0) N = sliceL xs hi L := by
  have hb : N ≤ xs.length - L := by omega
  unfold sliceL
  rw [if_neg (by omega)]
  rw [show (min hi ((xs.length : Int) - 1) + 1 - (L : Int)).toNat = N from hN.symm, show ((L : Int)).toNat = L by omega]
  refine tab_eq (by simp; omega) fun i hi => ?_
  simp only [List.getD_eq_getElem?_getD]
  rw [List.getElem?_take_of_lt hi, List.getElem?_drop]

set_option maxRecDepth 100000 in
set_option maxHeartbeats 1600000 in
theorem slice17_any (va : Value) (xs : List Int) (hi lo : Int) (w : World) (ha : IVec w va xs) (hxl : xs.length ≤ 500000) :
    Calls Try.prog 103 #[va, .int .i64 hi, .int .i64 lo] w (RetVecN w (sliceL xs hi lo)) := by
  have HR0 : Hid (RowN w [] (.slice none 0 0) w) := RowN.start w
  by_cases h : lo < 0 ∨ hi < lo ∨ (xs.length : Int) ≤ lo
  · have HE := Lib.hid (HR0.out.ret)
    rw [← sliceL_none xs hi lo h] at HE
    obtain ⟨pa, ca, rfl, -, -, -⟩ := ha.shape
    clear ha HR0
    by_cases h0 : lo < 0
    · clear h
      go_enter Try.func103, Try.ntmps103
      go_wp2_with fail
      go_loopw [7, 8] (fun v i wr => i = .int .i64 lo ∧ v = .slice none 0 0 ∧ wr = w) (fun _ i _ => 0)
      case atStart => exact ⟨rfl, rfl, rfl⟩
      case round =>
        obtain ⟨rfl, rfl, rfl⟩ := hrel
        go_wp2_with fail
        go_ret
        exact HE.out
    · by_cases h1 : hi < lo
      · clear h
        go_enter Try.func103, Try.ntmps103
        go_wp2_with fail
        go_loopw [7, 8] (fun v i wr => i = .int .i64 lo ∧ v = .slice none 0 0 ∧ wr = w) (fun _ i _ => 0)
        case atStart => exact ⟨rfl, rfl, rfl⟩
        case round =>
          obtain ⟨rfl, rfl, rfl⟩ := hrel
          go_wp2_with fail
          go_ret
          exact HE.out
      · have h2 : (xs.length : Int) ≤ lo := by omega
        clear h
        go_enter Try.func103, Try.ntmps103
        go_wp2_with fail
        go_loopw [7, 8] (fun v i wr => i = .int .i64 lo ∧ v = .slice none 0 0 ∧ wr = w) (fun _ i _ => 0)
        case atStart => exact ⟨rfl, rfl, rfl⟩
        case round =>
          obtain ⟨rfl, rfl, rfl⟩ := hrel
          go_wp2_with fail
          go_ret
          exact HE.out
  · obtain ⟨L, rfl⟩ : ∃ L : Nat, lo = (L : Int) := ⟨lo.toNat, by omega⟩
    have hL : L < xs.length := by omega
    have hLh : (L : Int) ≤ hi := by omega
    obtain ⟨N, hN⟩ : ∃ N, N = (min hi (xs.length - 1) + 1 - L).toNat := ⟨_, rfl⟩
    obtain ⟨f, hf⟩ : ∃ f : Nat → Int, f = fun i => xs.getD (L + i) 0 := ⟨_, rfl⟩
    have HF : Hid (tab f N = sliceL xs hi L) := by rw [hf]; exact sliceL_tab xs hi L N hL hLh hN
    have HN : Hid (N ≤ 500000 ∧ L + N ≤ xs.length ∧ ((L : Int) + N - 1 ≤ hi) ∧ (hi < (L : Int) + N ∨ xs.length ≤ L + N)) := by
      show _ ∧ _
      omega
    have HV : Hid (∀ wr zs v, RowN w zs v wr → IVec wr va xs) := fun wr zs v h => ha.below h.1
    obtain ⟨pa, ca, rfl, -, -, -⟩ := ha.shape
    clear ha h hN
    go_enter Try.func103, Try.ntmps103
    go_wp2_with fail
    go_loopw [7, 8] (fun v i wr => ∃ (k : Nat) (p : Option Addr) (cp : Nat), k ≤ N ∧ i = .int .i64 ((L + k : Nat) : Int) ∧ v = .slice p k cp ∧ Hid (RowN w (tab f k) (.slice p k cp) wr)) (fun _ i _ => xs.length - (intOf i).toNat)
    case atStart => exact ⟨0, none, 0, Nat.zero_le _, rfl, rfl, HR0⟩
    case round =>
      obtain ⟨k, p, cp, hk, rfl, rfl, HK⟩ := hrel
      have hl := tab_len f k
      have HSS : Hid (tab f (k + 1) = tab f k ++ [f k]) := tab_succ f k
      have hNn := HN.out
      by_cases hlt : k < N
      · obtain ⟨ba, oa, rfl, ga, -⟩ := (HV.out _ _ _ HK.out).elem (L + k) (by omega)
        rw [show xs.getD (L + k) 0 = f k by rw [hf]] at ga
        have c1 : ((L + k : Nat) : Int) ≤ hi := by omega
        have c2 : L + k < xs.length := by omega
        have c3 : k ≤ 500000 := by omega
        clear hf HF hNn hLh hL
        generalize f k = z at *
        generalize tab f k = zs at *
        generalize hq : L + k = q at *
        have R2 := Lib.hid HK.out
        have hcell : (wr.alloc (.cells #[.int .i64 z] 3)).cell? ⟨wr.heap.size, 0, none⟩ = some (.int .i64 z) := by simp [go_sem]
        have hownA := R2.out.2.alloc (.cells #[.int .i64 z] 3)
        have hsz2 := R2.out.1.size
        have hzl : zs.length ≤ 2000000 := by omega
        go_wp2_with (at_builtin; refine append_one rfl (.tmp 25) (.tmp 30) rfl w.heap.size _ zs rfl hownA wr.heap.size z rfl hcell hzl (by simp; omega) ?_; intro v3 w3 hown3 hgrow3 hwh3)
        have R3 : Hid (RowN w (zs ++ [z]) v3 w3) := R2.out.push hown3 hgrow3
        obtain ⟨p3, c3, rfl⟩ := R3.out.shape
        have hl3 : (zs ++ [z]).length = k + 1 := by simp; omega
        rw [hl3] at R3 ⊢
        clear hown3 hgrow3 hwh3 hownA hcell hl3
        go_roundw
        case rel => exact ⟨k + 1, p3, c3, by omega, by rw [← hq]; go_num, rfl, by rw [HSS.out]; exact R3.out⟩
        case measure => simp [intOf]; omega
      · obtain rfl : k = N := by omega
        have HE := Lib.hid HK.out.ret
        rw [HF.out] at HE
        have c3 : L + k ≤ 500000 := by omega
        by_cases c1 : ((L + k : Nat) : Int) ≤ hi
        · have c2 : ¬ (L + k < xs.length) := by omega
          clear HF hf hNn hL hLh
          generalize L + k = q at *
          go_wp2_with fail
          go_ret
          exact HE.out
        · clear HF hf hNn hL hLh
          generalize L + k = q at *
          go_wp2_with fail
          go_ret
          exact HE.out

set_option maxRecDepth 100000 in
set_option maxHeartbeats 1600000 in
theorem cat17_any (va vb : Value) (xs ys : List Int) (w : World) (ha : IVec w va xs) (hb : IVec w vb ys) (hxl : xs.length ≤ 500000) (hyl : ys.length ≤ 500000) :
    Calls Try.prog 104 #[va, vb] w (RetVecN w (ys ++ xs)) := by
  have HR0 : Hid (RowN w [] (.slice none 0 0) w) := RowN.start w
  obtain ⟨f, hf⟩ : ∃ f : Nat → Int, f = fun i => (ys ++ xs).getD i 0 := ⟨_, rfl⟩
  have HF : Hid (tab f (ys.length + xs.length) = ys ++ xs) := by rw [hf]; exact tab_eq (by simp) fun i _ => rfl
  have HFY : Hid (∀ k, k < ys.length → ys.getD k 0 = f k) := fun k hk => by rw [hf]; simp only [List.getD_eq_getElem?_getD]; rw [List.getElem?_append_left hk]
  have HFX : Hid (∀ k, xs.getD k 0 = f (ys.length + k)) := fun k => by rw [hf]; simp only [List.getD_eq_getElem?_getD]; rw [List.getElem?_append_right (by omega), show ys.length + k - ys.length = k by omega]
  have HVA : Hid (∀ wr zs v, RowN w zs v wr → IVec wr va xs) := fun wr zs v h => ha.below h.1
  have HVB : Hid (∀ wr zs v, RowN w zs v wr → IVec wr vb ys) := fun wr zs v h => hb.below h.1
  obtain ⟨pa, ca, rfl, -, -, -⟩ := ha.shape
  obtain ⟨pb, cb, rfl, -, -, -⟩ := hb.shape
  clear ha hb hf
  go_enter Try.func104, Try.ntmps104
  go_wp2_with fail
  go_loopw [5, 6] (fun v i wr => ∃ (k : Nat) (p : Option Addr) (cp : Nat), k ≤ ys.length ∧ i = .int .i64 (k : Int) ∧ v = .slice p k cp ∧ Hid (RowN w (tab f k) (.slice p k cp) wr)) (fun _ i _ => ys.length - (intOf i).toNat)
  case atStart => exact ⟨0, none, 0, Nat.zero_le _, rfl, rfl, HR0⟩
  case round =>
    obtain ⟨k, p, cp, hk, rfl, rfl, HK⟩ := hrel
    by_cases hlt : k < ys.length
    · have hl := tab_len f k
      have HSS : Hid (tab f (k + 1) = tab f k ++ [f k]) := tab_succ f k
      obtain ⟨bb, ob, rfl, ga, -⟩ := (HVB.out _ _ _ HK.out).elem k hlt
      rw [HFY.out k hlt] at ga
      generalize f k = z at *
      generalize tab f k = zs at *
      have R2 := Lib.hid HK.out
      have hcell : (wr.alloc (.cells #[.int .i64 z] 3)).cell? ⟨wr.heap.size, 0, none⟩ = some (.int .i64 z) := by simp [go_sem]
      have hownA := R2.out.2.alloc (.cells #[.int .i64 z] 3)
      have hsz2 := R2.out.1.size
      have hzl : zs.length ≤ 2000000 := by omega
      go_wp2_with (at_builtin; refine append_one rfl (.tmp 14) (.tmp 19) rfl w.heap.size _ zs rfl hownA wr.heap.size z rfl hcell hzl (by simp; omega) ?_; intro v3 w3 hown3 hgrow3 hwh3)
      have R3 : Hid (RowN w (zs ++ [z]) v3 w3) := R2.out.push hown3 hgrow3
      obtain ⟨p3, c3, rfl⟩ := R3.out.shape
      have hl3 : (zs ++ [z]).length = k + 1 := by simp; omega
      rw [hl3] at R3 ⊢
      clear hown3 hgrow3 hwh3 hownA hcell hl3
      go_roundw
      case rel => exact ⟨k + 1, p3, c3, by omega, by go_num, rfl, by rw [HSS.out]; exact R3.out⟩
      case measure => simp [intOf]; omega
    · obtain rfl : k = ys.length := by omega
      go_wp2_with fail
      generalize wr = wa at *
      clear wr
      go_loopw [5, 7] (fun v i w2 => ∃ (j m : Nat) (p : Option Addr) (cp : Nat), j ≤ xs.length ∧ m = ys.length + j ∧ i = .int .i64 (j : Int) ∧ v = .slice p m cp ∧ Hid (RowN w (tab f m) (.slice p m cp) w2)) (fun _ i _ => xs.length - (intOf i).toNat)
      case atStart => exact ⟨0, ys.length, p, cp, Nat.zero_le _, rfl, rfl, rfl, HK⟩
      case round =>
        clear HK
        obtain ⟨j, k, p, cp, hj, hm, rfl, rfl, HK⟩ := hrel
        by_cases hlt : j < xs.length
        · have hl := tab_len f k
          have HSS : Hid (tab f (k + 1) = tab f k ++ [f k]) := tab_succ f k
          obtain ⟨bb, ob, rfl, ga, -⟩ := (HVA.out _ _ _ HK.out).elem j hlt
          rw [HFX.out j, ← hm] at ga
          generalize f k = z at *
          generalize tab f k = zs at *
          have R2 := Lib.hid HK.out
          have hcell : (wr.alloc (.cells #[.int .i64 z] 3)).cell? ⟨wr.heap.size, 0, none⟩ = some (.int .i64 z) := by simp [go_sem]
          have hownA := R2.out.2.alloc (.cells #[.int .i64 z] 3)
          have hsz2 := R2.out.1.size
          have hzl : zs.length ≤ 2000000 := by omega
          go_wp2_with (at_builtin; refine append_one rfl (.tmp 27) (.tmp 32) rfl w.heap.size _ zs rfl hownA wr.heap.size z rfl hcell hzl (by simp; omega) ?_; intro v3 w3 hown3 hgrow3 hwh3)
          have R3 : Hid (RowN w (zs ++ [z]) v3 w3) := R2.out.push hown3 hgrow3
          obtain ⟨p3, c3, rfl⟩ := R3.out.shape
          have hl3 : (zs ++ [z]).length = k + 1 := by simp; omega
          rw [hl3] at R3 ⊢
          clear hown3 hgrow3 hwh3 hownA hcell hl3
          go_roundw
          case rel => exact ⟨j + 1, k + 1, p3, c3, by omega, by omega, by go_num, rfl, by rw [HSS.out]; exact R3.out⟩
          case measure => simp [intOf]; omega
        · obtain rfl : j = xs.length := by omega
          subst hm
          have HE := Lib.hid HK.out.ret
          rw [HF.out] at HE
          go_wp2_with fail
          go_ret
          exact HE.out

theorem RowN.ret_up {w W w1 : World} {zs : List Int} {v : Value} (h : RowN W zs v w1) (hb : Below w.heap.size w W) : RetVecN w zs (.returned v) w1 :=
  ⟨v, rfl, IVec.of_owns rfl h.2, fun k hk _ => Nat.le_trans hb.size (h.2.lt k hk).1, own_nilOk h.2, hb.trans (h.1.mono hb.size)⟩

set_option maxRecDepth 100000 in
set_option maxHeartbeats 1600000 in
theorem const17_any (n : Nat) (c : Int) (w : World) (hn : n < B * B) :
    Calls Try.prog 96 #[numV n, .int .i64 c] w (RetVecN w (constBits n (max 0 (min c 256)).toNat)) := by
  obtain ⟨f, hf⟩ : ∃ f : Nat → Int, f = fun i => if bitB n (i : Nat) then 1 else 0 := ⟨_, rfl⟩
  obtain ⟨M, hM⟩ : ∃ M, M = (max 0 (min c 256)).toNat := ⟨_, rfl⟩
  have hMm : M ≤ 256 := by omega
  have HF : Hid (tab f M = constBits n M) := by rw [hf]; rfl
  have HH : Hid (∀ W, Calls Try.prog 68 #[.int .i64 c, .int .i64 0, .int .i64 256] W fun e w' => e = .returned (.int .i64 (M : Int)) ∧ W = w') := fun W => by
    have e : (if c < 0 then 0 else if 256 < c then 256 else c) = (M : Int) := by split <;> (try split) <;> omega
    rw [← e]; exact held_any c 0 256 W
  obtain ⟨y, z0, he, -, -⟩ := numV_parts n
  have HN : Hid (∀ (i : Nat) W, Calls Try.prog 134 #[.agg #[.int .u64 (y : Int), .int .u64 (z0 : Int)], .int .i64 (i : Int)] W fun e w' => e = .returned (.bool (bitB n (i : Nat))) ∧ Below W.heap.size W w') := by
    show ∀ _ _, _
    rw [← he]; exact fun i W => refBit_any n i hn W
  have HFB : Hid (∀ k : Nat, f k = if bitB n (k : Nat) then 1 else 0) := fun k => by rw [hf]
  have HR0 : Hid (RowN (w.alloc (.cells #[.int .u64 (y : Int), .int .u64 (z0 : Int)] 41)) [] (.slice none 0 0) (w.alloc (.cells #[.int .u64 (y : Int), .int .u64 (z0 : Int)] 41))) := RowN.start _
  rw [← hM]
  rw [he]
  clear hM hf he hn
  go_enter Try.func96, Try.ntmps96
  go_wp2_with fail
  obtain ⟨W0, hW0⟩ : ∃ W0, W0 = w.alloc (.cells #[.int .u64 (y : Int), .int .u64 (z0 : Int)] 41) := ⟨_, rfl⟩
  have c0 : W0.cell? ⟨w.heap.size, 0, none⟩ = some (.int .u64 (y : Int)) := by rw [hW0]; simp [go_sem]
  have c1 : W0.cell? ⟨w.heap.size, 1, none⟩ = some (.int .u64 (z0 : Int)) := by rw [hW0]; simp [go_sem]
  have HB0 : Hid (Below w.heap.size w W0) := by show Below _ _ _; rw [hW0]; exact (by repeat (first | exact Below.refl _ _ | assumption | refine Below.drew ?_ | refine Below.alloc ?_ (by first | omega | (simp <;> omega)) _ | refine Below.setCell ?_ (by first | omega | (simp <;> omega)) _ | refine Below.trans ?_ (Below.mono (by assumption) (by first | omega | (simp <;> omega)))))
  rw [← hW0] at HR0 ⊢
  clear hW0
  go_loopw [5, 6] (fun v i wr => ∃ (k : Nat) (p : Option Addr) (cp : Nat), k ≤ M ∧ i = .int .i64 k ∧ v = .slice p k cp ∧ Hid (RowN W0 (tab f k) (.slice p k cp) wr)) (fun _ i _ => M - (intOf i).toNat)
  case atStart => exact ⟨0, none, 0, Nat.zero_le _, rfl, rfl, HR0⟩
  case round =>
    obtain ⟨k, p, cp, hk, rfl, rfl, HK⟩ := hrel
    have hl := tab_len f k
    have HSS : Hid (tab f (k + 1) = tab f k ++ [f k]) := tab_succ f k
    have d0 := (HK.out.1.cell (p := ⟨w.heap.size, 0, none⟩) (cell_there c0).1).trans c0
    have d1 := (HK.out.1.cell (p := ⟨w.heap.size, 1, none⟩) (cell_there c1).1).trans c1
    by_cases hlt : k < M
    · have HX := Lib.hid (HN.out k wr)
      have hfk := HFB.out k
      generalize tab f k = zs at *
      generalize f k = z at *
      cases hbit : bitB n (k : Nat)
      all_goals
        rw [hbit] at HX hfk
        simp only [if_true, if_false, Bool.false_eq_true] at hfk
        subst hfk
        go_wp2_with (go_at_call 68; (with_reducible refine (HH.out _).mono ?_); rintro e w1 ⟨rfl, rfl⟩)
        refine HX.out.mono ?_
        rintro e w1 ⟨rfl, hb1⟩
        generalize wr = wo at *
        clear wr d0 d1
        generalize w1 = wr at *
        have HK : Hid (RowN W0 zs (.slice p k cp) wr) := HK.out.later hb1
        clear hb1 HX
      · have R2 := Lib.hid HK.out
        have hcell : (wr.alloc (.cells #[.int .i64 0] 3)).cell? ⟨wr.heap.size, 0, none⟩ = some (.int .i64 0) := by simp [go_sem]
        have hownA := R2.out.2.alloc (.cells #[.int .i64 0] 3)
        have hsz2 := R2.out.1.size
        have hzl : zs.length ≤ 2000000 := by omega
        go_wp2_with (at_builtin; refine append_one rfl (.tmp 19) (.tmp 20) rfl W0.heap.size _ zs rfl hownA wr.heap.size 0 rfl hcell hzl (by simp; omega) ?_; intro v3 w3 hown3 hgrow3 hwh3)
        have R3 : Hid (RowN W0 (zs ++ [0]) v3 w3) := R2.out.push hown3 hgrow3
        obtain ⟨p3, c3, rfl⟩ := R3.out.shape
        have hl3 : (zs ++ [0]).length = k + 1 := by simp; omega
        rw [hl3] at R3 ⊢
        clear hown3 hgrow3 hwh3 hownA hcell hl3
        go_roundw
        case rel => exact ⟨k + 1, p3, c3, by omega, by go_num, rfl, by rw [HSS.out]; exact R3.out⟩
        case measure => simp [intOf]; omega
      · have R2 := Lib.hid HK.out
        have hcell : (wr.alloc (.cells #[.int .i64 1] 3)).cell? ⟨wr.heap.size, 0, none⟩ = some (.int .i64 1) := by simp [go_sem]
        have hownA := R2.out.2.alloc (.cells #[.int .i64 1] 3)
        have hsz2 := R2.out.1.size
        have hzl : zs.length ≤ 2000000 := by omega
        go_wp2_with (at_builtin; refine append_one rfl (.tmp 16) (.tmp 17) rfl W0.heap.size _ zs rfl hownA wr.heap.size 1 rfl hcell hzl (by simp; omega) ?_; intro v3 w3 hown3 hgrow3 hwh3)
        have R3 : Hid (RowN W0 (zs ++ [1]) v3 w3) := R2.out.push hown3 hgrow3
        obtain ⟨p3, c3, rfl⟩ := R3.out.shape
        have hl3 : (zs ++ [1]).length = k + 1 := by simp; omega
        rw [hl3] at R3 ⊢
        clear hown3 hgrow3 hwh3 hownA hcell hl3
        go_roundw
        case rel => exact ⟨k + 1, p3, c3, by omega, by go_num, rfl, by rw [HSS.out]; exact R3.out⟩
        case measure => simp [intOf]; omega
    · obtain rfl : k = M := by omega
      have HE := Lib.hid (HK.out.ret_up HB0.out)
      rw [HF.out] at HE
      clear HF
      go_wp2_with (go_at_call 68; (with_reducible refine (HH.out _).mono ?_); rintro e w1 ⟨rfl, rfl⟩)
      go_ret
      exact HE.out

end Go.Proofs.Ytlnkflmnjkmhkaa
