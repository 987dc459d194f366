/-
  Lemmas, joined: RefV, Plays17.
-/
import Derived.Test.YtlnkflmnjkmhkaaJR14
import Derived.Test.YtlnkflmnjkmhkaaJR23
import Derived.Test.YtlnkflmnjkmhkaaJR25
/-
  Contracts of the reference's And, Or, Xor and Mux of vectors, by the plain laws.
-/
namespace Go.Proofs.Ytlnkflmnjkmhkaa
open Go.RowKit Go.Maps

set_option maxRecDepth 100000 in
set_option maxHeartbeats 400000 in
theorem wide17_any (va vb : Value) (xs ys : List Int) (w : World) (ha : IVec w va xs) (hb : IVec w vb ys) (hxl : xs.length ≤ 1000000) (hyl : ys.length ≤ 1000000) :
    Calls Try.prog 143 #[va, vb] w fun e w' => e = .returned (.int .i64 ((max xs.length ys.length : Nat) : Int)) ∧ w = w' := by
  obtain ⟨pa, ca, rfl, -⟩ := ha.shape
  obtain ⟨pb, cb, rfl, -⟩ := hb.shape
  clear ha hb
  by_cases h : ys.length < xs.length
  · rw [show max xs.length ys.length = xs.length by omega]
    go_enter Try.func143, Try.ntmps143
    go_wp2
    go_ret
    exact ⟨rfl, rfl⟩
  · rw [show max xs.length ys.length = ys.length by omega]
    go_enter Try.func143, Try.ntmps143
    go_wp2
    go_ret
    exact ⟨rfl, rfl⟩

set_option maxRecDepth 100000 in
set_option maxHeartbeats 1600000 in
theorem and17_rs (b : Nat) (O : Nat → Prop) (s : BS) (va vb : Value) (xs ys : List Int) (w : World) (hs : RSto w b O s) (ha : IVecX w O va xs) (hb : IVecX w O vb ys) (hxl : xs.length ≤ 1000000) (hyl : ys.length ≤ 1000000) :
    Calls Try.prog 97 #[.pointer (some ⟨b, 0, none⟩), va, vb] w (RetVR b O w (zipS andF xs ys (max xs.length ys.length) s)) := by
  have HR0 : Hid (RowAt b O w s [] (.slice none 0 0) w) := RowAt.start hs
  have HWD : Hid (∀ wr s' zs v, RowAt b O w s' zs v wr → Calls Try.prog 143 #[va, vb] wr fun e w' => e = .returned (.int .i64 ((max xs.length ys.length : Nat) : Int)) ∧ wr = w') := fun wr s' zs v h => wide17_any va vb xs ys wr (h.vec ha) (h.vec hb) hxl hyl
  have HBA : Hid (∀ wr s' zs v (i : Nat), i ≤ 1000000 → RowAt b O w s' zs v wr → Calls Try.prog 95 #[va, .int .i64 (i : Int)] wr fun e w' => e = .returned (.int .i64 (xs.getD i 0)) ∧ wr = w') := fun wr s' zs v i hi h => bit17_any va xs i wr (h.vec ha) hxl hi
  have HBB : Hid (∀ wr s' zs v (i : Nat), i ≤ 1000000 → RowAt b O w s' zs v wr → Calls Try.prog 95 #[vb, .int .i64 (i : Int)] wr fun e w' => e = .returned (.int .i64 (ys.getD i 0)) ∧ wr = w') := fun wr s' zs v i hi h => bit17_any vb ys i wr (h.vec hb) hyl hi
  obtain ⟨M, hM⟩ : ∃ M, M = max xs.length ys.length := ⟨_, rfl⟩
  have hMm : M ≤ 1000000 := by omega
  rw [← hM] at HWD ⊢
  clear hM hs ha hb
  go_enter Try.func97, Try.ntmps97
  go_wp2_with fail
  go_loopw [7, 8] (fun v i wr => ∃ (k : Nat) (p : Option Addr) (cp : Nat), k ≤ M ∧ i = .int .i64 k ∧ v = .slice p k cp ∧ Hid (RowAt b O w (zipS andF xs ys k s).1 (zipS andF xs ys k s).2 (.slice p k cp) wr)) (fun _ i _ => M - (intOf i).toNat)
  case atStart => exact ⟨0, none, 0, Nat.zero_le _, rfl, rfl, HR0⟩
  case round =>
    obtain ⟨k, p, cp, hk, rfl, rfl, HK⟩ := hrel
    have hl := zipS_len andF xs ys k s
    have HSS : Hid (zipS andF xs ys (k + 1) s = ((andF (zipS andF xs ys k s).1 (xs.getD k 0) (ys.getD k 0)).1, (zipS andF xs ys k s).2 ++ [(andF (zipS andF xs ys k s).1 (xs.getD k 0) (ys.getD k 0)).2])) := rfl
    have HEND : Hid (k = M → RetVR b O w (zipS andF xs ys M s) (.returned (.slice p k cp)) wr) := fun e => by rw [← e]; exact HK.out.ret
    generalize zipS andF xs ys k s = st at *
    obtain ⟨s0, zs⟩ := st
    dsimp only at HK HSS hl ⊢
    have HWK := Lib.hid (HWD.out wr _ _ _ HK.out)
    have HLZ := Lib.hid hl
    clear hl
    by_cases hlt : k < M
    · have HX1 := Lib.hid (HBA.out wr _ _ _ k (by omega) HK.out)
      have HX2 := Lib.hid (HBB.out wr _ _ _ k (by omega) HK.out)
      clear HEND HWD HBA HBB HR0
      generalize xs.getD k 0 = x at *
      generalize ys.getD k 0 = y at *
      have H1 : Hid (Calls Try.prog 131 #[.pointer (some ⟨b, 0, none⟩), .int .i64 x, .int .i64 y] wr fun e w1 => e = .returned (.int .i64 (andF s0 x y).2) ∧ RowAt b O w (andF s0 x y).1 zs (.slice p k cp) w1) := HK.out.calls fun O1 h => and_rs b O1 s0 x y wr h
      generalize andF s0 x y = r1 at *
      obtain ⟨s1, i1⟩ := r1
      dsimp only at H1 HSS ⊢
      go_wp2_with (first
        | (go_at_call 143; (with_reducible refine HWK.out.mono ?_); rintro e w1 ⟨rfl, rfl⟩)
        | (go_at_call 95; (with_reducible refine HX1.out.mono ?_); rintro e w1 ⟨rfl, rfl⟩)
        | (go_at_call 95; (with_reducible refine HX2.out.mono ?_); rintro e w1 ⟨rfl, rfl⟩))
      refine H1.out.mono ?_
      rintro e w2 ⟨rfl, h2⟩
      have R2 := Lib.hid h2
      clear h2 H1
      have hcell : (w2.alloc (.cells #[.int .i64 i1] 3)).cell? ⟨w2.heap.size, 0, none⟩ = some (.int .i64 i1) := by simp [go_sem]
      have hownA := R2.out.own.1.alloc (.cells #[.int .i64 i1] 3)
      have hzl : zs.length ≤ 2000000 := by have := HLZ.out; omega
      have hsz2 := R2.out.own.2
      go_wp2_with (at_builtin; refine append_one rfl (.tmp 16) (.tmp 25) rfl w.heap.size _ zs rfl hownA w2.heap.size i1 rfl hcell hzl (by simp; omega) ?_; intro v3 w3 hown3 hgrow3 hwh3)
      have R3 : Hid (RowAt b O w s1 (zs ++ [i1]) v3 w3) := R2.out.push hown3 hgrow3 hwh3
      obtain ⟨p3, c3, rfl⟩ := R3.out.shape
      have hl3 : (zs ++ [i1]).length = k + 1 := by have := HLZ.out; simp; omega
      rw [hl3] at R3 ⊢
      clear hown3 hgrow3 hwh3 hownA hcell R2 hl3
      go_roundw
      case rel => exact ⟨k + 1, p3, c3, by omega, by go_num, rfl, by rw [HSS.out]; exact R3.out⟩
      case measure => simp [intOf]; omega
    · obtain rfl : k = M := by omega
      have HE := Lib.hid (HEND.out rfl)
      clear HEND
      go_wp2_with ((with_reducible refine HWK.out.mono ?_); rintro e w1 ⟨rfl, rfl⟩)
      go_ret
      exact HE.out

set_option maxRecDepth 100000 in
set_option maxHeartbeats 1600000 in
theorem or17_rs (b : Nat) (O : Nat → Prop) (s : BS) (va vb : Value) (xs ys : List Int) (w : World) (hs : RSto w b O s) (ha : IVecX w O va xs) (hb : IVecX w O vb ys) (hxl : xs.length ≤ 1000000) (hyl : ys.length ≤ 1000000) :
    Calls Try.prog 98 #[.pointer (some ⟨b, 0, none⟩), va, vb] w (RetVR b O w (zipS orF xs ys (max xs.length ys.length) s)) := by
  have HR0 : Hid (RowAt b O w s [] (.slice none 0 0) w) := RowAt.start hs
  have HWD : Hid (∀ wr s' zs v, RowAt b O w s' zs v wr → Calls Try.prog 143 #[va, vb] wr fun e w' => e = .returned (.int .i64 ((max xs.length ys.length : Nat) : Int)) ∧ wr = w') := fun wr s' zs v h => wide17_any va vb xs ys wr (h.vec ha) (h.vec hb) hxl hyl
  have HBA : Hid (∀ wr s' zs v (i : Nat), i ≤ 1000000 → RowAt b O w s' zs v wr → Calls Try.prog 95 #[va, .int .i64 (i : Int)] wr fun e w' => e = .returned (.int .i64 (xs.getD i 0)) ∧ wr = w') := fun wr s' zs v i hi h => bit17_any va xs i wr (h.vec ha) hxl hi
  have HBB : Hid (∀ wr s' zs v (i : Nat), i ≤ 1000000 → RowAt b O w s' zs v wr → Calls Try.prog 95 #[vb, .int .i64 (i : Int)] wr fun e w' => e = .returned (.int .i64 (ys.getD i 0)) ∧ wr = w') := fun wr s' zs v i hi h => bit17_any vb ys i wr (h.vec hb) hyl hi
  obtain ⟨M, hM⟩ : ∃ M, M = max xs.length ys.length := ⟨_, rfl⟩
  have hMm : M ≤ 1000000 := by omega
  rw [← hM] at HWD ⊢
  clear hM hs ha hb
  go_enter Try.func98, Try.ntmps98
  go_wp2_with fail
  go_loopw [7, 8] (fun v i wr => ∃ (k : Nat) (p : Option Addr) (cp : Nat), k ≤ M ∧ i = .int .i64 k ∧ v = .slice p k cp ∧ Hid (RowAt b O w (zipS orF xs ys k s).1 (zipS orF xs ys k s).2 (.slice p k cp) wr)) (fun _ i _ => M - (intOf i).toNat)
  case atStart => exact ⟨0, none, 0, Nat.zero_le _, rfl, rfl, HR0⟩
  case round =>
    obtain ⟨k, p, cp, hk, rfl, rfl, HK⟩ := hrel
    have hl := zipS_len orF xs ys k s
    have HSS : Hid (zipS orF xs ys (k + 1) s = ((orF (zipS orF xs ys k s).1 (xs.getD k 0) (ys.getD k 0)).1, (zipS orF xs ys k s).2 ++ [(orF (zipS orF xs ys k s).1 (xs.getD k 0) (ys.getD k 0)).2])) := rfl
    have HEND : Hid (k = M → RetVR b O w (zipS orF xs ys M s) (.returned (.slice p k cp)) wr) := fun e => by rw [← e]; exact HK.out.ret
    generalize zipS orF xs ys k s = st at *
    obtain ⟨s0, zs⟩ := st
    dsimp only at HK HSS hl ⊢
    have HWK := Lib.hid (HWD.out wr _ _ _ HK.out)
    have HLZ := Lib.hid hl
    clear hl
    by_cases hlt : k < M
    · have HX1 := Lib.hid (HBA.out wr _ _ _ k (by omega) HK.out)
      have HX2 := Lib.hid (HBB.out wr _ _ _ k (by omega) HK.out)
      clear HEND HWD HBA HBB HR0
      generalize xs.getD k 0 = x at *
      generalize ys.getD k 0 = y at *
      have H1 : Hid (Calls Try.prog 133 #[.pointer (some ⟨b, 0, none⟩), .int .i64 x, .int .i64 y] wr fun e w1 => e = .returned (.int .i64 (orF s0 x y).2) ∧ RowAt b O w (orF s0 x y).1 zs (.slice p k cp) w1) := HK.out.calls fun O1 h => or_rs b O1 s0 x y wr h
      generalize orF s0 x y = r1 at *
      obtain ⟨s1, i1⟩ := r1
      dsimp only at H1 HSS ⊢
      go_wp2_with (first
        | (go_at_call 143; (with_reducible refine HWK.out.mono ?_); rintro e w1 ⟨rfl, rfl⟩)
        | (go_at_call 95; (with_reducible refine HX1.out.mono ?_); rintro e w1 ⟨rfl, rfl⟩)
        | (go_at_call 95; (with_reducible refine HX2.out.mono ?_); rintro e w1 ⟨rfl, rfl⟩))
      refine H1.out.mono ?_
      rintro e w2 ⟨rfl, h2⟩
      have R2 := Lib.hid h2
      clear h2 H1
      have hcell : (w2.alloc (.cells #[.int .i64 i1] 3)).cell? ⟨w2.heap.size, 0, none⟩ = some (.int .i64 i1) := by simp [go_sem]
      have hownA := R2.out.own.1.alloc (.cells #[.int .i64 i1] 3)
      have hzl : zs.length ≤ 2000000 := by have := HLZ.out; omega
      have hsz2 := R2.out.own.2
      go_wp2_with (at_builtin; refine append_one rfl (.tmp 16) (.tmp 25) rfl w.heap.size _ zs rfl hownA w2.heap.size i1 rfl hcell hzl (by simp; omega) ?_; intro v3 w3 hown3 hgrow3 hwh3)
      have R3 : Hid (RowAt b O w s1 (zs ++ [i1]) v3 w3) := R2.out.push hown3 hgrow3 hwh3
      obtain ⟨p3, c3, rfl⟩ := R3.out.shape
      have hl3 : (zs ++ [i1]).length = k + 1 := by have := HLZ.out; simp; omega
      rw [hl3] at R3 ⊢
      clear hown3 hgrow3 hwh3 hownA hcell R2 hl3
      go_roundw
      case rel => exact ⟨k + 1, p3, c3, by omega, by go_num, rfl, by rw [HSS.out]; exact R3.out⟩
      case measure => simp [intOf]; omega
    · obtain rfl : k = M := by omega
      have HE := Lib.hid (HEND.out rfl)
      clear HEND
      go_wp2_with ((with_reducible refine HWK.out.mono ?_); rintro e w1 ⟨rfl, rfl⟩)
      go_ret
      exact HE.out

set_option maxRecDepth 100000 in
set_option maxHeartbeats 1600000 in
theorem xor17_rs (b : Nat) (O : Nat → Prop) (s : BS) (va vb : Value) (xs ys : List Int) (w : World) (hs : RSto w b O s) (ha : IVecX w O va xs) (hb : IVecX w O vb ys) (hxl : xs.length ≤ 1000000) (hyl : ys.length ≤ 1000000) :
    Calls Try.prog 99 #[.pointer (some ⟨b, 0, none⟩), va, vb] w (RetVR b O w (zipS xorF xs ys (max xs.length ys.length) s)) := by
  have HR0 : Hid (RowAt b O w s [] (.slice none 0 0) w) := RowAt.start hs
  have HWD : Hid (∀ wr s' zs v, RowAt b O w s' zs v wr → Calls Try.prog 143 #[va, vb] wr fun e w' => e = .returned (.int .i64 ((max xs.length ys.length : Nat) : Int)) ∧ wr = w') := fun wr s' zs v h => wide17_any va vb xs ys wr (h.vec ha) (h.vec hb) hxl hyl
  have HBA : Hid (∀ wr s' zs v (i : Nat), i ≤ 1000000 → RowAt b O w s' zs v wr → Calls Try.prog 95 #[va, .int .i64 (i : Int)] wr fun e w' => e = .returned (.int .i64 (xs.getD i 0)) ∧ wr = w') := fun wr s' zs v i hi h => bit17_any va xs i wr (h.vec ha) hxl hi
  have HBB : Hid (∀ wr s' zs v (i : Nat), i ≤ 1000000 → RowAt b O w s' zs v wr → Calls Try.prog 95 #[vb, .int .i64 (i : Int)] wr fun e w' => e = .returned (.int .i64 (ys.getD i 0)) ∧ wr = w') := fun wr s' zs v i hi h => bit17_any vb ys i wr (h.vec hb) hyl hi
  obtain ⟨M, hM⟩ : ∃ M, M = max xs.length ys.length := ⟨_, rfl⟩
  have hMm : M ≤ 1000000 := by omega
  rw [← hM] at HWD ⊢
  clear hM hs ha hb
  go_enter Try.func99, Try.ntmps99
  go_wp2_with fail
  go_loopw [7, 8] (fun v i wr => ∃ (k : Nat) (p : Option Addr) (cp : Nat), k ≤ M ∧ i = .int .i64 k ∧ v = .slice p k cp ∧ Hid (RowAt b O w (zipS xorF xs ys k s).1 (zipS xorF xs ys k s).2 (.slice p k cp) wr)) (fun _ i _ => M - (intOf i).toNat)
  case atStart => exact ⟨0, none, 0, Nat.zero_le _, rfl, rfl, HR0⟩
  case round =>
    obtain ⟨k, p, cp, hk, rfl, rfl, HK⟩ := hrel
    have hl := zipS_len xorF xs ys k s
    have HSS : Hid (zipS xorF xs ys (k + 1) s = ((xorF (zipS xorF xs ys k s).1 (xs.getD k 0) (ys.getD k 0)).1, (zipS xorF xs ys k s).2 ++ [(xorF (zipS xorF xs ys k s).1 (xs.getD k 0) (ys.getD k 0)).2])) := rfl
    have HEND : Hid (k = M → RetVR b O w (zipS xorF xs ys M s) (.returned (.slice p k cp)) wr) := fun e => by rw [← e]; exact HK.out.ret
    generalize zipS xorF xs ys k s = st at *
    obtain ⟨s0, zs⟩ := st
    dsimp only at HK HSS hl ⊢
    have HWK := Lib.hid (HWD.out wr _ _ _ HK.out)
    have HLZ := Lib.hid hl
    clear hl
    by_cases hlt : k < M
    · have HX1 := Lib.hid (HBA.out wr _ _ _ k (by omega) HK.out)
      have HX2 := Lib.hid (HBB.out wr _ _ _ k (by omega) HK.out)
      clear HEND HWD HBA HBB HR0
      generalize xs.getD k 0 = x at *
      generalize ys.getD k 0 = y at *
      have H1 : Hid (Calls Try.prog 129 #[.pointer (some ⟨b, 0, none⟩), .int .i64 x, .int .i64 y] wr fun e w1 => e = .returned (.int .i64 (xorF s0 x y).2) ∧ RowAt b O w (xorF s0 x y).1 zs (.slice p k cp) w1) := HK.out.calls fun O1 h => xor_rs b O1 s0 x y wr h
      generalize xorF s0 x y = r1 at *
      obtain ⟨s1, i1⟩ := r1
      dsimp only at H1 HSS ⊢
      go_wp2_with (first
        | (go_at_call 143; (with_reducible refine HWK.out.mono ?_); rintro e w1 ⟨rfl, rfl⟩)
        | (go_at_call 95; (with_reducible refine HX1.out.mono ?_); rintro e w1 ⟨rfl, rfl⟩)
        | (go_at_call 95; (with_reducible refine HX2.out.mono ?_); rintro e w1 ⟨rfl, rfl⟩))
      refine H1.out.mono ?_
      rintro e w2 ⟨rfl, h2⟩
      have R2 := Lib.hid h2
      clear h2 H1
      have hcell : (w2.alloc (.cells #[.int .i64 i1] 3)).cell? ⟨w2.heap.size, 0, none⟩ = some (.int .i64 i1) := by simp [go_sem]
      have hownA := R2.out.own.1.alloc (.cells #[.int .i64 i1] 3)
      have hzl : zs.length ≤ 2000000 := by have := HLZ.out; omega
      have hsz2 := R2.out.own.2
      go_wp2_with (at_builtin; refine append_one rfl (.tmp 16) (.tmp 25) rfl w.heap.size _ zs rfl hownA w2.heap.size i1 rfl hcell hzl (by simp; omega) ?_; intro v3 w3 hown3 hgrow3 hwh3)
      have R3 : Hid (RowAt b O w s1 (zs ++ [i1]) v3 w3) := R2.out.push hown3 hgrow3 hwh3
      obtain ⟨p3, c3, rfl⟩ := R3.out.shape
      have hl3 : (zs ++ [i1]).length = k + 1 := by have := HLZ.out; simp; omega
      rw [hl3] at R3 ⊢
      clear hown3 hgrow3 hwh3 hownA hcell R2 hl3
      go_roundw
      case rel => exact ⟨k + 1, p3, c3, by omega, by go_num, rfl, by rw [HSS.out]; exact R3.out⟩
      case measure => simp [intOf]; omega
    · obtain rfl : k = M := by omega
      have HE := Lib.hid (HEND.out rfl)
      clear HEND
      go_wp2_with ((with_reducible refine HWK.out.mono ?_); rintro e w1 ⟨rfl, rfl⟩)
      go_ret
      exact HE.out

set_option maxRecDepth 100000 in
set_option maxHeartbeats 1600000 in
theorem mux17_rs (b : Nat) (O : Nat → Prop) (s : BS) (c : Int) (va vb : Value) (xs ys : List Int) (w : World) (hs : RSto w b O s) (ha : IVecX w O va xs) (hb : IVecX w O vb ys) (hxl : xs.length ≤ 1000000) (hyl : ys.length ≤ 1000000) :
    Calls Try.prog 101 #[.pointer (some ⟨b, 0, none⟩), .int .i64 c, va, vb] w (RetVR b O w (zipS (fun s x y => iteF s c x y) xs ys (max xs.length ys.length) s)) := by
  have HR0 : Hid (RowAt b O w s [] (.slice none 0 0) w) := RowAt.start hs
  have HWD : Hid (∀ wr s' zs v, RowAt b O w s' zs v wr → Calls Try.prog 143 #[va, vb] wr fun e w' => e = .returned (.int .i64 ((max xs.length ys.length : Nat) : Int)) ∧ wr = w') := fun wr s' zs v h => wide17_any va vb xs ys wr (h.vec ha) (h.vec hb) hxl hyl
  have HBA : Hid (∀ wr s' zs v (i : Nat), i ≤ 1000000 → RowAt b O w s' zs v wr → Calls Try.prog 95 #[va, .int .i64 (i : Int)] wr fun e w' => e = .returned (.int .i64 (xs.getD i 0)) ∧ wr = w') := fun wr s' zs v i hi h => bit17_any va xs i wr (h.vec ha) hxl hi
  have HBB : Hid (∀ wr s' zs v (i : Nat), i ≤ 1000000 → RowAt b O w s' zs v wr → Calls Try.prog 95 #[vb, .int .i64 (i : Int)] wr fun e w' => e = .returned (.int .i64 (ys.getD i 0)) ∧ wr = w') := fun wr s' zs v i hi h => bit17_any vb ys i wr (h.vec hb) hyl hi
  obtain ⟨M, hM⟩ : ∃ M, M = max xs.length ys.length := ⟨_, rfl⟩
  have hMm : M ≤ 1000000 := by omega
  rw [← hM] at HWD ⊢
  clear hM hs ha hb
  go_enter Try.func101, Try.ntmps101
  go_wp2_with fail
  go_loopw [9, 10] (fun v i wr => ∃ (k : Nat) (p : Option Addr) (cp : Nat), k ≤ M ∧ i = .int .i64 k ∧ v = .slice p k cp ∧ Hid (RowAt b O w (zipS (fun s x y => iteF s c x y) xs ys k s).1 (zipS (fun s x y => iteF s c x y) xs ys k s).2 (.slice p k cp) wr)) (fun _ i _ => M - (intOf i).toNat)
  case atStart => exact ⟨0, none, 0, Nat.zero_le _, rfl, rfl, HR0⟩
  case round =>
    obtain ⟨k, p, cp, hk, rfl, rfl, HK⟩ := hrel
    have hl := zipS_len (fun s x y => iteF s c x y) xs ys k s
    have HSS : Hid (zipS (fun s x y => iteF s c x y) xs ys (k + 1) s = ((iteF (zipS (fun s x y => iteF s c x y) xs ys k s).1 c (xs.getD k 0) (ys.getD k 0)).1, (zipS (fun s x y => iteF s c x y) xs ys k s).2 ++ [(iteF (zipS (fun s x y => iteF s c x y) xs ys k s).1 c (xs.getD k 0) (ys.getD k 0)).2])) := rfl
    have HEND : Hid (k = M → RetVR b O w (zipS (fun s x y => iteF s c x y) xs ys M s) (.returned (.slice p k cp)) wr) := fun e => by rw [← e]; exact HK.out.ret
    generalize zipS (fun s x y => iteF s c x y) xs ys k s = st at *
    obtain ⟨s0, zs⟩ := st
    dsimp only at HK HSS hl ⊢
    have HWK := Lib.hid (HWD.out wr _ _ _ HK.out)
    have HLZ := Lib.hid hl
    clear hl
    by_cases hlt : k < M
    · have HX1 := Lib.hid (HBA.out wr _ _ _ k (by omega) HK.out)
      have HX2 := Lib.hid (HBB.out wr _ _ _ k (by omega) HK.out)
      clear HEND HWD HBA HBB HR0
      generalize xs.getD k 0 = x at *
      generalize ys.getD k 0 = y at *
      have H1 : Hid (Calls Try.prog 132 #[.pointer (some ⟨b, 0, none⟩), .int .i64 c, .int .i64 x, .int .i64 y] wr fun e w1 => e = .returned (.int .i64 (iteF s0 c x y).2) ∧ RowAt b O w (iteF s0 c x y).1 zs (.slice p k cp) w1) := HK.out.calls fun O1 h => ite_rs b O1 s0 c x y wr h
      generalize iteF s0 c x y = r1 at *
      obtain ⟨s1, i1⟩ := r1
      dsimp only at H1 HSS ⊢
      go_wp2_with (first
        | (go_at_call 143; (with_reducible refine HWK.out.mono ?_); rintro e w1 ⟨rfl, rfl⟩)
        | (go_at_call 95; (with_reducible refine HX1.out.mono ?_); rintro e w1 ⟨rfl, rfl⟩)
        | (go_at_call 95; (with_reducible refine HX2.out.mono ?_); rintro e w1 ⟨rfl, rfl⟩))
      refine H1.out.mono ?_
      rintro e w2 ⟨rfl, h2⟩
      have R2 := Lib.hid h2
      clear h2 H1
      have hcell : (w2.alloc (.cells #[.int .i64 i1] 3)).cell? ⟨w2.heap.size, 0, none⟩ = some (.int .i64 i1) := by simp [go_sem]
      have hownA := R2.out.own.1.alloc (.cells #[.int .i64 i1] 3)
      have hzl : zs.length ≤ 2000000 := by have := HLZ.out; omega
      have hsz2 := R2.out.own.2
      go_wp2_with (at_builtin; refine append_one rfl (.tmp 18) (.tmp 28) rfl w.heap.size _ zs rfl hownA w2.heap.size i1 rfl hcell hzl (by simp; omega) ?_; intro v3 w3 hown3 hgrow3 hwh3)
      have R3 : Hid (RowAt b O w s1 (zs ++ [i1]) v3 w3) := R2.out.push hown3 hgrow3 hwh3
      obtain ⟨p3, c3, rfl⟩ := R3.out.shape
      have hl3 : (zs ++ [i1]).length = k + 1 := by have := HLZ.out; simp; omega
      rw [hl3] at R3 ⊢
      clear hown3 hgrow3 hwh3 hownA hcell R2 hl3
      go_roundw
      case rel => exact ⟨k + 1, p3, c3, by omega, by go_num, rfl, by rw [HSS.out]; exact R3.out⟩
      case measure => simp [intOf]; omega
    · obtain rfl : k = M := by omega
      have HE := Lib.hid (HEND.out rfl)
      clear HEND
      go_wp2_with ((with_reducible refine HWK.out.mono ?_); rintro e w1 ⟨rfl, rfl⟩)
      go_ret
      exact HE.out

end Go.Proofs.Ytlnkflmnjkmhkaa

/-
  The law SymbvPlays of layer 17: which vectors are asked for, and whether the calls are too many.
-/
namespace Go.Proofs.Ytlnkflmnjkmhkaa
open Go.RowKit Go.Maps

/-- What is asked for, by how far it is back. -/
def atV (n : Nat) (vals : Nat → Value) (i : Int) : Value := if i < 0 ∨ n = 0 then .slice none 0 0 else vals (n - 1 - i.toNat % n)
def atX (n : Nat) (xs : Nat → List Int) (i : Int) : List Int := if i < 0 ∨ n = 0 then [] else xs (n - 1 - i.toNat % n)

set_option maxRecDepth 100000 in
set_option maxHeartbeats 1600000 in
theorem at17_any (pa : Option Addr) (n cp : Nat) (vals : Nat → Value) (i : Int) (w : World) (hn : n ≤ 1000) (hc : n ≤ cp) (hb : 0 < n → ∃ ra, pa = some ⟨ra, 0, none⟩ ∧ ∀ j, j < n → w.cell? ⟨ra, j, none⟩ = some (vals j)) (hsh : ∀ j, j < n → ∃ p m c, vals j = .slice p m c) :
    Calls Try.prog 94 #[.slice pa n cp, .int .i64 i] w fun e w' => e = .returned (atV n vals i) ∧ w = w' := by
  by_cases hi : i < 0
  · have HE : Hid (atV n vals i = .slice none 0 0) := by show _ = _; unfold atV; rw [if_pos (.inl hi)]
    clear hb hsh
    go_enter Try.func94, Try.ntmps94
    go_wp2_with fail
    go_ret
    exact ⟨by rw [HE.out]; rfl, rfl⟩
  · by_cases h0 : n = 0
    · have HE : Hid (atV n vals i = .slice none 0 0) := by show _ = _; unfold atV; rw [if_pos (.inr h0)]
      clear hb hsh
      subst h0
      go_enter Try.func94, Try.ntmps94
      go_wp2_with fail
      go_ret
      exact ⟨by rw [HE.out]; rfl, rfl⟩
    · have HE : Hid (atV n vals i = vals (n - 1 - i.toNat % n)) := by show _ = _; unfold atV; rw [if_neg (by omega)]
      obtain ⟨u, rfl⟩ : ∃ u : Nat, i = (u : Int) := ⟨i.toNat, by omega⟩
      obtain ⟨ra, rfl, hv⟩ := hb (by omega)
      rw [show ((u : Int)).toNat = u by omega] at HE
      obtain ⟨m, hm⟩ : ∃ m : Nat, m = u % n := ⟨_, rfl⟩
      rw [← hm] at HE
      have hmn : m < n := by rw [hm]; exact Nat.mod_lt _ (by omega)
      have hmod : (u : Int).tmod (n : Int) = (m : Int) := by rw [hm]; rfl
      have hwm : IntKind.i64.wrap (m : Int) = (m : Int) := IntWalk.i64_in _ (by omega)
      have hj : n - 1 - m < n := by omega
      have hcell := hv (n - 1 - m) hj
      obtain ⟨p, k, c, hval⟩ := hsh (n - 1 - m) hj
      rw [hval] at hcell HE
      have hix : ((n : Int) - 1 - (m : Int)) = ((n - 1 - m : Nat) : Int) := by omega
      clear hv hsh hval hm
      go_enter Try.func94, Try.ntmps94
      go_wp2_with fail
      go_ret
      exact ⟨by rw [HE.out]; rfl, rfl⟩

def OpsAt17 (w : World) (va : Value) (n : Nat) : Prop := ∃ pa cap, va = .slice pa n cap ∧ n ≤ maxLen ∧ (0 < n → ∃ d off, pa = some ⟨d, off, none⟩ ∧ d < w.heap.size ∧ ∀ k, k < n →
  ∃ (kind oa ob oc ok ol : Int) (n0 n1 : Nat), n0 < B ∧ n1 < B ∧ (-9223372036854775808 ≤ ok ∧ ok ≤ 9223372036854775807) ∧ w.cell? ⟨d, off + k * 8, none⟩ = some (.int .i64 kind) ∧ w.cell? ⟨d, off + k * 8 + 1, none⟩ = some (.int .i64 oa) ∧ w.cell? ⟨d, off + k * 8 + 2, none⟩ = some (.int .i64 ob) ∧
    w.cell? ⟨d, off + k * 8 + 3, none⟩ = some (.int .i64 oc) ∧ w.cell? ⟨d, off + k * 8 + 4, none⟩ = some (.int .i64 ok) ∧ w.cell? ⟨d, off + k * 8 + 5, none⟩ = some (.int .i64 ol) ∧ w.cell? ⟨d, off + k * 8 + 6, none⟩ = some (.int .u64 (n0 : Int)) ∧ w.cell? ⟨d, off + k * 8 + 7, none⟩ = some (.int .u64 (n1 : Int)))

/-- How great answers: false only of few calls. -/
def GreatR (n : Nat) (e : Ending) : Prop := ∃ r : Bool, e = .returned (.bool r) ∧ (r = false → n ≤ 14)

set_option maxRecDepth 100000 in
set_option maxHeartbeats 3000000 in
theorem great17_any (pa : Option Addr) (n cp : Nat) (w : World) (h : OpsAt17 w (.slice pa n cp) n) :
    Calls Try.prog 42 #[.slice pa n cp] w fun e w' => GreatR n e ∧ Below w.heap.size w w' := by
  obtain ⟨pa', cp', e, hn, hops⟩ := h
  simp only [Value.slice.injEq] at e
  obtain ⟨e1, -, -⟩ := e
  subst e1
  have hn : n ≤ 9223372036854775807 := by unfold maxLen at hn; omega
  have HO := Lib.hid hops
  clear hops
  go_enter Try.func42, Try.ntmps42
  go_wp2_with fail
  go_loopw [7] (fun i wr => ∃ k : Nat, k ≤ n ∧ i = .int .i64 k ∧ Hid (Below w.heap.size w wr)) (fun i _ => n - (intOf i).toNat)
  case atStart => exact ⟨0, Nat.zero_le _, rfl, Below.refl _ _⟩
  case round =>
    obtain ⟨k, hk, rfl, HB⟩ := hrel
    by_cases hlt : k < n
    · obtain ⟨d, off, rfl, hd, hops⟩ := HO.out (by omega)
      obtain ⟨kind, oa, ob, oc, ok, ol, n0, n1, b0, b1, -, q0, q1, q2, q3, q4, q5, q6, q7⟩ := hops k hlt
      have hbl := HB.out
      have r0 := (hbl.cell (p := ⟨d, off + k * 8, none⟩) hd).trans q0
      have r1 := (hbl.cell (p := ⟨d, off + k * 8 + 1, none⟩) hd).trans q1
      have r2 := (hbl.cell (p := ⟨d, off + k * 8 + 2, none⟩) hd).trans q2
      have r3 := (hbl.cell (p := ⟨d, off + k * 8 + 3, none⟩) hd).trans q3
      have r4 := (hbl.cell (p := ⟨d, off + k * 8 + 4, none⟩) hd).trans q4
      have r5 := (hbl.cell (p := ⟨d, off + k * 8 + 5, none⟩) hd).trans q5
      have r6 := (hbl.cell (p := ⟨d, off + k * 8 + 6, none⟩) hd).trans q6
      have r7 := (hbl.cell (p := ⟨d, off + k * 8 + 7, none⟩) hd).trans q7
      have HB2 : Hid (∀ o, Below w.heap.size w (wr.alloc o)) := fun o => hbl.alloc hbl.size o
      clear hops hbl q0 q1 q2 q3 q4 q5 q6 q7
      go_wp2_with fail
      all_goals first
        | (go_ret; exact ⟨⟨_, rfl, fun h => by cases h⟩, HB2.out _⟩)
        | (go_roundw
           case rel => exact ⟨k + 1, by omega, by go_num, HB2.out _⟩
           case measure => simp [intOf]; omega)
    · obtain rfl : k = n := by omega
      have H14 : Hid (decide (14 < (k : Int)) = false → k ≤ 14) := fun h => by simp at h; omega
      go_wp2_with fail
      go_ret
      exact ⟨⟨_, rfl, H14.out⟩, HB.out⟩

end Go.Proofs.Ytlnkflmnjkmhkaa
