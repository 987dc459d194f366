/-
  Lemmas, joined: RefS4, VecS3, RefS5, VecP2.
-/
import Derived.Test.YtlnkflmnjkmhkaaJR14
import Derived.Test.YtlnkflmnjkmhkaaJR15
import Derived.Test.YtlnkflmnjkmhkaaJR19
import Derived.Test.YtlnkflmnjkmhkaaJR13
import Derived.Test.YtlnkflmnjkmhkaaJR09
/-
  Contracts of the reference's truths: Eq, Less, AtMost, Any, Agrees, by the plain laws.
-/
namespace Go.Proofs.Ytlnkflmnjkmhkaa
open Go.RowKit Go.Maps

variable {b : Nat} {O : Nat → Prop} {w wr w1 : World} {s s1 : BS}

theorem ToRS.refl (h : RSto w b O s) : ToRS b O w s w := ⟨O, h, Ext.refl _ _⟩
theorem ToRS.vec {va : Value} {xs : List Int} (h : ToRS b O w s wr) (ha : IVecX w O va xs) : IVec wr va xs := by
  obtain ⟨O1, h1, h2⟩ := h
  exact (ha.ext h2).1
theorem ToRS.calls {f : Nat} {av : Array Value} {r : BS × Int} (h : ToRS b O w s wr) (hf : ∀ O1, RSto wr b O1 s → Calls Try.prog f av wr (RetRS b O1 wr r)) :
    Calls Try.prog f av wr fun e w1 => e = .returned (.int .i64 r.2) ∧ ToRS b O w r.1 w1 := by
  obtain ⟨O1, h1, h2⟩ := h
  exact (hf O1 h1).mono fun e w1 ⟨q1, q2⟩ => ⟨q1, q2.pre h2⟩
theorem ToRS.made {a : Int} (h : ToRS b O w s wr) : Calls Try.prog 125 #[.pointer (some ⟨b, 0, none⟩), .int .i64 a] wr fun e w' => e = .returned (.int .i64 (truthS s a)) ∧ wr = w' := by
  obtain ⟨O1, h1, h2⟩ := h
  exact made_ref b O1 s a wr h1.1
theorem ToRS.below (h : ToRS b O w s wr) (hb : Below wr.heap.size wr w1) : ToRS b O w s w1 := by
  obtain ⟨O1, h1, h2⟩ := h
  exact ⟨O1, h1.below hb, h2.trans (Ext.of_below hb)⟩

set_option maxRecDepth 100000 in
set_option maxHeartbeats 1600000 in
theorem eq_rs (b : Nat) (O : Nat → Prop) (s : BS) (va vb : Value) (xs ys : List Int) (w : World) (hs : RSto w b O s) (ha : IVecX w O va xs) (hb : IVecX w O vb ys) (hxl : xs.length ≤ 1000000) (hyl : ys.length ≤ 1000000) :
    Calls Try.prog 73 #[.pointer (some ⟨b, 0, none⟩), va, vb] w (RetRS b O w (eqS xs ys s)) := by
  have HR0 : Hid (ToRS b O w s w) := ToRS.refl hs
  have HWD : Hid (∀ wr s', ToRS b O w s' wr → Calls Try.prog 128 #[va, vb] wr fun e w' => e = .returned (.int .i64 ((max xs.length ys.length : Nat) : Int)) ∧ wr = w') := fun wr s' h => wide18_any va vb xs ys wr (h.vec ha) (h.vec hb) hxl hyl
  have HBA : Hid (∀ wr s' (i : Nat), i ≤ 1000000 → ToRS b O w s' wr → Calls Try.prog 95 #[va, .int .i64 (i : Int)] wr fun e w' => e = .returned (.int .i64 (xs.getD i 0)) ∧ wr = w') := fun wr s' i hi h => bit17_any va xs i wr (h.vec ha) hxl hi
  have HBB : Hid (∀ wr s' (i : Nat), i ≤ 1000000 → ToRS b O w s' wr → Calls Try.prog 95 #[vb, .int .i64 (i : Int)] wr fun e w' => e = .returned (.int .i64 (ys.getD i 0)) ∧ wr = w') := fun wr s' i hi h => bit17_any vb ys i wr (h.vec hb) hyl hi
  unfold eqS
  obtain ⟨M, hM⟩ : ∃ M, M = max xs.length ys.length := ⟨_, rfl⟩
  have hMm : M ≤ 1000000 := by omega
  rw [← hM] at HWD ⊢
  clear hM hs ha hb
  go_enter Try.func73, Try.ntmps73
  go_wp2_with fail
  go_loopw [7, 8] (fun t i wr => ∃ k : Nat, k ≤ M ∧ i = .int .i64 k ∧ t = .int .i64 (foldP eqStep xs ys 1 s k).2 ∧ Hid (ToRS b O w (foldP eqStep xs ys 1 s k).1 wr)) (fun _ i _ => M - (intOf i).toNat)
  case atStart => exact ⟨0, Nat.zero_le _, rfl, rfl, HR0⟩
  case round =>
    obtain ⟨k, hk, rfl, rfl, HK⟩ := hrel
    have HSS : Hid (foldP eqStep xs ys 1 s (k + 1) = eqStep (foldP eqStep xs ys 1 s k).1 (foldP eqStep xs ys 1 s k).2 (xs.getD k 0) (ys.getD k 0)) := rfl
    have HWK := Lib.hid (HWD.out wr _ HK.out)
    by_cases hlt : k < M
    · have HX1 := Lib.hid (HBA.out wr _ k (by omega) HK.out)
      have HX2 := Lib.hid (HBB.out wr _ k (by omega) HK.out)
      clear HWD HBA HBB HR0
      generalize foldP eqStep xs ys 1 s k = st at *
      obtain ⟨s0, t⟩ := st
      dsimp only at HK HSS ⊢
      generalize xs.getD k 0 = x at *
      generalize ys.getD k 0 = y at *
      have H1 : Hid (Calls Try.prog 129 #[.pointer (some ⟨b, 0, none⟩), .int .i64 x, .int .i64 y] wr fun e w1 => e = .returned (.int .i64 (xorF s0 x y).2) ∧ ToRS b O w (xorF s0 x y).1 w1) := HK.out.calls fun O1 h => xor_rs b O1 s0 x y wr h
      have H2 : Hid (∀ W, ToRS b O w (xorF s0 x y).1 W → Calls Try.prog 130 #[.pointer (some ⟨b, 0, none⟩), .int .i64 (xorF s0 x y).2] W fun e w1 => e = .returned (.int .i64 (notF (xorF s0 x y).1 (xorF s0 x y).2).2) ∧ ToRS b O w (notF (xorF s0 x y).1 (xorF s0 x y).2).1 w1) := fun W h => h.calls fun O1 h' => not_rs b O1 _ _ W h'
      have H3 : Hid (∀ W, ToRS b O w (notF (xorF s0 x y).1 (xorF s0 x y).2).1 W → Calls Try.prog 131 #[.pointer (some ⟨b, 0, none⟩), .int .i64 t, .int .i64 (notF (xorF s0 x y).1 (xorF s0 x y).2).2] W fun e w1 => e = .returned (.int .i64 (eqStep s0 t x y).2) ∧ ToRS b O w (eqStep s0 t x y).1 w1) := fun W h => h.calls fun O1 h' => and_rs b O1 _ _ _ W h'
      generalize eqStep s0 t x y = r3 at *
      generalize notF (xorF s0 x y).1 (xorF s0 x y).2 = r2 at *
      generalize xorF s0 x y = r1 at *
      obtain ⟨s1, i1⟩ := r1
      obtain ⟨s2, i2⟩ := r2
      obtain ⟨s3, i3⟩ := r3
      dsimp only at H1 H2 H3 HSS ⊢
      go_wp2_with (first
        | (go_at_call 128; (with_reducible refine HWK.out.mono ?_); rintro e w1 ⟨rfl, rfl⟩)
        | (go_at_call 95; (with_reducible refine HX1.out.mono ?_); rintro e w1 ⟨rfl, rfl⟩)
        | (go_at_call 95; (with_reducible refine HX2.out.mono ?_); rintro e w1 ⟨rfl, rfl⟩))
      refine H1.out.mono ?_
      rintro e w1 ⟨rfl, h1⟩
      have R1 := Lib.hid h1
      clear h1
      go_wp2_with fail
      refine (H2.out _ R1.out).mono ?_
      rintro e w2 ⟨rfl, h2⟩
      have R2 := Lib.hid h2
      clear h2
      go_wp2_with fail
      refine (H3.out _ R2.out).mono ?_
      rintro e w3 ⟨rfl, h3⟩
      have R3 := Lib.hid h3
      clear h3
      go_wp2_with fail
      go_roundw
      case rel => exact ⟨k + 1, by omega, by go_num, by rw [HSS.out], by rw [HSS.out]; exact R3.out⟩
      case measure => simp [intOf]; omega
    · obtain rfl : k = M := by omega
      have HM := Lib.hid (HK.out.made (a := (foldP eqStep xs ys 1 s k).2))
      generalize foldP eqStep xs ys 1 s k = st at *
      go_wp2_with (first
        | (go_at_call 128; (with_reducible refine HWK.out.mono ?_); rintro e w1 ⟨rfl, rfl⟩)
        | (go_at_call 125; (with_reducible refine HM.out.mono ?_); rintro e w1 ⟨rfl, rfl⟩))
      go_ret
      exact ⟨rfl, HK.out⟩

set_option maxRecDepth 100000 in
set_option maxHeartbeats 1600000 in
theorem less_rs (b : Nat) (O : Nat → Prop) (s : BS) (va vb : Value) (xs ys : List Int) (w : World) (hs : RSto w b O s) (ha : IVecX w O va xs) (hb : IVecX w O vb ys) (hxl : xs.length ≤ 1000000) (hyl : ys.length ≤ 1000000) :
    Calls Try.prog 74 #[.pointer (some ⟨b, 0, none⟩), va, vb] w (RetRS b O w (lessS xs ys s)) := by
  have HR0 : Hid (ToRS b O w s w) := ToRS.refl hs
  have HWD : Hid (∀ wr s', ToRS b O w s' wr → Calls Try.prog 128 #[va, vb] wr fun e w' => e = .returned (.int .i64 ((max xs.length ys.length : Nat) : Int)) ∧ wr = w') := fun wr s' h => wide18_any va vb xs ys wr (h.vec ha) (h.vec hb) hxl hyl
  have HBA : Hid (∀ wr s' (i : Nat), i ≤ 1000000 → ToRS b O w s' wr → Calls Try.prog 95 #[va, .int .i64 (i : Int)] wr fun e w' => e = .returned (.int .i64 (xs.getD i 0)) ∧ wr = w') := fun wr s' i hi h => bit17_any va xs i wr (h.vec ha) hxl hi
  have HBB : Hid (∀ wr s' (i : Nat), i ≤ 1000000 → ToRS b O w s' wr → Calls Try.prog 95 #[vb, .int .i64 (i : Int)] wr fun e w' => e = .returned (.int .i64 (ys.getD i 0)) ∧ wr = w') := fun wr s' i hi h => bit17_any vb ys i wr (h.vec hb) hyl hi
  unfold lessS
  obtain ⟨M, hM⟩ : ∃ M, M = max xs.length ys.length := ⟨_, rfl⟩
  have hMm : M ≤ 1000000 := by omega
  rw [← hM] at HWD ⊢
  clear hM hs ha hb
  go_enter Try.func74, Try.ntmps74
  go_wp2_with fail
  go_loopw [7, 8] (fun t i wr => ∃ k : Nat, k ≤ M ∧ i = .int .i64 k ∧ t = .int .i64 (foldP lessStep xs ys 0 s k).2 ∧ Hid (ToRS b O w (foldP lessStep xs ys 0 s k).1 wr)) (fun _ i _ => M - (intOf i).toNat)
  case atStart => exact ⟨0, Nat.zero_le _, rfl, rfl, HR0⟩
  case round =>
    obtain ⟨k, hk, rfl, rfl, HK⟩ := hrel
    have HSS : Hid (foldP lessStep xs ys 0 s (k + 1) = lessStep (foldP lessStep xs ys 0 s k).1 (foldP lessStep xs ys 0 s k).2 (xs.getD k 0) (ys.getD k 0)) := rfl
    have HWK := Lib.hid (HWD.out wr _ HK.out)
    by_cases hlt : k < M
    · have HX1 := Lib.hid (HBA.out wr _ k (by omega) HK.out)
      have HX2 := Lib.hid (HBB.out wr _ k (by omega) HK.out)
      have HX3 : Hid (∀ W s', ToRS b O w s' W → Calls Try.prog 95 #[vb, .int .i64 (k : Int)] W fun e w' => e = .returned (.int .i64 (ys.getD k 0)) ∧ W = w') := fun W s' h => HBB.out W s' k (by omega) h
      clear HWD HBA HBB HR0
      generalize foldP lessStep xs ys 0 s k = st at *
      obtain ⟨s0, t⟩ := st
      dsimp only at HK HSS ⊢
      generalize xs.getD k 0 = x at *
      generalize ys.getD k 0 = y at *
      have H1 : Hid (Calls Try.prog 129 #[.pointer (some ⟨b, 0, none⟩), .int .i64 x, .int .i64 y] wr fun e w1 => e = .returned (.int .i64 (xorF s0 x y).2) ∧ ToRS b O w (xorF s0 x y).1 w1) := HK.out.calls fun O1 h => xor_rs b O1 s0 x y wr h
      have H2 : Hid (∀ W, ToRS b O w (xorF s0 x y).1 W → Calls Try.prog 132 #[.pointer (some ⟨b, 0, none⟩), .int .i64 (xorF s0 x y).2, .int .i64 y, .int .i64 t] W fun e w1 => e = .returned (.int .i64 (lessStep s0 t x y).2) ∧ ToRS b O w (lessStep s0 t x y).1 w1) := fun W h => h.calls fun O1 h' => ite_rs b O1 _ _ _ _ W h'
      generalize lessStep s0 t x y = r2 at *
      generalize xorF s0 x y = r1 at *
      obtain ⟨s1, i1⟩ := r1
      obtain ⟨s2, i2⟩ := r2
      dsimp only at H1 H2 HSS ⊢
      go_wp2_with (first
        | (go_at_call 128; (with_reducible refine HWK.out.mono ?_); rintro e w1 ⟨rfl, rfl⟩)
        | (go_at_call 95; (with_reducible refine HX1.out.mono ?_); rintro e w1 ⟨rfl, rfl⟩)
        | (go_at_call 95; (with_reducible refine HX2.out.mono ?_); rintro e w1 ⟨rfl, rfl⟩))
      refine H1.out.mono ?_
      rintro e w1 ⟨rfl, h1⟩
      have R1 := Lib.hid h1
      clear h1
      go_wp2_with (go_at_call 95; (with_reducible refine (HX3.out _ _ R1.out).mono ?_); rintro e w1 ⟨rfl, rfl⟩)
      refine (H2.out _ R1.out).mono ?_
      rintro e w2 ⟨rfl, h2⟩
      have R2 := Lib.hid h2
      clear h2
      go_wp2_with fail
      go_roundw
      case rel => exact ⟨k + 1, by omega, by go_num, by rw [HSS.out], by rw [HSS.out]; exact R2.out⟩
      case measure => simp [intOf]; omega
    · obtain rfl : k = M := by omega
      have HM := Lib.hid (HK.out.made (a := (foldP lessStep xs ys 0 s k).2))
      generalize foldP lessStep xs ys 0 s k = st at *
      go_wp2_with (first
        | (go_at_call 128; (with_reducible refine HWK.out.mono ?_); rintro e w1 ⟨rfl, rfl⟩)
        | (go_at_call 125; (with_reducible refine HM.out.mono ?_); rintro e w1 ⟨rfl, rfl⟩))
      go_ret
      exact ⟨rfl, HK.out⟩

set_option maxRecDepth 100000 in
set_option maxHeartbeats 400000 in
theorem atMost_rs (b : Nat) (O : Nat → Prop) (s : BS) (va vb : Value) (xs ys : List Int) (w : World) (hs : RSto w b O s) (ha : IVecX w O va xs) (hb : IVecX w O vb ys) (hxl : xs.length ≤ 1000000) (hyl : ys.length ≤ 1000000) :
    Calls Try.prog 75 #[.pointer (some ⟨b, 0, none⟩), va, vb] w (RetRS b O w (atMostS xs ys s)) := by
  have HL := Lib.hid (less_rs b O s vb va ys xs w hs hb ha hyl hxl)
  have HN : Hid (∀ W, ToRS b O w (lessS ys xs s).1 W → Calls Try.prog 130 #[.pointer (some ⟨b, 0, none⟩), .int .i64 (lessS ys xs s).2] W fun e w1 => e = .returned (.int .i64 (atMostS xs ys s).2) ∧ ToRS b O w (atMostS xs ys s).1 w1) := fun W h => h.calls fun O1 h' => not_rs b O1 _ _ W h'
  generalize atMostS xs ys s = r2 at *
  generalize lessS ys xs s = r1 at *
  clear hs ha hb
  go_enter Try.func75, Try.ntmps75
  go_wp2_with fail
  refine HL.out.mono ?_
  rintro e w1 ⟨rfl, h1⟩
  have R1 := Lib.hid h1
  clear h1
  go_wp2_with fail
  refine (HN.out _ R1.out).mono ?_
  rintro e w2 ⟨rfl, h⟩
  have H := Lib.hid h
  clear h
  go_wp2_with fail
  go_ret
  exact ⟨rfl, H.out⟩

set_option maxRecDepth 100000 in
set_option maxHeartbeats 800000 in
theorem any_rs (b : Nat) (O : Nat → Prop) (s : BS) (va : Value) (xs : List Int) (w : World) (hs : RSto w b O s) (ha : IVecX w O va xs) (hxl : xs.length ≤ 1000000) :
    Calls Try.prog 76 #[.pointer (some ⟨b, 0, none⟩), va] w (RetRS b O w (anyS xs s)) := by
  have HR0 : Hid (ToRS b O w s w) := ToRS.refl hs
  have HA := Lib.hid ha
  obtain ⟨pa, ca, rfl, ha3, ha4, -⟩ := ha.1.shape
  unfold anyS
  clear hs ha
  go_enter Try.func76, Try.ntmps76
  go_wp2_with fail
  go_loopw [5, 6] (fun t i wr => ∃ k : Nat, k ≤ xs.length ∧ i = .int .i64 k ∧ t = .int .i64 (foldI (fun _ => orF) xs 0 s k).2 ∧ Hid (ToRS b O w (foldI (fun _ => orF) xs 0 s k).1 wr)) (fun _ i _ => xs.length - (intOf i).toNat)
  case atStart => exact ⟨0, Nat.zero_le _, rfl, rfl, HR0⟩
  case round =>
    obtain ⟨k, hk, rfl, rfl, HK⟩ := hrel
    have HSS : Hid (foldI (fun _ => orF) xs 0 s (k + 1) = orF (foldI (fun _ => orF) xs 0 s k).1 (foldI (fun _ => orF) xs 0 s k).2 (xs.getD k 0)) := rfl
    have HVA : Hid (IVec wr (.slice pa xs.length ca) xs) := HK.out.vec HA.out
    by_cases hlt : k < xs.length
    · obtain ⟨ba, oa, rfl, ga, -⟩ := HVA.out.elem k hlt
      clear HR0
      generalize foldI (fun _ => orF) xs 0 s k = st at *
      obtain ⟨s0, t⟩ := st
      dsimp only at HK HSS ⊢
      generalize xs.getD k 0 = x at *
      have H1 : Hid (Calls Try.prog 133 #[.pointer (some ⟨b, 0, none⟩), .int .i64 t, .int .i64 x] wr fun e w1 => e = .returned (.int .i64 (orF s0 t x).2) ∧ ToRS b O w (orF s0 t x).1 w1) := HK.out.calls fun O1 h => or_rs b O1 s0 t x wr h
      generalize orF s0 t x = r1 at *
      obtain ⟨s1, i1⟩ := r1
      dsimp only at H1 HSS ⊢
      go_wp2_with fail
      refine H1.out.mono ?_
      rintro e w1 ⟨rfl, h1⟩
      have R1 := Lib.hid h1
      clear h1
      go_wp2_with fail
      go_roundw
      case rel => exact ⟨k + 1, by omega, by go_num, by rw [HSS.out], by rw [HSS.out]; exact R1.out⟩
      case measure => simp [intOf]; omega
    · obtain rfl : k = xs.length := by omega
      have HM := Lib.hid (HK.out.made (a := (foldI (fun _ => orF) xs 0 s xs.length).2))
      go_wp2_with (go_at_call 125; (with_reducible refine HM.out.mono ?_); rintro e w1 ⟨rfl, rfl⟩)
      go_ret
      exact ⟨rfl, HK.out⟩

/-- What the reference's Bit tells of a number given by its parts. -/
def BitsAreR (x y : Int) (f : Int → Bool) : Prop := ∀ i W, Calls Try.prog 134 #[.agg #[.int .u64 x, .int .u64 y], .int .i64 i] W fun e w' => e = .returned (.bool (f i)) ∧ Below W.heap.size W w'

set_option maxRecDepth 100000 in
set_option maxHeartbeats 1600000 in
theorem agrees_rs (b : Nat) (O : Nat → Prop) (s : BS) (va : Value) (xs : List Int) (v0 v1 m0 m1 : Int) (fv fm : Int → Bool) (HV : Hid (BitsAreR v0 v1 fv)) (HM : Hid (BitsAreR m0 m1 fm)) (w : World) (hs : RSto w b O s) (ha : IVecX w O va xs) (hxl : xs.length ≤ 1000000) :
    Calls Try.prog 77 #[.pointer (some ⟨b, 0, none⟩), va, .agg #[.int .u64 v0, .int .u64 v1, .int .u64 m0, .int .u64 m1]] w (RetRS b O w (agreesS fm fv xs s)) := by
  obtain ⟨A, hA⟩ : ∃ A, A = w.alloc (.cells #[.int .u64 v0, .int .u64 v1, .int .u64 m0, .int .u64 m1] 43) := ⟨_, rfl⟩
  have hBA : Below w.heap.size w A := by rw [hA]; exact (by repeat (first | exact Below.refl _ _ | assumption | refine Below.drew ?_ | refine Below.alloc ?_ (by first | omega | (simp <;> omega)) _ | refine Below.setCell ?_ (by first | omega | (simp <;> omega)) _ | refine Below.trans ?_ (Below.mono (by assumption) (by first | omega | (simp <;> omega)))))
  have hPA : PatAt A w.heap.size v0 v1 m0 m1 := by rw [hA]; simp [PatAt, go_sem]
  have hnP : ¬ O w.heap.size := fun h => by have := hs.lt _ h; omega
  have HR0 : Hid (ToRS b O A s A) := ToRS.refl (hs.below hBA)
  have HA : Hid (IVecX A O va xs) := ha.below hBA
  have HPW : Hid (∀ W s', ToRS b O A s' W → PatAt W w.heap.size v0 v1 m0 m1) := fun W s' h => by
    obtain ⟨O1, h1, h2⟩ := h
    obtain ⟨p0, p1, p2, p3⟩ := hPA
    have e := fun o => (h2.cell (p := ⟨w.heap.size, o, none⟩) (cell_there p0).1 hnP).1
    exact ⟨(e 0).trans p0, (e 1).trans p1, (e 2).trans p2, (e 3).trans p3⟩
  obtain ⟨pa, ca, rfl, ha3, ha4, -⟩ := ha.1.shape
  have HBA := Lib.hid hBA
  have HAA := Lib.hid hA
  unfold agreesS
  clear hs ha hA hBA hPA hnP
  go_enter Try.func77, Try.ntmps77
  go_wp2_with fail
  rw [← HAA.out]
  go_loopw [7, 8] (fun t i wr => ∃ k : Nat, k ≤ xs.length ∧ i = .int .i64 k ∧ t = .int .i64 (foldI (agStep fm fv) xs 1 s k).2 ∧ Hid (ToRS b O A (foldI (agStep fm fv) xs 1 s k).1 wr)) (fun _ i _ => xs.length - (intOf i).toNat)
  case atStart => exact ⟨0, Nat.zero_le _, rfl, rfl, HR0⟩
  case round =>
    obtain ⟨k, hk, rfl, rfl, HK⟩ := hrel
    have HSS : Hid (foldI (agStep fm fv) xs 1 s (k + 1) = if fm k then (if fv k then andF (foldI (agStep fm fv) xs 1 s k).1 (foldI (agStep fm fv) xs 1 s k).2 (xs.getD k 0) else andF (notF (foldI (agStep fm fv) xs 1 s k).1 (xs.getD k 0)).1 (foldI (agStep fm fv) xs 1 s k).2 (notF (foldI (agStep fm fv) xs 1 s k).1 (xs.getD k 0)).2) else foldI (agStep fm fv) xs 1 s k) := rfl
    obtain ⟨F1, hF1⟩ : ∃ F1, F1 = foldI (agStep fm fv) xs 1 s (k + 1) := ⟨_, rfl⟩
    have HF1 := Lib.hid hF1
    rw [← hF1] at HSS
    clear hF1
    have HVA : Hid (IVec wr (.slice pa xs.length ca) xs) := HK.out.vec HA.out
    by_cases hlt : k < xs.length
    · obtain ⟨ba, oa, rfl, ga, -⟩ := HVA.out.elem k hlt
      obtain ⟨p0, p1, p2, p3⟩ := HPW.out wr _ HK.out
      clear HR0
      generalize foldI (agStep fm fv) xs 1 s k = st at *
      obtain ⟨s0, t⟩ := st
      dsimp only at HK HSS ⊢
      generalize xs.getD k 0 = x at *
      go_wp2_with fail
      refine (HM.out _ _).mono ?_
      rintro e w1 ⟨rfl, hb1⟩
      have R1 : Hid (ToRS b O A s0 w1) := HK.out.below hb1
      obtain ⟨q0, q1, q2, q3⟩ := HPW.out w1 _ R1.out
      have ga1 : w1.cell? ⟨ba, oa + k, none⟩ = some (.int .i64 x) := (hb1.cell (p := ⟨ba, oa + k, none⟩) (cell_there ga).1).trans ga
      clear hb1 p0 p1 p2 p3 ga
      generalize fm k = bm at *
      cases bm
      · have HS2 := HSS.out
        simp only [Bool.false_eq_true, if_false] at HS2
        have HS3 := Lib.hid HS2
        clear HS2 HSS
        go_wp2_with fail
        go_roundw
        case rel => exact ⟨k + 1, by omega, by go_num, by rw [← HF1.out, HS3.out], by rw [← HF1.out, HS3.out]; exact R1.out⟩
        case measure => simp [intOf]; omega
      · go_wp2_with fail
        refine (HV.out _ _).mono ?_
        rintro e w2 ⟨rfl, hb2⟩
        have R2 : Hid (ToRS b O A s0 w2) := R1.out.below hb2
        clear hb2 q0 q1 q2 q3 ga1
        generalize fv k = bv at *
        cases bv
        · have HS2 := HSS.out
          simp only [Bool.false_eq_true, if_false, if_true] at HS2
          have HS3 := Lib.hid HS2
          clear HS2 HSS
          have H1 : Hid (Calls Try.prog 130 #[.pointer (some ⟨b, 0, none⟩), .int .i64 x] w2 fun e w1 => e = .returned (.int .i64 (notF s0 x).2) ∧ ToRS b O A (notF s0 x).1 w1) := R2.out.calls fun O1 h => not_rs b O1 s0 x w2 h
          have H2 : Hid (∀ W, ToRS b O A (notF s0 x).1 W → Calls Try.prog 131 #[.pointer (some ⟨b, 0, none⟩), .int .i64 t, .int .i64 (notF s0 x).2] W fun e w1 => e = .returned (.int .i64 (andF (notF s0 x).1 t (notF s0 x).2).2) ∧ ToRS b O A (andF (notF s0 x).1 t (notF s0 x).2).1 w1) := fun W h => h.calls fun O1 h' => and_rs b O1 _ _ _ W h'
          generalize andF (notF s0 x).1 t (notF s0 x).2 = r2 at *
          generalize notF s0 x = r1 at *
          go_wp2_with fail
          refine H1.out.mono ?_
          rintro e w3 ⟨rfl, h3⟩
          have R3 := Lib.hid h3
          clear h3
          go_wp2_with fail
          refine (H2.out _ R3.out).mono ?_
          rintro e w4 ⟨rfl, h4⟩
          have R4 := Lib.hid h4
          clear h4
          go_wp2_with fail
          go_roundw
          case rel => exact ⟨k + 1, by omega, by go_num, by rw [← HF1.out, HS3.out], by rw [← HF1.out, HS3.out]; exact R4.out⟩
          case measure => simp [intOf]; omega
        · have HS2 := HSS.out
          simp only [if_true] at HS2
          have HS3 := Lib.hid HS2
          clear HS2 HSS
          have H1 : Hid (Calls Try.prog 131 #[.pointer (some ⟨b, 0, none⟩), .int .i64 t, .int .i64 x] w2 fun e w1 => e = .returned (.int .i64 (andF s0 t x).2) ∧ ToRS b O A (andF s0 t x).1 w1) := R2.out.calls fun O1 h => and_rs b O1 s0 t x w2 h
          generalize andF s0 t x = r1 at *
          go_wp2_with fail
          refine H1.out.mono ?_
          rintro e w3 ⟨rfl, h3⟩
          have R3 := Lib.hid h3
          clear h3
          go_wp2_with fail
          go_roundw
          case rel => exact ⟨k + 1, by omega, by go_num, by rw [← HF1.out, HS3.out], by rw [← HF1.out, HS3.out]; exact R3.out⟩
          case measure => simp [intOf]; omega
    · obtain rfl : k = xs.length := by omega
      have HMM := Lib.hid (HK.out.made (a := (foldI (agStep fm fv) xs 1 s xs.length).2))
      go_wp2_with (go_at_call 125; (with_reducible refine HMM.out.mono ?_); rintro e w1 ⟨rfl, rfl⟩)
      go_ret
      exact ⟨rfl, HK.out.pre (Ext.of_below HBA.out)⟩

end Go.Proofs.Ytlnkflmnjkmhkaa

/-
  Contract of symbv.Vars at a store that is there.
-/
namespace Go.Proofs.Ytlnkflmnjkmhkaa
open Go.RowKit Go.Maps

/-- The variables from first on, as many as n, in the order of their making. -/
def varsS (first : Int) : Nat → BS → BS × List Int
  | 0, s => (s, [])
  | n + 1, s => ((varF (varsS first n s).1 (wrap64 (first + n))).1, (varsS first n s).2 ++ [(varF (varsS first n s).1 (wrap64 (first + n))).2])
theorem varsS_len (first : Int) (n : Nat) (s : BS) : (varsS first n s).2.length = n := by
  induction n with
  | zero => rfl
  | succ n ih => simp [varsS, ih]

/-- A row of n that holds the last ones already. -/
def varTo (zs : List Int) (n : Nat) : List Value := (List.replicate (n - zs.length) 0 ++ zs.reverse).map (Value.int .i64)
theorem varTo_nil (n : Nat) : varTo [] n = List.replicate n (Value.int .i64 0) := by simp [varTo]
theorem varTo_full (zs : List Int) (n : Nat) (h : zs.length = n) : varTo zs n = zs.reverse.map (Value.int .i64) := by simp [varTo, h]
theorem varTo_set (zs : List Int) (n : Nat) (z : Int) (h : zs.length < n) : (varTo zs n).set (n - 1 - zs.length) (.int .i64 z) = varTo (zs ++ [z]) n := by
  unfold varTo
  obtain ⟨m, hm⟩ : ∃ m, n - zs.length = m + 1 := ⟨n - zs.length - 1, by omega⟩
  have h2 : n - (zs ++ [z]).length = m := by simp; omega
  have h3 : n - 1 - zs.length = m := by omega
  rw [h2, hm, h3, List.replicate_succ']
  simp only [List.map_append, List.map_replicate, List.map_cons, List.map_nil, List.reverse_append, List.reverse_cons, List.reverse_nil, List.nil_append, List.append_assoc]
  rw [List.set_append_right _ _ (by simp)]
  simp

def VarsAt (b : Nat) (O : Nat → Prop) (w : World) (r : BS × List Int) (M : Nat) (wr : World) : Prop :=
  ∃ O', Sto wr b O' r.1 ∧ Ext O O' w wr ∧ ¬ O' w.heap.size ∧ wr.ownsRow w.heap.size 3 1 (.slice (some ⟨w.heap.size, 0, none⟩) M M) M (varTo r.2 M)

theorem VarsAt.push {b : Nat} {O O2 : Nat → Prop} {w w1 : World} {s1 : BS} {zs : List Int} {z : Int} {M k : Nat} (hk : zs.length = k) (hl : k < M)
    (hs : Sto w1 b O2 s1) (he : Ext O O2 w w1) (hn : ¬ O2 w.heap.size) (hown : w1.ownsRow w.heap.size 3 1 (.slice (some ⟨w.heap.size, 0, none⟩) M M) M (varTo zs M)) :
    (∃ x, w1.cell? ⟨w.heap.size, M - 1 - k, none⟩ = some x) ∧ w1.frozen? ⟨w.heap.size, M - 1 - k, none⟩ = false ∧ VarsAt b O w (s1, zs ++ [z]) M (w1.setCell ⟨w.heap.size, M - 1 - k, none⟩ (.int .i64 z)) := by
  subst hk
  have hml : (varTo zs M).length = M := by unfold varTo; simp; omega
  obtain ⟨h1, h2, h3⟩ := mapCell hml (show M - 1 - zs.length < M by omega) hown (.int .i64 z)
  refine ⟨h1, h2, O2, hs.setNew hn _, he.setNew (Nat.le_refl _) _, hn, ?_⟩
  rw [varTo_set zs M z hl] at h3
  exact h3

set_option maxRecDepth 100000 in
set_option maxHeartbeats 1600000 in
theorem symbvVars_sto (b : Nat) (O : Nat → Prop) (s0 : BS) (first n : Int) (w : World) (hs : Sto w b O s0) (h0 : -9223372036854775808 ≤ n) (h1 : n ≤ 9223372036854775807) :
    Calls Try.prog 18 #[.pointer (some ⟨b, 0, none⟩), .int .i64 first, .int .i64 n] w (RetVS b O w ((varsS first (max 0 (min n 64)).toNat s0).1, (varsS first (max 0 (min n 64)).toNat s0).2.reverse)) := by
  obtain ⟨i0, hi, hz0, hz1, hz2⟩ := info_parts Try.infoInt
  have HS := Lib.hid hs
  clear hs
  obtain ⟨M, hM⟩ : ∃ M, M = (max 0 (min n 64)).toNat := ⟨_, rfl⟩
  have hM1 : M ≤ 64 := by omega
  have HM : Hid ((n ≤ 0 → M = 0) ∧ (0 ≤ n → n ≤ 64 → (M : Int) = n) ∧ (64 ≤ n → M = 64)) := ⟨by omega, by omega, by omega⟩
  rw [← hM]
  clear hM
  go_enter Try.func18, Try.ntmps18
  go_wp2_with (first
    | (at_make; refine wpList_make_full _ rfl _ _ 34 rfl w.heap.size 3 i0 (.int .i64 0) 1 Try.underlying34 hi hz0 hz1 .i64 .i64 _ _ M rfl rfl (by have := HM.out; omega) (by have := HM.out; omega) (by rw [hz2]; omega) (by unfold maxLen; omega) (Nat.le_refl _) ?_; intro w0 hown0 hgrow0))
  all_goals
    rw [toList_madeCells_zero] at hown0
    have H0 : Hid (VarsAt b O w (varsS first 0 s0) M w0) := ⟨O, HS.out.below ((Below.refl _ _).grown hgrow0 (Nat.le_refl _) (fun k h => by cases h)), Ext.of_below ((Below.refl _ _).grown hgrow0 (Nat.le_refl _) (fun k h => by cases h)), fun h => by have := HS.out.lt _ h; omega, by show w0.ownsRow _ _ _ _ _ (varTo [] _); rw [varTo_nil]; exact hown0⟩
    clear hown0 hgrow0
    go_loopw [15] (fun i wr => ∃ k : Nat, k ≤ M ∧ i = .int .i64 k ∧ Hid (VarsAt b O w (varsS first k s0) M wr))
      (fun i _ => M - (intOf i).toNat)
    case atStart => exact ⟨0, Nat.zero_le _, rfl, H0⟩
    case round =>
      obtain ⟨k, hk, rfl, HZ⟩ := hrel
      by_cases hlt : k < M
      · obtain ⟨O1, hs1, he1, hn1, hown1⟩ := HZ.out
        have HN : Hid (Calls Try.prog 10 #[.pointer (some ⟨b, 0, none⟩), .int .i64 (wrap64 (first + k))] wr (RetS b O1 wr (varF (varsS first k s0).1 (wrap64 (first + k))))) := var_sto b O1 _ _ wr hs1
        have HE1 := Lib.hid he1
        have HN1 := Lib.hid hn1
        have HO1 := Lib.hid hown1
        clear hs1 he1 hn1 hown1
        go_wp2_with fail
        refine HN.out.mono ?_
        rintro e w1 ⟨rfl, O2, hs2, hx2⟩
        obtain ⟨he2, hn2, hown2⟩ := own_call HE1.out HN1.out HO1.out hs2 hx2
        have hml : (varsS first k s0).2.length = k := varsS_len _ _ _
        obtain ⟨⟨x, z1⟩, z2, z3⟩ := VarsAt.push (z := (varF (varsS first k s0).1 (wrap64 (first + k))).2) hml hlt hs2 he2 hn2 hown2
        have HK : Hid (VarsAt b O w (varsS first (k + 1) s0) M (w1.setCell ⟨w.heap.size, M - 1 - k, none⟩ (.int .i64 (varF (varsS first k s0).1 (wrap64 (first + k))).2))) := z3
        clear hs2 hx2 he2 hn2 hown2 z3 hml
        go_wp2_with fail
        go_roundw
        case rel => exact ⟨k + 1, by omega, by go_num, HK⟩
        case measure => simp [intOf]; omega
      · obtain rfl : k = M := by omega
        go_wp2_with fail
        go_ret
        obtain ⟨O1, hs1, he1, hn1, hown1⟩ := HZ.out
        rw [varTo_full _ _ (varsS_len _ _ _)] at hown1
        exact ⟨_, O1, rfl, ⟨IVec.of_owns (by rw [List.length_reverse]; exact varsS_len _ _ _) hown1, fun j hj _ => by cases hj; exact hn1, NilOk.some _ _ _⟩, hs1, he1⟩

end Go.Proofs.Ytlnkflmnjkmhkaa

/-
  Contract of the reference's Vars, by the plain law.
-/
namespace Go.Proofs.Ytlnkflmnjkmhkaa
open Go.RowKit Go.Maps

set_option maxRecDepth 100000 in
set_option maxHeartbeats 400000 in
theorem held_any (n l m : Int) (w : World) : Calls Try.prog 68 #[.int .i64 n, .int .i64 l, .int .i64 m] w fun e w' => e = .returned (.int .i64 (if n < l then l else if m < n then m else n)) ∧ w = w' := by
  by_cases h1 : n < l
  · rw [if_pos h1]
    go_enter Try.func68, Try.ntmps68
    go_wp2
    go_ret
    exact ⟨rfl, rfl⟩
  · by_cases h2 : m < n
    · rw [if_neg h1, if_pos h2]
      go_enter Try.func68, Try.ntmps68
      go_wp2
      go_ret
      exact ⟨rfl, rfl⟩
    · rw [if_neg h1, if_neg h2]
      go_enter Try.func68, Try.ntmps68
      go_wp2
      go_ret
      exact ⟨rfl, rfl⟩

def VarsAtR (b : Nat) (O : Nat → Prop) (w : World) (r : BS × List Int) (M : Nat) (wr : World) : Prop :=
  ∃ O', RSto wr b O' r.1 ∧ Ext O O' w wr ∧ ¬ O' w.heap.size ∧ wr.ownsRow w.heap.size 3 1 (.slice (some ⟨w.heap.size, 0, none⟩) M M) M (varTo r.2 M)

theorem VarsAtR.push {b : Nat} {O O2 : Nat → Prop} {w w1 : World} {s1 : BS} {zs : List Int} {z : Int} {M k : Nat} (hk : zs.length = k) (hl : k < M)
    (hs : RSto w1 b O2 s1) (he : Ext O O2 w w1) (hn : ¬ O2 w.heap.size) (hown : w1.ownsRow w.heap.size 3 1 (.slice (some ⟨w.heap.size, 0, none⟩) M M) M (varTo zs M)) :
    (∃ x, w1.cell? ⟨w.heap.size, M - 1 - k, none⟩ = some x) ∧ w1.frozen? ⟨w.heap.size, M - 1 - k, none⟩ = false ∧ VarsAtR b O w (s1, zs ++ [z]) M (w1.setCell ⟨w.heap.size, M - 1 - k, none⟩ (.int .i64 z)) := by
  subst hk
  have hml : (varTo zs M).length = M := by unfold varTo; simp; omega
  obtain ⟨h1, h2, h3⟩ := mapCell hml (show M - 1 - zs.length < M by omega) hown (.int .i64 z)
  refine ⟨h1, h2, O2, hs.kept (fun k hk => Below.heap_setCell w1 _ _ k (fun e => hn (by rw [show w.heap.size = k from e.symm]; exact hk))), he.setNew (Nat.le_refl _) _, hn, ?_⟩
  rw [varTo_set zs M z hl] at h3
  exact h3

set_option maxRecDepth 100000 in
set_option maxHeartbeats 1600000 in
theorem vars_rs (b : Nat) (O : Nat → Prop) (s0 : BS) (first n : Int) (w : World) (hs : RSto w b O s0) (h0 : -9223372036854775808 ≤ n) (h1 : n ≤ 9223372036854775807) :
    Calls Try.prog 12 #[.pointer (some ⟨b, 0, none⟩), .int .i64 first, .int .i64 n] w (RetVR b O w ((varsS first (max 0 (min n 64)).toNat s0).1, (varsS first (max 0 (min n 64)).toNat s0).2.reverse)) := by
  obtain ⟨i0, hi, hz0, hz1, hz2⟩ := info_parts Try.infoInt
  have HS := Lib.hid hs
  clear hs
  obtain ⟨M, hM⟩ : ∃ M, M = (max 0 (min n 64)).toNat := ⟨_, rfl⟩
  have hM1 : M ≤ 64 := by omega
  have HM : Hid ((if n < 0 then 0 else if 64 < n then 64 else n) = (M : Int)) := by show _ = _; split <;> (try split) <;> omega
  have HH := held_any n 0 64 w
  rw [HM.out] at HH
  have HH := Lib.hid HH
  rw [← hM]
  clear hM HM
  go_enter Try.func12, Try.ntmps12
  go_wp2_with (first
    | (go_at_call 68; (refine HH.out.mono ?_); rintro e w1 ⟨rfl, rfl⟩)
    | (at_make; refine wpList_make_full _ rfl _ _ 34 rfl w.heap.size 3 i0 (.int .i64 0) 1 Try.underlying34 hi hz0 hz1 .i64 .i64 _ _ M rfl rfl rfl rfl (by rw [hz2]; omega) (by unfold maxLen; omega) (Nat.le_refl _) ?_; intro w0 hown0 hgrow0))
  rw [toList_madeCells_zero] at hown0
  have H0 : Hid (VarsAtR b O w (varsS first 0 s0) M w0) := ⟨O, HS.out.below ((Below.refl _ _).grown hgrow0 (Nat.le_refl _) (fun k h => by cases h)), Ext.of_below ((Below.refl _ _).grown hgrow0 (Nat.le_refl _) (fun k h => by cases h)), fun h => by have := HS.out.lt _ h; omega, by show w0.ownsRow _ _ _ _ _ (varTo [] _); rw [varTo_nil]; exact hown0⟩
  clear hown0 hgrow0 HH
  go_loopw [8] (fun i wr => ∃ k : Nat, k ≤ M ∧ i = .int .i64 k ∧ Hid (VarsAtR b O w (varsS first k s0) M wr))
    (fun i _ => M - (intOf i).toNat)
  case atStart => exact ⟨0, Nat.zero_le _, rfl, H0⟩
  case round =>
    obtain ⟨k, hk, rfl, HZ⟩ := hrel
    by_cases hlt : k < M
    · obtain ⟨O1, hs1, he1, hn1, hown1⟩ := HZ.out
      have HN : Hid (Calls Try.prog 69 #[.pointer (some ⟨b, 0, none⟩), .int .i64 (wrap64 (first + k))] wr (RetRS b O1 wr (varF (varsS first k s0).1 (wrap64 (first + k))))) := var_rs b O1 _ _ wr hs1
      have HE1 := Lib.hid he1
      have HN1 := Lib.hid hn1
      have HO1 := Lib.hid hown1
      clear hs1 he1 hn1 hown1
      go_wp2_with fail
      refine HN.out.mono ?_
      rintro e w1 ⟨rfl, O2, hs2, hx2⟩
      obtain ⟨hown2, hn2'⟩ := own_ext HO1.out (fun g h => by cases h; exact HN1.out) hx2
      have hn2 := hn2' _ rfl
      have he2 := HE1.out.trans hx2
      have hml : (varsS first k s0).2.length = k := varsS_len _ _ _
      obtain ⟨⟨x, z1⟩, z2, z3⟩ := VarsAtR.push (z := (varF (varsS first k s0).1 (wrap64 (first + k))).2) hml hlt hs2 he2 hn2 hown2
      have HK : Hid (VarsAtR b O w (varsS first (k + 1) s0) M (w1.setCell ⟨w.heap.size, M - 1 - k, none⟩ (.int .i64 (varF (varsS first k s0).1 (wrap64 (first + k))).2))) := z3
      clear hs2 hx2 he2 hn2 hn2' hown2 z3 hml
      go_wp2_with fail
      go_roundw
      case rel => exact ⟨k + 1, by omega, by go_num, HK⟩
      case measure => simp [intOf]; omega
    · obtain rfl : k = M := by omega
      go_wp2_with fail
      go_ret
      obtain ⟨O1, hs1, he1, hn1, hown1⟩ := HZ.out
      rw [varTo_full _ _ (varsS_len _ _ _)] at hown1
      exact ⟨_, O1, rfl, ⟨⟨IVec.of_owns (by rw [List.length_reverse]; exact varsS_len _ _ _) hown1, (fun j hj _ => by cases hj; exact hn1), NilOk.some _ _ _⟩, fun j hj _ => by cases hj; exact Nat.le_refl _⟩, hs1, he1⟩

end Go.Proofs.Ytlnkflmnjkmhkaa

/-
  Contract of symbv.Slice.
-/
namespace Go.Proofs.Ytlnkflmnjkmhkaa
open Go.RowKit Go.Maps

def sliceL (xs : List Int) (hi lo : Int) : List Int := if lo < 0 ∨ hi < lo ∨ (xs.length : Int) ≤ lo then [] else (xs.drop lo.toNat).take ((min hi (xs.length - 1) + 1 - lo).toNat)

theorem sub_vec {w : World} {pa : Option Addr} {ca : Nat} {xs : List Int} (h : IVec w (.slice pa xs.length ca) xs) (L E : Nat) (hL : L < xs.length) (hE : E ≤ xs.length) (hLE : L ≤ E) :
    ∃ b0 o0, pa = some ⟨b0, o0, none⟩ ∧ IVec w (.slice (some ⟨b0, o0 + L, none⟩) (E - L) (ca - L)) ((xs.drop L).take (E - L)) := by
  obtain ⟨p, c, e, h2, h3, h4⟩ := h
  simp only [Value.slice.injEq, true_and] at e
  obtain ⟨b, off, hp, hlt, hc⟩ := h4 (by omega)
  obtain ⟨e1, e2⟩ := e
  have hl : ((xs.drop L).take (E - L)).length = E - L := by simp; omega
  refine ⟨b, off, e1.trans hp, some ⟨b, off + L, none⟩, ca - L, by rw [hl], by rw [hl]; omega, by omega, fun _ => ⟨b, off + L, rfl, hlt, fun i hi => ?_⟩⟩
  rw [hl] at hi
  rw [show off + L + i = off + (L + i) by omega, hc (L + i) (by omega)]
  congr 2
  rw [List.getD_eq_getElem?_getD, List.getD_eq_getElem?_getD, List.getElem?_take_of_lt hi, List.getElem?_drop]

set_option maxRecDepth 100000 in
set_option maxHeartbeats 1600000 in
theorem symbvSlice_any (va : Value) (xs : List Int) (hi lo : Int) (w : World) (ha : IVec w va xs) (hxl : xs.length ≤ 1000000) :
    Calls Try.prog 28 #[va, .int .i64 hi, .int .i64 lo] w (RetVecN w (sliceL xs hi lo)) := by
  have HA := Lib.hid ha
  obtain ⟨pa, ca, rfl, ha3, ha4, -⟩ := ha.shape
  have hem := own_empty w
  clear ha
  by_cases h0 : lo < 0
  · have HE : Hid (sliceL xs hi lo = []) := by show _ = _; unfold sliceL; rw [if_pos (Or.inl h0)]
    go_enter Try.func28, Try.ntmps28
    go_wp2_with fail
    go_ret
    exact ⟨_, rfl, by rw [HE.out]; exact IVec.nil _, fun k h => (by cases h), NilOk.nil, Below.refl _ _⟩
  · obtain ⟨L, rfl⟩ : ∃ L : Nat, lo = (L : Int) := ⟨lo.toNat, by omega⟩
    by_cases h1 : hi < (L : Int)
    · have HE : Hid (sliceL xs hi L = []) := by show _ = _; unfold sliceL; rw [if_pos (Or.inr (Or.inl h1))]
      go_enter Try.func28, Try.ntmps28
      go_wp2_with fail
      go_ret
      exact ⟨_, rfl, by rw [HE.out]; exact IVec.nil _, fun k h => (by cases h), NilOk.nil, Below.refl _ _⟩
    · by_cases h2 : xs.length ≤ L
      · have HE : Hid (sliceL xs hi L = []) := by show _ = _; unfold sliceL; rw [if_pos (Or.inr (Or.inr (by omega)))]
        go_enter Try.func28, Try.ntmps28
        go_wp2_with fail
        go_ret
        exact ⟨_, rfl, by rw [HE.out]; exact IVec.nil _, fun k h => (by cases h), NilOk.nil, Below.refl _ _⟩
      · obtain ⟨H, rfl⟩ : ∃ H : Nat, hi = (H : Int) := ⟨hi.toNat, by omega⟩
        by_cases h3 : (H : Int) ≤ (xs.length : Int) - 1
        · obtain ⟨b0, o0, rfl, hsub⟩ := sub_vec HA.out L (H + 1) (by omega) (by omega) (by omega)
          have HSUB := Lib.hid hsub
          have HE : Hid (sliceL xs (H : Int) (L : Int) = (xs.drop L).take (H + 1 - L)) := by
            show _ = _
            unfold sliceL
            rw [if_neg (by omega)]
            congr 1
            omega
          have hk : ¬ ca = L := by omega
          clear hsub h0
          go_enter Try.func28, Try.ntmps28
          go_wp2_with (at_builtin; refine append_vec rfl (.tmp 20) (.tmp 29) rfl w.heap.size _ [] rfl hem _ ((xs.drop L).take (H + 1 - L)) rfl (HSUB.out.below ((Below.refl w.heap.size w).alloc (Nat.le_refl _) _)) (NilOk.some _ _ _) (by simp; omega) (by simp) ?_; intro v1 w1 hown1 hgrow1; have hb1 : Below w.heap.size w w1 := ((Below.refl w.heap.size w).alloc (Nat.le_refl _) _).grown hgrow1 (by simp) (fun k h => by cases h; exact Nat.le_refl _))
          obtain ⟨q1, q2, q3⟩ := own_new hown1
          have Q : Hid (IVec w1 v1 ((xs.drop L).take (H + 1 - L)) ∧ (∀ k, v1.ownBlock = some k → 0 < ((xs.drop L).take (H + 1 - L)).length → w.heap.size ≤ k) ∧ NilOk v1 ∧ Below w.heap.size w w1) := ⟨q1, q2, q3, hb1⟩
          clear q1 q2 q3 hb1 hown1 hgrow1 hem
          go_ret
          exact ⟨_, rfl, by rw [HE.out]; exact Q.out⟩
        · obtain ⟨b0, o0, rfl, hsub⟩ := sub_vec HA.out L xs.length (by omega) (by omega) (by omega)
          have HSUB := Lib.hid hsub
          have HE : Hid (sliceL xs (H : Int) (L : Int) = (xs.drop L).take (xs.length - L)) := by
            show _ = _
            unfold sliceL
            rw [if_neg (by omega)]
            congr 1
            omega
          have hk : ¬ ca = L := by omega
          clear hsub h0
          go_enter Try.func28, Try.ntmps28
          go_wp2_with (at_builtin; refine append_vec rfl (.tmp 20) (.tmp 29) rfl w.heap.size _ [] rfl hem _ ((xs.drop L).take (xs.length - L)) rfl (HSUB.out.below ((Below.refl w.heap.size w).alloc (Nat.le_refl _) _)) (NilOk.some _ _ _) (by simp; omega) (by simp) ?_; intro v1 w1 hown1 hgrow1; have hb1 : Below w.heap.size w w1 := ((Below.refl w.heap.size w).alloc (Nat.le_refl _) _).grown hgrow1 (by simp) (fun k h => by cases h; exact Nat.le_refl _))
          obtain ⟨q1, q2, q3⟩ := own_new hown1
          have Q : Hid (IVec w1 v1 ((xs.drop L).take (xs.length - L)) ∧ (∀ k, v1.ownBlock = some k → 0 < ((xs.drop L).take (xs.length - L)).length → w.heap.size ≤ k) ∧ NilOk v1 ∧ Below w.heap.size w w1) := ⟨q1, q2, q3, hb1⟩
          clear q1 q2 q3 hb1 hown1 hgrow1 hem
          go_ret
          exact ⟨_, rfl, by rw [HE.out]; exact Q.out⟩

end Go.Proofs.Ytlnkflmnjkmhkaa
