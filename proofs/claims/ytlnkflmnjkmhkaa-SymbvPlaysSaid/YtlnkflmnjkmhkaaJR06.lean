/-
  Lemmas, joined: Fold, VecNil, Dead, SumD.
-/
import Derived.Test.YtlnkflmnjkmhkaaJR05
import Derived.Test.YtlnkflmnjkmhkaaJR03
/-
  Contracts of symop.fold at pairs and at integers: an invariant that each call keeps.
-/
namespace Go.Proofs.Ytlnkflmnjkmhkaa
open Go.RowKit

/-- An integer is handed back of which J is so. -/
def RetJ (J : Int → World → Prop) (e : Ending) (w' : World) : Prop := ∃ r, e = .returned (.int .i64 r) ∧ J r w'

set_option maxRecDepth 100000 in
set_option maxHeartbeats 1000000 in
theorem fold_bits (f : Nat) (fst cp : Array Value) (v : Value) (n : Nat) (p : Nat → Int × Int) (I : Nat → Int → World → Prop) (t0 : Int) (w : World) (hn : n ≤ 1000000) (h0 : I 0 t0 w)
    (hP : ∀ k t W, I k t W → PVec W v n p) (hB : ∀ k t W W', I k t W → Below W.heap.size W W' → I k t W')
    (hcall : ∀ (av : Array Value) (W : World), (callFunc f av).run Try.prog W = .ok (.enter f av) W)
    (hf : ∀ k, k < n → ∀ (t : Int) W, I k t W → Calls Try.prog f (fst ++ (#[.int .i64 t, .agg #[.int .i64 (p k).1, .int .i64 (p k).2]] ++ cp)) W (RetJ (I (k + 1)))) :
    Calls Try.prog 110 #[v, .int .i64 t0, .func (.func f) fst cp] w (RetJ (I n)) := by
  have HP := Lib.hid hP; clear hP
  have HB := Lib.hid hB; clear hB
  have HF := Lib.hid hf; clear hf
  have H0 := Lib.hid h0; clear h0
  obtain ⟨pa, ca, rfl, ha3, ha4, -⟩ := HP.out 0 t0 w H0.out
  go_enter Try.func110, Try.ntmps110
  go_wp2_with fail
  go_loopw [1, 11] (fun t i wr => ∃ (k : Nat) (tt : Int), k ≤ n ∧ i = .int .i64 k ∧ t = .int .i64 tt ∧ Hid (I k tt wr)) (fun _ i _ => n - (intOf i).toNat)
  case atStart => exact ⟨0, t0, Nat.zero_le _, rfl, rfl, H0.out⟩
  case round =>
    obtain ⟨k, tt, hk, rfl, rfl, HI⟩ := hrel
    by_cases hlt : k < n
    · obtain ⟨pa', ca', he, -, -, hc⟩ := HP.out k tt wr HI.out
      simp only [Value.slice.injEq, true_and] at he
      obtain ⟨b, off, hpa, hbl, hcc⟩ := hc (by omega)
      obtain ⟨he1, he2⟩ := he
      rw [hpa] at he1
      clear hc hpa he2
      subst he1
      obtain ⟨g0, g1⟩ := hcc k hlt
      clear hcc
      have HI2 : ∀ o, Hid (I k tt (wr.alloc o)) := fun o => HB.out k tt wr _ HI.out ((Below.refl _ _).alloc (Nat.le_refl _) o)
      go_wp2_with fail
      refine (HF.out k hlt tt _ (HI2 _).out).mono ?_
      rintro e w1 ⟨r, rfl, hr⟩
      have HR := Lib.hid hr
      clear hr HI2
      go_wp2_with fail
      go_roundw
      case rel => exact ⟨k + 1, r, by omega, by go_num, rfl, HR⟩
      case measure => simp [intOf]; omega
    · obtain rfl : k = n := by omega
      go_wp2_with fail
      go_ret
      exact ⟨tt, rfl, HI.out⟩

set_option maxRecDepth 100000 in
set_option maxHeartbeats 1000000 in
theorem fold_int (f : Nat) (fst cp : Array Value) (v : Value) (xs : List Int) (I : Nat → Int → World → Prop) (t0 : Int) (w : World) (hn : xs.length ≤ 1000000) (h0 : I 0 t0 w)
    (hP : ∀ k t W, I k t W → IVec W v xs)
    (hcall : ∀ (av : Array Value) (W : World), (callFunc f av).run Try.prog W = .ok (.enter f av) W)
    (hf : ∀ k, k < xs.length → ∀ (t : Int) W, I k t W → Calls Try.prog f (fst ++ (#[.int .i64 t, .int .i64 (xs.getD k 0)] ++ cp)) W (RetJ (I (k + 1)))) :
    Calls Try.prog 114 #[v, .int .i64 t0, .func (.func f) fst cp] w (RetJ (I xs.length)) := by
  have HP := Lib.hid hP; clear hP
  have HF := Lib.hid hf; clear hf
  have H0 := Lib.hid h0; clear h0
  obtain ⟨pa, ca, rfl, ha3, ha4, -⟩ := HP.out 0 t0 w H0.out
  go_enter Try.func114, Try.ntmps114
  go_wp2_with fail
  go_loopw [1, 11] (fun t i wr => ∃ (k : Nat) (tt : Int), k ≤ xs.length ∧ i = .int .i64 k ∧ t = .int .i64 tt ∧ Hid (I k tt wr)) (fun _ i _ => xs.length - (intOf i).toNat)
  case atStart => exact ⟨0, t0, Nat.zero_le _, rfl, rfl, H0.out⟩
  case round =>
    obtain ⟨k, tt, hk, rfl, rfl, HI⟩ := hrel
    by_cases hlt : k < xs.length
    · obtain ⟨pa', ca', he, -, -, hc⟩ := HP.out k tt wr HI.out
      simp only [Value.slice.injEq, true_and] at he
      obtain ⟨b, off, hpa, hbl, hcc⟩ := hc (by omega)
      obtain ⟨he1, he2⟩ := he
      rw [hpa] at he1
      clear hc hpa he2
      subst he1
      have g0 := hcc k hlt
      clear hcc
      have HX : Hid (xs.getD k 0 = xs[k]) := by show _ = _; simp [hlt]
      have HC := Lib.hid (HF.out k hlt tt _ HI.out)
      rw [HX.out] at HC
      go_wp2_with fail
      refine HC.out.mono ?_
      rintro e w1 ⟨r, rfl, hr⟩
      have HR := Lib.hid hr
      clear hr
      go_wp2_with fail
      go_roundw
      case rel => exact ⟨k + 1, r, by omega, by go_num, rfl, HR⟩
      case measure => simp [intOf]; omega
    · obtain rfl : k = xs.length := by omega
      go_wp2_with fail
      go_ret
      exact ⟨tt, rfl, HI.out⟩

end Go.Proofs.Ytlnkflmnjkmhkaa

/-
  Contracts of package symbv at a store that is not there: each vector holds 0 alone.
-/
namespace Go.Proofs.Ytlnkflmnjkmhkaa
open Go.RowKit

theorem zipL_zero (xs ys : List Int) (n : Nat) : zipL (fun _ _ => 0) xs ys n = List.replicate n 0 := by
  unfold zipL; rw [List.map_const']; simp

theorem call_and (av : Array Value) (W : World) : (callFunc 82 av).run Try.prog W = .ok (.enter 82 av) W := by kernel_rfl
theorem call_or (av : Array Value) (W : World) : (callFunc 83 av).run Try.prog W = .ok (.enter 83 av) W := by kernel_rfl
theorem call_xor (av : Array Value) (W : World) : (callFunc 84 av).run Try.prog W = .ok (.enter 84 av) W := by kernel_rfl
theorem call_mux1 (av : Array Value) (W : World) : (callFunc 86 av).run Try.prog W = .ok (.enter 86 av) W := by kernel_rfl

set_option maxRecDepth 100000 in
set_option maxHeartbeats 400000 in
theorem symbvAnd_nil (va vb : Value) (xs ys : List Int) (w : World) (ha : IVec w va xs) (hb : IVec w vb ys) (hxl : xs.length ≤ 1000000) (hyl : ys.length ≤ 1000000) :
    Calls Try.prog 20 #[.pointer none, va, vb] w (RetVec w (List.replicate (max xs.length ys.length) 0)) := by
  rw [← zipL_zero xs ys]
  go_enter Try.func20, Try.ntmps20
  go_wp2_with fail
  refine (zip_any 82 #[.pointer none] #[] (fun _ _ => 0) va vb xs ys _ ha hb hxl hyl (fun x y W _ => and_nil x y W) call_and).mono ?_
  rintro e w1 ⟨v, rfl, hv, hb1⟩
  go_wp2_with fail
  go_ret
  exact ⟨_, rfl, hv, hb1⟩

set_option maxRecDepth 100000 in
set_option maxHeartbeats 400000 in
theorem symbvOr_nil (va vb : Value) (xs ys : List Int) (w : World) (ha : IVec w va xs) (hb : IVec w vb ys) (hxl : xs.length ≤ 1000000) (hyl : ys.length ≤ 1000000) :
    Calls Try.prog 21 #[.pointer none, va, vb] w (RetVec w (List.replicate (max xs.length ys.length) 0)) := by
  rw [← zipL_zero xs ys]
  go_enter Try.func21, Try.ntmps21
  go_wp2_with fail
  refine (zip_any 83 #[.pointer none] #[] (fun _ _ => 0) va vb xs ys _ ha hb hxl hyl (fun x y W _ => or_nil x y W) call_or).mono ?_
  rintro e w1 ⟨v, rfl, hv, hb1⟩
  go_wp2_with fail
  go_ret
  exact ⟨_, rfl, hv, hb1⟩

set_option maxRecDepth 100000 in
set_option maxHeartbeats 400000 in
theorem symbvXor_nil (va vb : Value) (xs ys : List Int) (w : World) (ha : IVec w va xs) (hb : IVec w vb ys) (hxl : xs.length ≤ 1000000) (hyl : ys.length ≤ 1000000) :
    Calls Try.prog 22 #[.pointer none, va, vb] w (RetVec w (List.replicate (max xs.length ys.length) 0)) := by
  rw [← zipL_zero xs ys]
  go_enter Try.func22, Try.ntmps22
  go_wp2_with fail
  refine (zip_any 84 #[.pointer none] #[] (fun _ _ => 0) va vb xs ys _ ha hb hxl hyl (fun x y W _ => xor_nil x y W) call_xor).mono ?_
  rintro e w1 ⟨v, rfl, hv, hb1⟩
  go_wp2_with fail
  go_ret
  exact ⟨_, rfl, hv, hb1⟩

set_option maxRecDepth 100000 in
set_option maxHeartbeats 400000 in
theorem mux1_nil (x y c : Int) (p q : Addr) (W : World) (hp : W.cell? p = some (.pointer none)) (hq : W.cell? q = some (.int .i64 c)) :
    Calls Try.prog 86 #[.int .i64 x, .int .i64 y, .pointer (some p), .pointer (some q)] W (RetInt W 0) := by
  go_enter Try.func86, Try.ntmps86
  go_wp2_with (go_at_call 87; refine (ite_nil _ _ _ _).mono ?_; rintro e w1 ⟨rfl, hb⟩)
  go_ret
  exact ⟨rfl, hb⟩

set_option maxRecDepth 100000 in
set_option maxHeartbeats 400000 in
theorem symbvMux_nil (c : Int) (va vb : Value) (xs ys : List Int) (w : World) (ha : IVec w va xs) (hb : IVec w vb ys) (hxl : xs.length ≤ 1000000) (hyl : ys.length ≤ 1000000) :
    Calls Try.prog 24 #[.pointer none, .int .i64 c, va, vb] w (RetVec w (List.replicate (max xs.length ys.length) 0)) := by
  rw [← zipL_zero xs ys]
  go_enter Try.func24, Try.ntmps24
  go_wp2_with fail
  have hB : Below w.heap.size w ((w.alloc (.cells #[.pointer none] 23)).alloc (.cells #[.int .i64 c] 3)) := (by repeat (first | exact Below.refl _ _ | assumption | refine Below.drew ?_ | refine Below.alloc ?_ (by first | omega | (simp <;> omega)) _ | refine Below.setCell ?_ (by first | omega | (simp <;> omega)) _ | refine Below.trans ?_ (Below.mono (by assumption) (by first | omega | (simp <;> omega)))))
  have hF : ∀ (x y : Int) W, Below ((w.alloc (.cells #[.pointer none] 23)).alloc (.cells #[.int .i64 c] 3)).heap.size ((w.alloc (.cells #[.pointer none] 23)).alloc (.cells #[.int .i64 c] 3)) W →
      Calls Try.prog 86 (#[] ++ (#[.int .i64 x, .int .i64 y] ++ #[.pointer (some ⟨w.heap.size, 0, none⟩), .pointer (some ⟨w.heap.size + 1, 0, none⟩)])) W (RetInt W 0) := by
    intro x y W hW
    refine mux1_nil x y c _ _ W ?_ ?_
    · rw [hW.cell (by simp <;> omega)]; simp [go_sem]
    · rw [hW.cell (by simp <;> omega)]; simp [go_sem]
  refine (zip_any 86 #[] #[.pointer (some ⟨w.heap.size, 0, none⟩), .pointer (some ⟨w.heap.size + 1, 0, none⟩)] (fun _ _ => 0) va vb xs ys _ (ha.below hB) (hb.below hB) hxl hyl hF call_mux1).mono ?_
  rintro e w1 ⟨v, rfl, hv, hb1⟩
  go_wp2_with fail
  go_ret
  exact ⟨_, rfl, hv, hB.trans (hb1.mono hB.size)⟩

theorem zeroRow {w : World} {base e g n : Nat} (hn : n ≤ maxLen) (h : w.ownsRow base e 1 (.slice (some ⟨g, 0, none⟩) n n) n (List.replicate n (Value.int .i64 0))) (k : Nat) (hk : k < n) :
    w.cell? ⟨g, k, none⟩ = some (.int .i64 0) ∧ w.frozen? ⟨g, k, none⟩ = false ∧ (w.setCell ⟨g, k, none⟩ (.int .i64 0)).ownsRow base e 1 (.slice (some ⟨g, 0, none⟩) n n) n (List.replicate n (Value.int .i64 0)) := by
  refine ⟨?_, h.frozenAt k, ?_⟩
  · rw [h.cellAt k (by omega)]; simp [hk]
  · have h1 := h.stored k (.int .i64 0)
    simpa using h1.1

theorem toList_madeCells_zero (n : Nat) : (madeCells (Value.int .i64 0).cells (n * 1)).toList = List.replicate n (Value.int .i64 0) := by
  rw [Nat.mul_one]; exact toList_madeCells_one _ n

theorem IVec.of_zero {w : World} {base e : Nat} {v : Value} {n : Nat} (h : w.ownsRow base e 1 v n (List.replicate n (Value.int .i64 0))) : IVec w v (List.replicate n 0) :=
  IVec.of_owns (n := n) (by simp) (by simpa using h)

set_option maxRecDepth 100000 in
set_option maxHeartbeats 400000 in
/-- 'Not' at a store that is not there. -/
theorem symbvNot_nil (va : Value) (xs : List Int) (w : World) (ha : IVec w va xs) (hxl : xs.length ≤ 1000000) :
    Calls Try.prog 23 #[.pointer none, va] w (RetVec w (List.replicate xs.length 0)) := by
  obtain ⟨i0, hi, hz0, hz1, hz2⟩ := info_parts Try.infoInt
  obtain ⟨pa, ca, rfl, ha3, ha4, ha5⟩ := ha.shape
  clear ha
  have HA := Lib.hid ha5; clear ha5
  go_enter Try.func23, Try.ntmps23
  go_wp2_with (first
    | (at_make; refine wpList_make_full _ rfl _ _ 34 rfl w.heap.size 3 i0 (.int .i64 0) 1 Try.underlying34 hi hz0 hz1 .i64 .i64 _ _ xs.length rfl rfl rfl rfl (by rw [hz2]; omega) (by unfold maxLen; omega) (Nat.le_refl _) ?_; intro w0 hown0 hgrow0))
  rw [toList_madeCells_zero] at hown0
  go_loopw [13] (fun i wr => ∃ k : Nat, k ≤ xs.length ∧ i = .int .i64 k ∧ wr.ownsRow w.heap.size 3 1 (.slice (some ⟨w.heap.size, 0, none⟩) xs.length xs.length) xs.length (List.replicate xs.length (Value.int .i64 0)) ∧ Below w.heap.size w wr)
    (fun i _ => xs.length - (intOf i).toNat)
  case atStart => exact ⟨0, Nat.zero_le _, rfl, hown0, (Below.refl _ _).grown hgrow0 (Nat.le_refl _) (fun k h => by cases h)⟩
  case round =>
    obtain ⟨k, hk, rfl, hown, hnx⟩ := hrel
    have hsize := hnx.size
    by_cases hlt : k < xs.length
    · obtain ⟨ba, oa, rfl, ha2, ha5⟩ := HA.out (by omega)
      have ga := (hnx.cell (p := ⟨ba, oa + k, none⟩) ha2).trans (ha5 k hlt)
      clear ha5
      go_wp2_with fail
      refine (not_nil _ _).mono ?_
      rintro e w1 ⟨rfl, hb1⟩
      obtain ⟨z1, z2, z3⟩ := zeroRow (by unfold maxLen; omega) (own_below hown hb1) k hlt
      have Z := Lib.hid z3; clear z3
      go_wp2_with fail
      go_roundw
      case rel => exact ⟨k + 1, by omega, by go_num, Z.out, (hnx.trans (hb1.mono hsize)).setCell (Nat.le_refl _) _⟩
      case measure => simp [intOf]; omega
    · obtain rfl : k = xs.length := by omega
      go_wp2_with fail
      go_ret
      exact ⟨_, rfl, IVec.of_zero hown, hnx⟩

set_option maxRecDepth 100000 in
set_option maxHeartbeats 400000 in
/-- 'Vars' at a store that is not there. -/
theorem symbvVars_nil (first n : Int) (w : World) (h0 : -9223372036854775808 ≤ n) (h1 : n ≤ 9223372036854775807) :
    Calls Try.prog 18 #[.pointer none, .int .i64 first, .int .i64 n] w (RetVec w (List.replicate (max 0 (min n 64)).toNat 0)) := by
  obtain ⟨i0, hi, hz0, hz1, hz2⟩ := info_parts Try.infoInt
  obtain ⟨M, hM⟩ : ∃ M, M = (max 0 (min n 64)).toNat := ⟨_, rfl⟩
  have hM1 : M ≤ 64 := by omega
  have HM : Hid ((n ≤ 0 → M = 0) ∧ (0 ≤ n → n ≤ 64 → (M : Int) = n) ∧ (64 ≤ n → M = 64)) := ⟨by omega, by omega, by omega⟩
  rw [← hM]
  clear hM
  go_enter Try.func18, Try.ntmps18
  go_wp2_with (first
    | (at_make; refine wpList_make_full _ rfl _ _ 34 rfl w.heap.size 3 i0 (.int .i64 0) 1 Try.underlying34 hi hz0 hz1 .i64 .i64 _ _ M rfl rfl (by have := HM.out; omega) (by have := HM.out; omega) (by rw [hz2]; omega) (by unfold maxLen; omega) (Nat.le_refl _) ?_; intro w0 hown0 hgrow0))
  all_goals rw [toList_madeCells_zero] at hown0
  all_goals
    go_loopw [15] (fun i wr => ∃ k : Nat, k ≤ M ∧ i = .int .i64 k ∧ wr.ownsRow w.heap.size 3 1 (.slice (some ⟨w.heap.size, 0, none⟩) M M) M (List.replicate M (Value.int .i64 0)) ∧ Below w.heap.size w wr)
      (fun i _ => M - (intOf i).toNat)
    case atStart => exact ⟨0, Nat.zero_le _, rfl, hown0, (Below.refl _ _).grown hgrow0 (Nat.le_refl _) (fun k h => by cases h)⟩
    case round =>
      obtain ⟨k, hk, rfl, hown, hnx⟩ := hrel
      have hsize := hnx.size
      by_cases hlt : k < M
      · go_wp2_with fail
        refine (var_nil _ _).mono ?_
        rintro e w1 ⟨rfl, hb1⟩
        obtain ⟨z1, z2, z3⟩ := zeroRow (by unfold maxLen; omega) (own_below hown hb1) (M - 1 - k) (by omega)
        have Z := Lib.hid z3; clear z3
        go_wp2_with fail
        go_roundw
        case rel => exact ⟨k + 1, by omega, by go_num, Z.out, (hnx.trans (hb1.mono hsize)).setCell (Nat.le_refl _) _⟩
        case measure => simp [intOf]; omega
      · obtain rfl : k = M := by omega
        go_wp2_with fail
        go_ret
        exact ⟨_, rfl, IVec.of_zero hown, hnx⟩

end Go.Proofs.Ytlnkflmnjkmhkaa

/-
  Contracts of the store's methods at a store that is not there, or is full: each hands back 0, nothing that was has changed.
-/
namespace Go.Proofs.Ytlnkflmnjkmhkaa
open Go.RowKit Go.Maps

/-- A store that is not there, or is full. -/
def Dead (w : World) (sp : Value) : Prop := sp = .pointer none ∨ ∃ b O st told, sp = .pointer (some ⟨b, 0, none⟩) ∧ IsBdd w b O st told ∧ st.full = true

theorem Dead.below {w w' : World} {sp : Value} (h : Dead w sp) (hb : Below w.heap.size w w') : Dead w' sp := by
  rcases h with h | ⟨b, O, st, told, h1, h2, h3⟩
  · exact .inl h
  · exact .inr ⟨b, O, st, told, h1, h2.below hb, h3⟩
theorem Dead.shape {w : World} {sp : Value} (h : Dead w sp) : ∃ po, sp = .pointer po := by
  rcases h with h | ⟨b, O, st, told, h1, h2, h3⟩
  · exact ⟨_, h⟩
  · exact ⟨_, h1⟩

theorem made_dead {sp : Value} (f : Value) (w : World) (hd : Dead w sp) : Calls Try.prog 65 #[sp, f] w (RetInt w 0) := by
  rcases hd with rfl | ⟨b, O, st, told, rfl, h2, h3⟩
  · exact made_nil f w
  · exact made_full b O st told f w h2 h3

set_option maxRecDepth 100000 in
set_option maxHeartbeats 400000 in
theorem full_dead {sp : Value} (w : World) (hd : Dead w sp) : Calls Try.prog 16 #[sp] w fun e w' => e = .returned (.bool true) ∧ w = w' := by
  rcases hd with rfl | ⟨b, O, st, told, rfl, hs, hfull⟩
  · exact full_nil w
  · obtain ⟨vn, m1, m2, c0, c1, c2, c3, c4, fz, own, hm12, hnb, hm1, hm2, hO, hcp1, hcp2, -⟩ := hs
    rw [hfull] at c4
    clear c1 c2 c3 fz own hm12 hnb hm1 hm2 hO hfull
    have hcap : ((st.cap : Int) == 0) = false := by rw [beq_eq_false_iff_ne]; omega
    go_enter Try.func16, Try.ntmps16
    go_wp2
    go_ret
    exact ⟨rfl, rfl⟩

set_option maxRecDepth 100000 in
set_option maxHeartbeats 400000 in
theorem ite_dead {sp : Value} (c a b : Int) (w : World) (hd : Dead w sp) :
    Calls Try.prog 87 #[sp, .int .i64 c, .int .i64 a, .int .i64 b] w (RetInt w 0) := by
  have HM : Hid (∀ W f, Below w.heap.size w W → Calls Try.prog 65 #[sp, f] W (RetInt W 0)) := fun W f hW => made_dead f W (hd.below hW)
  obtain ⟨po, rfl⟩ := hd.shape
  clear hd
  have hmf := run_makeFunc
  go_enter Try.func87, Try.ntmps87
  go_wp2_with fail
  refine (HM.out _ _ ?_).mono ?_
  · exact (by repeat (first | exact Below.refl _ _ | assumption | refine Below.drew ?_ | refine Below.alloc ?_ (by first | omega | (simp <;> omega)) _ | refine Below.setCell ?_ (by first | omega | (simp <;> omega)) _ | refine Below.trans ?_ (Below.mono (by assumption) (by first | omega | (simp <;> omega)))))
  rintro e w1 ⟨rfl, hb⟩
  go_wp2_with fail
  go_ret
  exact ⟨rfl, (by repeat (first | exact Below.refl _ _ | assumption | refine Below.drew ?_ | refine Below.alloc ?_ (by first | omega | (simp <;> omega)) _ | refine Below.setCell ?_ (by first | omega | (simp <;> omega)) _ | refine Below.trans ?_ (Below.mono (by assumption) (by first | omega | (simp <;> omega)))))⟩

set_option maxRecDepth 100000 in
set_option maxHeartbeats 400000 in
theorem not_dead {sp : Value} (a : Int) (w : World) (hd : Dead w sp) :
    Calls Try.prog 85 #[sp, .int .i64 a] w (RetInt w 0) := by
  have HM := Lib.hid (fun c a b => ite_dead c a b w hd)
  go_enter Try.func85, Try.ntmps85
  go_wp2_with (go_at_call 87; refine (HM.out _ _ _).mono ?_; rintro e w1 ⟨rfl, hb⟩)
  go_ret
  exact ⟨rfl, hb⟩

set_option maxRecDepth 100000 in
set_option maxHeartbeats 400000 in
theorem and_dead {sp : Value} (a b : Int) (w : World) (hd : Dead w sp) :
    Calls Try.prog 82 #[sp, .int .i64 a, .int .i64 b] w (RetInt w 0) := by
  have HM := Lib.hid (fun c a b => ite_dead c a b w hd)
  go_enter Try.func82, Try.ntmps82
  go_wp2_with (go_at_call 87; refine (HM.out _ _ _).mono ?_; rintro e w1 ⟨rfl, hb⟩)
  go_ret
  exact ⟨rfl, hb⟩

set_option maxRecDepth 100000 in
set_option maxHeartbeats 400000 in
theorem or_dead {sp : Value} (a b : Int) (w : World) (hd : Dead w sp) :
    Calls Try.prog 83 #[sp, .int .i64 a, .int .i64 b] w (RetInt w 0) := by
  have HM := Lib.hid (fun c a b => ite_dead c a b w hd)
  go_enter Try.func83, Try.ntmps83
  go_wp2_with (go_at_call 87; refine (HM.out _ _ _).mono ?_; rintro e w1 ⟨rfl, hb⟩)
  go_ret
  exact ⟨rfl, hb⟩

set_option maxRecDepth 100000 in
set_option maxHeartbeats 400000 in
theorem xor_dead {sp : Value} (a b : Int) (w : World) (hd : Dead w sp) :
    Calls Try.prog 84 #[sp, .int .i64 a, .int .i64 b] w (RetInt w 0) := by
  have HN := Lib.hid (not_dead b w hd)
  have HM : Hid (∀ W c a b, Below w.heap.size w W → Calls Try.prog 87 #[sp, .int .i64 c, .int .i64 a, .int .i64 b] W (RetInt W 0)) := fun W c a b hW => ite_dead c a b W (hd.below hW)
  clear hd
  go_enter Try.func84, Try.ntmps84
  go_wp2_with fail
  refine HN.out.mono ?_
  rintro e w1 ⟨rfl, hb⟩
  go_wp2_with fail
  refine (HM.out _ _ _ _ hb).mono ?_
  rintro e w2 ⟨rfl, hb2⟩
  go_wp2_with fail
  go_ret
  exact ⟨rfl, hb.trans (hb2.mono hb.size)⟩

set_option maxRecDepth 100000 in
set_option maxHeartbeats 400000 in
theorem truth_dead {sp : Value} (a : Int) (w : World) (hd : Dead w sp) :
    Calls Try.prog 109 #[sp, .int .i64 a] w fun e w' => e = .returned (.int .i64 0) ∧ w = w' := by
  have HM := Lib.hid (full_dead w hd)
  go_enter Try.func109, Try.ntmps109
  go_wp2_with (go_at_call 16; refine HM.out.mono ?_; rintro e w1 ⟨rfl, rfl⟩)
  go_ret
  exact ⟨rfl, rfl⟩

end Go.Proofs.Ytlnkflmnjkmhkaa

/-
  Contracts of symop.sum and its closure at a store that is not there, or is full: each bit is 0.
-/
namespace Go.Proofs.Ytlnkflmnjkmhkaa
open Go.RowKit Go.Maps

theorem PVecX.ext {w w' : World} {O O' : Nat → Prop} {v : Value} {n : Nat} {p : Nat → Int × Int} (h : PVecX w O v n p) (he : Ext O O' w w') : PVecX w' O' v n p := by
  obtain ⟨pa, cap, h1, h2, h3, h4⟩ := h
  refine ⟨pa, cap, h1, h2, h3, fun h0 => ?_⟩
  obtain ⟨b, off, e, hlt, hO, hc⟩ := h4 h0
  refine ⟨b, off, e, Nat.lt_of_lt_of_le hlt he.1.size, (he.cell (p := ⟨b, 0, none⟩) hlt hO).2.2, fun i hi => ?_⟩
  rw [(he.cell (p := ⟨b, off + i * 2, none⟩) hlt hO).1, (he.cell (p := ⟨b, off + i * 2 + 1, none⟩) hlt hO).1]
  exact hc i hi

/-- Dead, the store's blocks beside O. -/
def DeadX (w : World) (O : Nat → Prop) (sp : Value) : Prop := sp = .pointer none ∨ ∃ b Os st told, sp = .pointer (some ⟨b, 0, none⟩) ∧ IsBdd w b Os st told ∧ st.full = true ∧ ∀ k, Os k → ¬ O k
theorem DeadX.dead {w : World} {O : Nat → Prop} {sp : Value} (h : DeadX w O sp) : Dead w sp := by
  rcases h with h | ⟨b, Os, st, told, h1, h2, h3, -⟩
  · exact .inl h
  · exact .inr ⟨b, Os, st, told, h1, h2, h3⟩
theorem DeadX.ext {w w' : World} {O O' : Nat → Prop} {sp : Value} (h : DeadX w O sp) (he : Ext O O' w w') : DeadX w' O' sp := by
  rcases h with h | ⟨b, Os, st, told, h1, h2, h3, h4⟩
  · exact .inl h
  · exact .inr ⟨b, Os, st, told, h1, h2.kept fun k hk => he.1.block k (h2.lt k hk) (h4 k hk), h3, fun k hk => (he.cell (p := ⟨k, 0, none⟩) (h2.lt k hk) (h4 k hk)).2.2⟩

/-- The closure's two variables: the store's pointer; the bits up to now, k zeros. -/
def SumSt (w : World) (O : Nat → Prop) (bS bV : Nat) (po : Option Addr) (k : Nat) : Prop :=
  w.cell? ⟨bS, 0, none⟩ = some (.pointer po) ∧ ¬ O bS ∧ DeadX w O (.pointer po) ∧ w.frozen? ⟨bV, 0, none⟩ = false ∧
  ∃ vv, w.cell? ⟨bV, 0, none⟩ = some vv ∧ w.ownsRow 0 3 1 vv k (List.replicate k (.int .i64 0)) ∧ vv.ownBlock ≠ some bV ∧ ∀ j, O j ↔ j = bV ∨ vv.ownBlock = some j

theorem SumSt.below {w w' : World} {O : Nat → Prop} {bS bV k : Nat} {po : Option Addr} (h : SumSt w O bS bV po k) (hb : Below w.heap.size w w') : SumSt w' O bS bV po k := by
  obtain ⟨h1, h2, h3, h4, vv, h5, h6, h7, h8⟩ := h
  exact ⟨(hb.cell (cell_there h1).1).trans h1, h2, h3.ext (Ext.of_below hb), (hb.frozen (p := ⟨bV, 0, none⟩) (cell_there h5).1).trans h4, vv, (hb.cell (cell_there h5).1).trans h5, own_below h6 hb, h7, h8⟩

theorem own_setCell {w : World} {base e size n b j : Nat} {v : Value} {xs : List Value} (h : w.ownsRow base e size v n xs) (hne : v.ownBlock ≠ some b) (x : Value) : (w.setCell ⟨b, j, none⟩ x).ownsRow base e size v n xs := by
  obtain ⟨hl, h⟩ := h
  refine ⟨hl, ?_⟩
  rcases h with h | ⟨g, cap, cur, h1, h2, h3, h4⟩
  · exact .inl h
  · exact .inr ⟨g, cap, cur, h1, h2, (Below.heap_setCell w ⟨b, j, none⟩ x g (fun e => hne (by rw [h1]; show some g = some b; rw [e]))).trans h3, h4⟩

theorem sumst_push {w A w3 : World} {O : Nat → Prop} {bS bV k : Nat} {po : Option Addr} {vv v' : Value} (h : SumSt w O bS bV po k) (hv : w.cell? ⟨bV, 0, none⟩ = some vv) (hA : Below w.heap.size w A)
    (hg : A.grownBy w3 vv.ownBlock) (hwh : v'.ownBlock = vv.ownBlock ∨ ∀ j, v'.ownBlock = some j → A.heap.size ≤ j) (hown : w3.ownsRow 0 3 1 v' (k + 1) (List.replicate k (.int .i64 0) ++ [.int .i64 0]))
    (hc : ∃ x, w3.cell? ⟨bV, 0, none⟩ = some x) (hf : w3.frozen? ⟨bV, 0, none⟩ = false) :
    ∃ O', SumSt (w3.setCell ⟨bV, 0, none⟩ v') O' bS bV po (k + 1) ∧ Ext O O' w (w3.setCell ⟨bV, 0, none⟩ v') := by
  obtain ⟨h1, h2, h3, h4, vv', h5, h6, h7, h8⟩ := h
  rw [hv] at h5
  cases h5
  have hAs := hA.size
  have hs3 := hg.size
  have hlV : bV < w.heap.size := (cell_there hv).1
  have hvb : v'.ownBlock ≠ some bV := fun e => by
    rcases hwh with q | q
    · exact h7 (q ▸ e)
    · have := q bV e; omega
  have hE : Ext O (fun j => j = bV ∨ v'.ownBlock = some j) w (w3.setCell ⟨bV, 0, none⟩ v') := by
    refine ⟨⟨hg.os.trans hA.os, hg.tape.trans hA.tape, hg.output.trans hA.output, by simp [World.setCell]; omega, fun j hj hO => ?_⟩, fun j hj => ?_⟩
    · have q1 : j ≠ bV := fun e => hO ((h8 j).2 (.inl e))
      have q2 : vv.ownBlock ≠ some j := fun e => hO ((h8 j).2 (.inr e))
      rw [Below.heap_setCell w3 ⟨bV, 0, none⟩ v' j q1, hg.block j (by omega) (fun e => q2 e.symm)]
      exact hA.block j hj
    · rcases hj with rfl | hj
      · exact .inl ((h8 _).2 (.inl rfl))
      · rcases hwh with q | q
        · exact .inl ((h8 _).2 (.inr (q ▸ hj)))
        · exact .inr (by have := q j hj; omega)
  obtain ⟨x, hc⟩ := hc
  have e := hE.cell (p := ⟨bS, 0, none⟩) (cell_there h1).1 h2
  refine ⟨_, ⟨e.1.trans h1, e.2.2, h3.ext hE, by rw [World.frozen?_setCell]; exact hf, v', World.cell?_setCell_same _ _ _ hc, ?_, hvb, fun j => Iff.rfl⟩, hE⟩
  rw [List.replicate_succ']
  exact own_setCell hown hvb v'

set_option maxRecDepth 100000 in
set_option maxHeartbeats 1600000 in
theorem sum1_dead (O : Nat → Prop) (bS bV k : Nat) (po : Option Addr) (c x y : Int) (w : World) (hk : k ≤ 1000000) (h : SumSt w O bS bV po k) :
    Calls Try.prog 145 #[.int .i64 c, .agg #[.int .i64 x, .int .i64 y], .pointer (some ⟨bS, 0, none⟩), .pointer (some ⟨bV, 0, none⟩)] w (RetJ fun _ w' => ∃ O', SumSt w' O' bS bV po (k + 1) ∧ Ext O O' w w') := by
  obtain ⟨i0, hi, hz0, hz1, hz2⟩ := info_parts Try.infoInt
  have HS := Lib.hid h
  obtain ⟨h1, h2, h3, h4, vv, h5, h6, h7, h8⟩ := h
  obtain ⟨pv, cv, rfl, -⟩ := own_shape h6
  have HD : Hid (∀ W, Below w.heap.size w W → Dead W (.pointer po)) := fun W hW => h3.dead.below hW
  have hlS := (cell_there h1).1
  have hlV := (cell_there h5).1
  have h5' := h5
  have HROW : Hid (∀ j, (Value.slice pv k cv).ownBlock = some j → j < w.heap.size) := fun j hj => (h6.lt j hj).2
  have H7 := Lib.hid h7
  have H8 := Lib.hid h8
  clear h2 h3 h7 h8
  go_enter Try.func145, Try.ntmps145
  go_wp2_with fail
  refine (xor_dead _ _ _ (HD.out _ (by repeat (first | exact Below.refl _ _ | assumption | refine Below.drew ?_ | refine Below.alloc ?_ (by first | omega | (simp <;> omega)) _ | refine Below.setCell ?_ (by first | omega | (simp <;> omega)) _ | refine Below.trans ?_ (Below.mono (by assumption) (by first | omega | (simp <;> omega))))))).mono ?_
  rintro e w1 ⟨rfl, hb1⟩
  have hB1 : Below w.heap.size w w1 := (by repeat (first | exact Below.refl _ _ | assumption | refine Below.drew ?_ | refine Below.alloc ?_ (by first | omega | (simp <;> omega)) _ | refine Below.setCell ?_ (by first | omega | (simp <;> omega)) _ | refine Below.trans ?_ (Below.mono (by assumption) (by first | omega | (simp <;> omega)))))
  have hs1 := hb1.size
  simp at hs1
  have x0 : w1.cell? ⟨w.heap.size, 0, none⟩ = some (.int .i64 x) := by rw [hb1.cell (p := ⟨w.heap.size, 0, none⟩) (by simp)]; simp [go_sem]
  have x1 : w1.cell? ⟨w.heap.size, 1, none⟩ = some (.int .i64 y) := by rw [hb1.cell (p := ⟨w.heap.size, 1, none⟩) (by simp)]; simp [go_sem]
  have s1 : w1.cell? ⟨bS, 0, none⟩ = some (.pointer po) := (hB1.cell hlS).trans h1
  have v1 : w1.cell? ⟨bV, 0, none⟩ = some (.slice pv k cv) := (hB1.cell hlV).trans h5
  have f1 : w1.frozen? ⟨bV, 0, none⟩ = false := (hB1.frozen (p := ⟨bV, 0, none⟩) hlV).trans h4
  have own1 := own_below h6 hB1
  have HB1 := Lib.hid hB1
  clear hb1 h1 h4 h5 h6
  go_wp2_with fail
  go_region_law (first
    | (refine step_append_two rfl (.tmp 16) (.tmp 21) 34 rfl 3 i0 (.int .i64 0) 1 8 Try.underlying34 hi hz0 hz1 hz2 rfl (by decide) _ k _ rfl ((own_below own1.drew hb2).alloc _) ⟨w2.heap.size, 0, none⟩ 1 1 [.int .i64 0] rfl rfl (cell_one_new _ _ _) (ints_oneCell .i64 [0]) (by unfold maxLen; omega) (by omega) ?_; intro v' w3 hown3 hgrow3 hwhere; obtain ⟨pv', cv', rfl, hlv⟩ := own_shape hown3; have v3 : w3.cell? ⟨bV, 0, none⟩ = some (.slice pv k cv) := hgrow3.cell (a := ⟨bV, 0, none⟩) ((World.cell?_alloc_lt _ _ _ l2).trans v2) (fun h => H7.out h.symm); have f3 : w3.frozen? ⟨bV, 0, none⟩ = false := (World.frozen?_of_block (a := ⟨bV, 0, none⟩) (hgrow3.block bV (by simp; omega) (fun h => H7.out h.symm))).trans ((((Below.refl w2.heap.size w2).alloc (Nat.le_refl _) _).frozen (p := ⟨bV, 0, none⟩) l2).trans f2))
    | (go_simp; go_at_call 84; refine (xor_dead _ _ _ (HD.out _ (below_drewN HB1.out 1))).mono ?_; rintro e w2 ⟨rfl, hb2⟩; have v2 : w2.cell? ⟨bV, 0, none⟩ = some (.slice pv k cv) := (hb2.cell (p := ⟨bV, 0, none⟩) (by show bV < w1.heap.size; omega)).trans v1; have f2 : w2.frozen? ⟨bV, 0, none⟩ = false := (hb2.frozen (p := ⟨bV, 0, none⟩) (by show bV < w1.heap.size; omega)).trans f1; have l2 : bV < w2.heap.size := (cell_there v2).1))
  all_goals
    have hA : Below w.heap.size w (w2.alloc (.cells #[.int .i64 0] 3)) := (((below_drewN HB1.out 1).trans (hb2.mono (by show w.heap.size ≤ w1.heap.size; omega)))).alloc (by have := hb2.size; have : w1.heap.size ≤ w2.heap.size := this; omega) _
    have HP := Lib.hid (sumst_push HS.out h5' hA hgrow3 hwhere hown3 ⟨_, v3⟩ f3)
    have y0 : w2.cell? ⟨w.heap.size, 0, none⟩ = some (.int .i64 x) := (hb2.cell (p := ⟨w.heap.size, 0, none⟩) (by show w.heap.size < w1.heap.size; omega)).trans x0
    have y1 : w2.cell? ⟨w.heap.size, 1, none⟩ = some (.int .i64 y) := (hb2.cell (p := ⟨w.heap.size, 1, none⟩) (by show w.heap.size < w1.heap.size; omega)).trans x1
    have hwr : some w.heap.size ≠ (Value.slice pv k cv).ownBlock := fun h => by have := (HROW.out _ h.symm); omega
    have z0 : w3.cell? ⟨w.heap.size, 0, none⟩ = some (.int .i64 x) := hgrow3.cell (a := ⟨w.heap.size, 0, none⟩) ((World.cell?_alloc_lt w2 _ ⟨w.heap.size, 0, none⟩ (cell_there y0).1).trans y0) hwr
    have z1 : w3.cell? ⟨w.heap.size, 1, none⟩ = some (.int .i64 y) := hgrow3.cell (a := ⟨w.heap.size, 1, none⟩) ((World.cell?_alloc_lt w2 _ ⟨w.heap.size, 1, none⟩ (cell_there y0).1).trans y1) hwr
    have hVw : ¬ bV = w.heap.size := by omega
    have g0 : (w3.setCell ⟨bV, 0, none⟩ (.slice pv' (k + 1) cv')).cell? ⟨w.heap.size, 0, none⟩ = some (.int .i64 x) := (World.cell?_setCell_other _ _ _ _ (by simp [hVw])).trans z0
    have g1 : (w3.setCell ⟨bV, 0, none⟩ (.slice pv' (k + 1) cv')).cell? ⟨w.heap.size, 1, none⟩ = some (.int .i64 y) := (World.cell?_setCell_other _ _ _ _ (by simp [hVw])).trans z1
    clear hA hgrow3 hwhere hown3 v3 f3 y0 y1 z0 z1 hwr v2 f2 l2 v1 f1 s1 x0 x1 own1 hb2
    generalize w3.setCell ⟨bV, 0, none⟩ (.slice pv' (k + 1) cv') = Y at *
    have HP2 := Lib.hid HP
    obtain ⟨O', hst, hext⟩ := HP.out
    have HST := Lib.hid hst
    have HEX := Lib.hid hext
    have s1 := hst.1
    have hlS' := (cell_there s1).1
    have hlY := (cell_there g0).1
    have HD' : Hid (∀ W, Below Y.heap.size Y W → Dead W (.pointer po)) := fun W hW => HST.out.2.2.1.dead.below hW
    clear hst hext HP HP2
    go_wp2_with fail
    refine (and_dead _ _ _ (HD'.out _ (Below.refl _ _))).mono ?_
    rintro e w5 ⟨rfl, hb5⟩
    have s5 : w5.cell? ⟨bS, 0, none⟩ = some (.pointer po) := (hb5.cell (p := ⟨bS, 0, none⟩) hlS').trans s1
    go_wp2_with fail
    refine (and_dead _ _ _ (HD'.out _ hb5)).mono ?_
    rintro e w6 ⟨rfl, hb6⟩
    have hB6 : Below Y.heap.size Y w6 := hb5.trans (hb6.mono hb5.size)
    have s6 : w6.cell? ⟨bS, 0, none⟩ = some (.pointer po) := (hB6.cell (p := ⟨bS, 0, none⟩) hlS').trans s1
    go_wp2_with fail
    refine (or_dead _ _ _ (HD'.out _ hB6)).mono ?_
    rintro e w7 ⟨rfl, hb7⟩
    have hB7 : Below Y.heap.size Y w7 := hB6.trans (hb7.mono hB6.size)
    go_wp2_with fail
    go_ret
    exact ⟨0, rfl, O', HST.out.below hB7, HEX.out.trans (Ext.of_below hB7)⟩

end Go.Proofs.Ytlnkflmnjkmhkaa
