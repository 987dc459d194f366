/-
  Lemmas, joined: SymopS2, RefS3, Agree.
-/
import Derived.Test.YtlnkflmnjkmhkaaJR13
import Derived.Test.YtlnkflmnjkmhkaaJR12
import Derived.Test.YtlnkflmnjkmhkaaJR08
/-
  Contracts of symop's Eq, Less, AtMost, Any, Add, Sub, Neg at a store that is there, by their plain laws.
-/
namespace Go.Proofs.Ytlnkflmnjkmhkaa
open Go.RowKit Go.Maps

def eqS (xs ys : List Int) (s : BS) : BS × Int := ((foldP eqStep xs ys 1 s (max xs.length ys.length)).1, truthS (foldP eqStep xs ys 1 s (max xs.length ys.length)).1 (foldP eqStep xs ys 1 s (max xs.length ys.length)).2)
def lessS (xs ys : List Int) (s : BS) : BS × Int := ((foldP lessStep xs ys 0 s (max xs.length ys.length)).1, truthS (foldP lessStep xs ys 0 s (max xs.length ys.length)).1 (foldP lessStep xs ys 0 s (max xs.length ys.length)).2)
def atMostS (xs ys : List Int) (s : BS) : BS × Int := notF (lessS ys xs s).1 (lessS ys xs s).2
def anyS (xs : List Int) (s : BS) : BS × Int := ((foldI (fun _ => orF) xs 0 s xs.length).1, truthS (foldI (fun _ => orF) xs 0 s xs.length).1 (foldI (fun _ => orF) xs 0 s xs.length).2)

set_option maxRecDepth 100000 in
set_option maxHeartbeats 1600000 in
theorem eq_sto (b : Nat) (O : Nat → Prop) (s : BS) (va vb : Value) (xs ys : List Int) (w : World) (hs : Sto w b O s) (ha : IVec w va xs) (hb : IVec w vb ys) (hxl : xs.length ≤ 1000000) (hyl : ys.length ≤ 1000000) :
    Calls Try.prog 51 #[.pointer (some ⟨b, 0, none⟩), va, vb] w (RetS b O w (eqS xs ys s)) := by
  have HD := Lib.hid hs
  have HA := Lib.hid ha
  have HB := Lib.hid hb
  have hlt := Lib.hid hs.lt
  unfold eqS
  have HF0 : Hid (∀ v W, max xs.length ys.length ≤ 1000000 → PVecX W O v (max xs.length ys.length) (pairAt xs ys) → Sto W b O s → W.cell? ⟨w.heap.size, 0, none⟩ = some (.pointer (some ⟨b, 0, none⟩)) → Calls Try.prog 110 #[v, .int .i64 1, .func (.func 112) #[] #[.pointer (some ⟨w.heap.size, 0, none⟩)]] W (RetS b O W (foldP eqStep xs ys 1 s (max xs.length ys.length)))) :=
    fun v W hM hv hs hS => foldP_sto 112 eqStep b w.heap.size O s v _ xs ys 1 W hM hv hs hS (fun h => by have := hlt.out _ h; omega) call_eq1 (fun t x y s' O' W' h1 h2 h3 => eq1_sto b w.heap.size O' s' t x y W' h1 h2 h3)
  have hMl : max xs.length ys.length ≤ 1000000 := by omega
  have HPR0 : Hid (∀ W, Below w.heap.size w W → Calls Try.prog 111 #[va, vb] W fun e w' => ∃ v, e = .returned v ∧ PVecX w' O v (max xs.length ys.length) (pairAt xs ys) ∧ Below W.heap.size W w') :=
    fun W hW => pairs_any O va vb xs ys W (fun k hk => Nat.lt_of_lt_of_le (hlt.out k hk) hW.size) (HA.out.below hW) (HB.out.below hW) hxl hyl
  generalize max xs.length ys.length = M at *
  generalize foldP eqStep xs ys 1 s M = r at *
  obtain ⟨s1, i1⟩ := r
  dsimp only
  have HT : Hid (∀ O' W, Sto W b O' s1 → Calls Try.prog 109 #[.pointer (some ⟨b, 0, none⟩), .int .i64 i1] W fun e w' => e = .returned (.int .i64 (truthS s1 i1)) ∧ W = w') := fun O' W h => truth_sto b O' s1 i1 W h
  generalize truthS s1 i1 = tr at *
  clear hs ha hb
  have hmf := run_makeFunc
  go_enter Try.func51, Try.ntmps51
  go_wp2_with fail
  generalize hX : w.alloc (.cells #[.pointer (some ⟨b, 0, none⟩)] 23) = X
  have hBX : Below w.heap.size w X := by rw [← hX]; exact (by repeat (first | exact Below.refl _ _ | assumption | refine Below.drew ?_ | refine Below.alloc ?_ (by first | omega | (simp <;> omega)) _ | refine Below.setCell ?_ (by first | omega | (simp <;> omega)) _ | refine Below.trans ?_ (Below.mono (by assumption) (by first | omega | (simp <;> omega)))))
  have hsX : w.heap.size < X.heap.size := by rw [← hX]; simp
  have sX : X.cell? ⟨w.heap.size, 0, none⟩ = some (.pointer (some ⟨b, 0, none⟩)) := by rw [← hX]; simp [go_sem]
  have HBX := Lib.hid hBX
  have HPR := Lib.hid (HPR0.out X.drew (below_drewN hBX 1))
  have hn : ¬ O w.heap.size := fun h => by have := hlt.out _ h; omega
  clear hX hBX
  go_region_with (first
    | (go_at_call 111; refine HPR.out.mono ?_; rintro e w1 ⟨v, rfl, hv, hb1⟩; have hPV := Lib.hid hv; have s1' : w1.cell? ⟨w.heap.size, 0, none⟩ = some (.pointer (some ⟨b, 0, none⟩)) := (hb1.cell (p := ⟨w.heap.size, 0, none⟩) hsX).trans sX; have hB1 : Hid (Below w.heap.size w w1) := (below_drewN HBX.out 1).trans (hb1.mono (Nat.le_of_lt hsX)); clear hv)
    | (go_at_call 110; refine (HF0.out v w1 hMl hPV.out (HD.out.below hB1.out) s1').mono ?_; rintro e w2 ⟨rfl, O2, hs2, he2⟩; dsimp only at hs2; have HS2 := Lib.hid hs2; have HE2 := Lib.hid he2; have s2' : w2.cell? ⟨w.heap.size, 0, none⟩ = some (.pointer (some ⟨b, 0, none⟩)) := (he2.cell (p := ⟨w.heap.size, 0, none⟩) (cell_there s1').1 hn).1.trans s1'; clear hs2 he2)
    | (go_at_call 109; refine (HT.out _ _ HS2.out).mono ?_; rintro e w3 ⟨rfl, rfl⟩))
  all_goals
    go_wp2_with fail
    go_ret
    exact ⟨rfl, O2, HS2.out, (Ext.of_below hB1.out).trans HE2.out⟩

set_option maxRecDepth 100000 in
set_option maxHeartbeats 1600000 in
theorem less_sto (b : Nat) (O : Nat → Prop) (s : BS) (va vb : Value) (xs ys : List Int) (w : World) (hs : Sto w b O s) (ha : IVec w va xs) (hb : IVec w vb ys) (hxl : xs.length ≤ 1000000) (hyl : ys.length ≤ 1000000) :
    Calls Try.prog 52 #[.pointer (some ⟨b, 0, none⟩), va, vb] w (RetS b O w (lessS xs ys s)) := by
  have HD := Lib.hid hs
  have HA := Lib.hid ha
  have HB := Lib.hid hb
  have hlt := Lib.hid hs.lt
  unfold lessS
  have HF0 : Hid (∀ v W, max xs.length ys.length ≤ 1000000 → PVecX W O v (max xs.length ys.length) (pairAt xs ys) → Sto W b O s → W.cell? ⟨w.heap.size, 0, none⟩ = some (.pointer (some ⟨b, 0, none⟩)) → Calls Try.prog 110 #[v, .int .i64 0, .func (.func 113) #[] #[.pointer (some ⟨w.heap.size, 0, none⟩)]] W (RetS b O W (foldP lessStep xs ys 0 s (max xs.length ys.length)))) :=
    fun v W hM hv hs hS => foldP_sto 113 lessStep b w.heap.size O s v _ xs ys 0 W hM hv hs hS (fun h => by have := hlt.out _ h; omega) call_less1 (fun t x y s' O' W' h1 h2 h3 => less1_sto b w.heap.size O' s' t x y W' h1 h2 h3)
  have hMl : max xs.length ys.length ≤ 1000000 := by omega
  have HPR0 : Hid (∀ W, Below w.heap.size w W → Calls Try.prog 111 #[va, vb] W fun e w' => ∃ v, e = .returned v ∧ PVecX w' O v (max xs.length ys.length) (pairAt xs ys) ∧ Below W.heap.size W w') :=
    fun W hW => pairs_any O va vb xs ys W (fun k hk => Nat.lt_of_lt_of_le (hlt.out k hk) hW.size) (HA.out.below hW) (HB.out.below hW) hxl hyl
  generalize max xs.length ys.length = M at *
  generalize foldP lessStep xs ys 0 s M = r at *
  obtain ⟨s1, i1⟩ := r
  dsimp only
  have HT : Hid (∀ O' W, Sto W b O' s1 → Calls Try.prog 109 #[.pointer (some ⟨b, 0, none⟩), .int .i64 i1] W fun e w' => e = .returned (.int .i64 (truthS s1 i1)) ∧ W = w') := fun O' W h => truth_sto b O' s1 i1 W h
  generalize truthS s1 i1 = tr at *
  clear hs ha hb
  have hmf := run_makeFunc
  go_enter Try.func52, Try.ntmps52
  go_wp2_with fail
  generalize hX : w.alloc (.cells #[.pointer (some ⟨b, 0, none⟩)] 23) = X
  have hBX : Below w.heap.size w X := by rw [← hX]; exact (by repeat (first | exact Below.refl _ _ | assumption | refine Below.drew ?_ | refine Below.alloc ?_ (by first | omega | (simp <;> omega)) _ | refine Below.setCell ?_ (by first | omega | (simp <;> omega)) _ | refine Below.trans ?_ (Below.mono (by assumption) (by first | omega | (simp <;> omega)))))
  have hsX : w.heap.size < X.heap.size := by rw [← hX]; simp
  have sX : X.cell? ⟨w.heap.size, 0, none⟩ = some (.pointer (some ⟨b, 0, none⟩)) := by rw [← hX]; simp [go_sem]
  have HBX := Lib.hid hBX
  have HPR := Lib.hid (HPR0.out X.drew (below_drewN hBX 1))
  have hn : ¬ O w.heap.size := fun h => by have := hlt.out _ h; omega
  clear hX hBX
  go_region_with (first
    | (go_at_call 111; refine HPR.out.mono ?_; rintro e w1 ⟨v, rfl, hv, hb1⟩; have hPV := Lib.hid hv; have s1' : w1.cell? ⟨w.heap.size, 0, none⟩ = some (.pointer (some ⟨b, 0, none⟩)) := (hb1.cell (p := ⟨w.heap.size, 0, none⟩) hsX).trans sX; have hB1 : Hid (Below w.heap.size w w1) := (below_drewN HBX.out 1).trans (hb1.mono (Nat.le_of_lt hsX)); clear hv)
    | (go_at_call 110; refine (HF0.out v w1 hMl hPV.out (HD.out.below hB1.out) s1').mono ?_; rintro e w2 ⟨rfl, O2, hs2, he2⟩; dsimp only at hs2; have HS2 := Lib.hid hs2; have HE2 := Lib.hid he2; have s2' : w2.cell? ⟨w.heap.size, 0, none⟩ = some (.pointer (some ⟨b, 0, none⟩)) := (he2.cell (p := ⟨w.heap.size, 0, none⟩) (cell_there s1').1 hn).1.trans s1'; clear hs2 he2)
    | (go_at_call 109; refine (HT.out _ _ HS2.out).mono ?_; rintro e w3 ⟨rfl, rfl⟩))
  all_goals
    go_wp2_with fail
    go_ret
    exact ⟨rfl, O2, HS2.out, (Ext.of_below hB1.out).trans HE2.out⟩

set_option maxRecDepth 100000 in
set_option maxHeartbeats 400000 in
theorem atMost_sto (b : Nat) (O : Nat → Prop) (s : BS) (va vb : Value) (xs ys : List Int) (w : World) (hs : Sto w b O s) (ha : IVec w va xs) (hb : IVec w vb ys) (hxl : xs.length ≤ 1000000) (hyl : ys.length ≤ 1000000) :
    Calls Try.prog 53 #[.pointer (some ⟨b, 0, none⟩), va, vb] w (RetS b O w (atMostS xs ys s)) := by
  have HL := Lib.hid (less_sto b O s vb va ys xs w hs hb ha hyl hxl)
  have HN : Hid (∀ O' W, Sto W b O' (lessS ys xs s).1 → Calls Try.prog 85 #[.pointer (some ⟨b, 0, none⟩), .int .i64 (lessS ys xs s).2] W (RetS b O' W (atMostS xs ys s))) := fun O' W h => not_sto b O' _ _ W h
  generalize atMostS xs ys s = r2 at *
  generalize lessS ys xs s = r1 at *
  clear hs ha hb
  go_enter Try.func53, Try.ntmps53
  go_wp2_with fail
  refine HL.out.mono ?_
  rintro e w1 ⟨rfl, O1, hs1, he1⟩
  have HS1 := Lib.hid hs1
  have HE1 := Lib.hid he1
  clear hs1 he1
  go_wp2_with fail
  refine (HN.out _ _ HS1.out).mono ?_
  rintro e w2 ⟨rfl, h⟩
  have H := Lib.hid h
  clear h
  go_wp2_with fail
  go_ret
  exact ⟨rfl, H.out.pre HE1.out⟩

set_option maxRecDepth 100000 in
set_option maxHeartbeats 800000 in
theorem any_sto (b : Nat) (O : Nat → Prop) (s : BS) (va : Value) (xs : List Int) (w : World) (hs : Sto w b O s) (ha : IVecX w O va xs) (hxl : xs.length ≤ 1000000) :
    Calls Try.prog 54 #[.pointer (some ⟨b, 0, none⟩), va] w (RetS b O w (anyS xs s)) := by
  have hF : Calls Try.prog 114 #[va, .int .i64 0, .func (.func 83) #[.pointer (some ⟨b, 0, none⟩)] #[]] w (RetS b O w (foldI (fun _ => orF) xs 0 s xs.length)) := by
    refine (fold_int 83 #[.pointer (some ⟨b, 0, none⟩)] #[] va xs (fun k t W => t = (foldI (fun _ => orF) xs 0 s k).2 ∧ ∃ O', Sto W b O' (foldI (fun _ => orF) xs 0 s k).1 ∧ Ext O O' w W) 0 w hxl ⟨rfl, O, hs, Ext.refl _ _⟩ ?_ call_or_m ?_).mono ?_
    · rintro k t W ⟨-, O', -, h⟩
      exact (ha.ext h).1
    · rintro k hk t W ⟨rfl, O', h1, h2⟩
      exact (or_sto b O' _ _ _ W h1).mono fun e' w' ⟨q1, O'', q2, q3⟩ => ⟨_, q1, rfl, O'', q2, h2.trans q3⟩
    · rintro e w' ⟨r, h1, rfl, O', h2, h3⟩
      exact ⟨h1, O', h2, h3⟩
  unfold anyS
  generalize foldI (fun _ => orF) xs 0 s xs.length = r at *
  obtain ⟨s1, i1⟩ := r
  dsimp only at hF ⊢
  have HF := Lib.hid hF
  have HT : Hid (∀ O' W, Sto W b O' s1 → Calls Try.prog 109 #[.pointer (some ⟨b, 0, none⟩), .int .i64 i1] W fun e w' => e = .returned (.int .i64 (truthS s1 i1)) ∧ W = w') := fun O' W h => truth_sto b O' s1 i1 W h
  generalize truthS s1 i1 = tr at *
  clear hs ha hF
  go_enter Try.func54, Try.ntmps54
  go_wp2_with fail
  refine HF.out.mono ?_
  rintro e w1 ⟨rfl, O1, hs1, he1⟩
  dsimp only at hs1
  have HS1 := Lib.hid hs1
  have HE1 := Lib.hid he1
  clear hs1 he1
  go_wp2_with fail
  refine (HT.out _ _ HS1.out).mono ?_
  rintro e w2 ⟨rfl, rfl⟩
  go_wp2_with fail
  go_ret
  exact ⟨rfl, O1, HS1.out, HE1.out⟩

set_option maxRecDepth 100000 in
set_option maxHeartbeats 400000 in
theorem add_sto (b : Nat) (O : Nat → Prop) (s : BS) (va vb : Value) (xs ys : List Int) (w : World) (hs : Sto w b O s) (ha : IVec w va xs) (hb : IVec w vb ys) (hxl : xs.length ≤ 1000000) (hyl : ys.length ≤ 1000000) :
    Calls Try.prog 48 #[.pointer (some ⟨b, 0, none⟩), va, vb] w (RetVS b O w ((sumA xs ys 0 s (max xs.length ys.length)).1, (sumA xs ys 0 s (max xs.length ys.length)).2.2)) := by
  have HS := Lib.hid (sum_sto b O s va vb xs ys 0 w hs ha hb hxl hyl)
  clear hs ha hb
  go_enter Try.func48, Try.ntmps48
  go_wp2_with fail
  refine HS.out.mono ?_
  rintro e w1 ⟨v, O1, rfl, hv⟩
  have H := Lib.hid hv
  clear hv
  go_wp2_with fail
  go_ret
  exact ⟨_, O1, rfl, H.out⟩

/-- A difference: what is taken, as wide as the wider, turned round, and 1. -/
def wideL (xs ys : List Int) : List Int := ys ++ List.replicate (max xs.length ys.length - ys.length) 0
theorem wideL_len (xs ys : List Int) : (wideL xs ys).length = max xs.length ys.length := by simp [wideL]; omega
def notW (xs ys : List Int) (s : BS) : BS × List Int := mapS notF (wideL xs ys) (max xs.length ys.length) s
def subS (xs ys : List Int) (s : BS) : BS × List Int := ((sumA xs (notW xs ys s).2 1 (notW xs ys s).1 (max xs.length ys.length)).1, (sumA xs (notW xs ys s).2 1 (notW xs ys s).1 (max xs.length ys.length)).2.2)

set_option maxRecDepth 100000 in
set_option maxHeartbeats 800000 in
theorem sub_sto (b : Nat) (O : Nat → Prop) (s : BS) (va vb : Value) (xs ys : List Int) (w : World) (hs : Sto w b O s) (ha : IVecX w O va xs) (hb : IVec w vb ys) (hxl : xs.length ≤ 1000000) (hyl : ys.length ≤ 1000000) :
    Calls Try.prog 49 #[.pointer (some ⟨b, 0, none⟩), va, vb] w (RetVS b O w (subS xs ys s)) := by
  obtain ⟨i0, hi, hz0, hz1, hz2⟩ := info_parts Try.infoInt
  have HD := Lib.hid hs
  have HA := Lib.hid ha
  have HB := Lib.hid hb
  have hWL := wideL_len xs ys
  have HN0 : Hid (∀ W, Sto W b O s → ∀ v, IVecX W O v (wideL xs ys) → Calls Try.prog 23 #[.pointer (some ⟨b, 0, none⟩), v] W (RetVS b O W (notW xs ys s))) := fun W h v hv => by
    have := symbvNot_sto b O s v (wideL xs ys) W h hv (by rw [hWL]; omega)
    rw [hWL] at this
    exact this
  have HSM : Hid (∀ O' W v2, IVec W va xs → Sto W b O' (notW xs ys s).1 → IVec W v2 (notW xs ys s).2 → Calls Try.prog 108 #[.pointer (some ⟨b, 0, none⟩), va, v2, .int .i64 1] W (RetVS b O' W (subS xs ys s))) := fun O' W v2 h1 h2 h3 => by
    have hl : (notW xs ys s).2.length = max xs.length ys.length := mapS_len _ _ _ _
    have := sum_sto b O' _ va v2 xs (notW xs ys s).2 1 W h2 h1 h3 hxl (by rw [hl]; omega)
    rw [hl, show max xs.length (max xs.length ys.length) = max xs.length ys.length by omega] at this
    exact this
  have HW : Hid (wideL xs ys = ys ++ List.replicate (max xs.length ys.length - ys.length) 0) := rfl
  generalize subS xs ys s = r2 at *
  generalize notW xs ys s = r1 at *
  generalize wideL xs ys = wl at *
  obtain ⟨M, hM⟩ : ∃ M, M = max xs.length ys.length := ⟨_, rfl⟩
  have hMx : xs.length ≤ M := by omega
  have hMy : ys.length ≤ M := by omega
  have hMm : M ≤ 1000000 := by omega
  have hMo : M ≤ xs.length ∨ M ≤ ys.length := by omega
  rw [← hM] at hWL HW
  have HWL := Lib.hid hWL
  clear hWL hM
  obtain ⟨pa, ca, rfl, ha3, ha4, -⟩ := ha.1.shape
  obtain ⟨pb, cb, rfl, hb3, hb4, hb5⟩ := hb.shape
  have HB5 := Lib.hid hb5
  clear hs ha hb hb5
  have hsz : (Try.prog.info? 3).map (·.size) = some 1 := by rw [hi]; simp [hz1]
  go_enter Try.func49, Try.ntmps49
  go_wp2_with (first
    | (at_make; refine wpList_make_full _ rfl _ _ 34 rfl w.heap.size 3 i0 (.int .i64 0) 1 Try.underlying34 hi hz0 hz1 .i64 .i64 _ _ M rfl rfl (by omega) (by omega) (by rw [hz2]; omega) (by unfold maxLen; omega) (Nat.le_refl _) ?_; intro w0 hown0 hgrow0; rw [toList_madeCells_zero] at hown0; have hb0 : Below w.heap.size w w0 := (Below.refl _ _).grown hgrow0 (Nat.le_refl _) (fun k h => by cases h); have hh := own_heap hown0)
    | (with_reducible refine wpList_copy_splice rfl (.tmp 16) (.tmp 17) 34 34 rfl 3 Try.underlying34 hsz _ _ M M ys.length cb rfl rfl w.heap.size 0 _ 3 hh (ys.map (Value.int .i64)) (by rw [List.length_map]; exact (Nat.min_eq_left hMy).symm) (fun h0 => ⟨rfl, copy_src (HB.out.below hb0) (by simpa using h0)⟩) (by simp; omega) (ints_oneCell .i64 ys) w.heap.size w hb0 (Nat.le_refl _) ?_; intro w2 hh2 hb2))
  all_goals
    have HI : Hid (IVecX w2 O (.slice (some ⟨w.heap.size, 0, none⟩) M M) wl) := by
      refine ⟨?_, fun k hk _ hO => ?_, NilOk.some _ _ _⟩
      · have := IVec.of_heap (w := w2) (g := w.heap.size) (n := M) (t := 3) (zs := ys ++ List.replicate (M - ys.length) 0) (by simp; omega) (by unfold maxLen; omega) (by rw [hh2.out, splice_zero])
        rw [← HW.out] at this
        exact this
      · cases hk; exact Nat.lt_irrefl _ (HD.out.lt _ hO)
    have HN := Lib.hid (HN0.out w2 (HD.out.below hb2) _ HI.out)
    have HB2 := Lib.hid hb2
    clear hh2 hb2 hh hb0 hown0 hgrow0
    refine HN.out.mono ?_
    rintro e w3 ⟨v3, O3, rfl, hv3, hs3, he3⟩
    have HE3 : Hid (Ext O O3 w w3) := (Ext.of_below HB2.out).trans he3
    have HS := Lib.hid (HSM.out O3 w3 v3 (HA.out.ext HE3.out).1 hs3 hv3.1)
    clear hv3 hs3 he3
    go_wp2_with fail
    refine HS.out.mono ?_
    rintro e w4 ⟨v4, O4, rfl, hv4, hs4, he4⟩
    have HF : Hid (IVecX w4 O4 v4 r2.2 ∧ Sto w4 b O4 r2.1 ∧ Ext O O4 w w4) := ⟨hv4, hs4, HE3.out.trans he4⟩
    clear hv4 hs4 he4
    go_wp2_with fail
    go_ret
    exact ⟨_, O4, rfl, HF.out⟩

set_option maxRecDepth 100000 in
set_option maxHeartbeats 400000 in
theorem neg_sto (b : Nat) (O : Nat → Prop) (s : BS) (va : Value) (xs : List Int) (w : World) (hs : Sto w b O s) (ha : IVec w va xs) (hxl : xs.length ≤ 1000000) :
    Calls Try.prog 50 #[.pointer (some ⟨b, 0, none⟩), va] w (RetVS b O w (subS [] xs s)) := by
  have HS := Lib.hid (sub_sto b O s (.slice none 0 0) va [] xs w hs ⟨IVec.nil w, (fun k hk _ => by cases hk), NilOk.nil⟩ ha (by simp) hxl)
  clear hs ha
  go_enter Try.func50, Try.ntmps50
  go_wp2_with fail
  refine HS.out.mono ?_
  rintro e w1 ⟨v, O1, rfl, hv⟩
  have H := Lib.hid hv
  clear hv
  go_wp2_with fail
  go_ret
  exact ⟨_, O1, rfl, H.out⟩

end Go.Proofs.Ytlnkflmnjkmhkaa

/-
  Contracts of the reference's Not, Add, Sub, Neg, by the plain laws.
-/
namespace Go.Proofs.Ytlnkflmnjkmhkaa
open Go.RowKit Go.Maps

theorem IVec.elem {w : World} {pa : Option Addr} {ca n : Nat} {xs : List Int} (h : IVec w (.slice pa n ca) xs) (k : Nat) (hk : k < xs.length) : ∃ ba oa, pa = some ⟨ba, oa, none⟩ ∧ w.cell? ⟨ba, oa + k, none⟩ = some (.int .i64 (xs.getD k 0)) ∧ n = xs.length := by
  obtain ⟨p, c, e, -, -, h4⟩ := h
  simp only [Value.slice.injEq] at e
  obtain ⟨ba, oa, hp, hlt, hc⟩ := h4 (by omega)
  exact ⟨ba, oa, e.1.trans hp, hc k hk, e.2.1⟩

set_option maxRecDepth 100000 in
set_option maxHeartbeats 1600000 in
theorem not17_rs (b : Nat) (O : Nat → Prop) (s : BS) (va : Value) (xs : List Int) (w : World) (hs : RSto w b O s) (ha : IVecX w O va xs) (hxl : xs.length ≤ 1000000) :
    Calls Try.prog 100 #[.pointer (some ⟨b, 0, none⟩), va] w (RetVR b O w (mapS notF xs xs.length s)) := by
  have HR0 : Hid (RowAt b O w s [] (.slice none 0 0) w) := RowAt.start hs
  obtain ⟨pa, ca, rfl, ha3, ha4, -⟩ := ha.1.shape
  have HA := Lib.hid ha
  clear hs ha
  go_enter Try.func100, Try.ntmps100
  go_wp2_with fail
  go_loopw [5, 6] (fun v i wr => ∃ (k : Nat) (p : Option Addr) (cp : Nat), k ≤ xs.length ∧ i = .int .i64 k ∧ v = .slice p k cp ∧ Hid (RowAt b O w (mapS notF xs k s).1 (mapS notF xs k s).2 (.slice p k cp) wr)) (fun _ i _ => xs.length - (intOf i).toNat)
  case atStart => exact ⟨0, none, 0, Nat.zero_le _, rfl, rfl, HR0⟩
  case round =>
    obtain ⟨k, p, cp, hk, rfl, rfl, HK⟩ := hrel
    have hl := mapS_len notF xs k s
    have HSS : Hid (mapS notF xs (k + 1) s = ((notF (mapS notF xs k s).1 (xs.getD k 0)).1, (mapS notF xs k s).2 ++ [(notF (mapS notF xs k s).1 (xs.getD k 0)).2])) := rfl
    have HEND : Hid (k = xs.length → RetVR b O w (mapS notF xs xs.length s) (.returned (.slice p k cp)) wr) := fun e => by rw [← e]; exact HK.out.ret
    have HVA : Hid (IVec wr (.slice pa xs.length ca) xs) := HK.out.vec HA.out
    generalize mapS notF xs k s = st at *
    obtain ⟨s0, zs⟩ := st
    dsimp only at HK HSS hl ⊢
    have HLZ := Lib.hid hl
    clear hl
    by_cases hlt : k < xs.length
    · obtain ⟨ba, oa, rfl, ga, -⟩ := HVA.out.elem k hlt
      have ga2 : ∀ o, (wr.alloc o).cell? ⟨ba, oa + k, none⟩ = some (.int .i64 (xs.getD k 0)) := fun o => (World.cell?_alloc_lt wr o ⟨ba, oa + k, none⟩ (cell_there ga).1).trans ga
      clear HEND HR0 ga2
      generalize xs.getD k 0 = x at *
      have H1 : Hid (Calls Try.prog 130 #[.pointer (some ⟨b, 0, none⟩), .int .i64 x] wr fun e w1 => e = .returned (.int .i64 (notF s0 x).2) ∧ RowAt b O w (notF s0 x).1 zs (.slice p k cp) w1) := HK.out.calls fun O1 h => not_rs b O1 s0 x wr h
      generalize notF s0 x = r1 at *
      obtain ⟨s1, i1⟩ := r1
      dsimp only at H1 HSS ⊢
      go_wp2_with fail
      refine H1.out.mono ?_
      rintro e w2 ⟨rfl, h2⟩
      have hown2 := h2.own
      have R2 := Lib.hid h2
      clear h2
      have hcell : (w2.alloc (.cells #[.int .i64 i1] 3)).cell? ⟨w2.heap.size, 0, none⟩ = some (.int .i64 i1) := by simp [go_sem]
      have hownA := R2.out.own.1.alloc (.cells #[.int .i64 i1] 3)
      have hzl : zs.length ≤ 2000000 := by have := HLZ.out; omega
      have hsz2 := hown2.2
      go_wp2_with (at_builtin; refine append_one rfl (.tmp 13) (.tmp 20) rfl w.heap.size _ zs rfl hownA w2.heap.size i1 rfl hcell hzl (by simp; omega) ?_; intro v3 w3 hown3 hgrow3 hwh3)
      have R3 : Hid (RowAt b O w s1 (zs ++ [i1]) v3 w3) := R2.out.push hown3 hgrow3 hwh3
      obtain ⟨p3, c3, rfl⟩ := R3.out.shape
      have hl3 : (zs ++ [i1]).length = k + 1 := by have := HLZ.out; simp; omega
      rw [hl3] at R3 ⊢
      clear hown3 hgrow3 hwh3 hownA hcell hown2 R2 H1 hl3
      go_roundw
      case rel => exact ⟨k + 1, p3, c3, by omega, by go_num, rfl, by rw [HSS.out]; exact R3.out⟩
      case measure => simp [intOf]; omega
    · obtain rfl : k = xs.length := by omega
      have HE := Lib.hid (HEND.out rfl)
      clear HEND
      go_wp2_with fail
      go_ret
      exact HE.out

set_option maxRecDepth 100000 in
set_option maxHeartbeats 400000 in
theorem add_rs (b : Nat) (O : Nat → Prop) (s : BS) (va vb : Value) (xs ys : List Int) (w : World) (hs : RSto w b O s) (ha : IVecX w O va xs) (hb : IVecX w O vb ys) (hxl : xs.length ≤ 1000000) (hyl : ys.length ≤ 1000000) :
    Calls Try.prog 70 #[.pointer (some ⟨b, 0, none⟩), va, vb] w (RetVR b O w ((sumA xs ys 0 s (max xs.length ys.length)).1, (sumA xs ys 0 s (max xs.length ys.length)).2.2)) := by
  have HS := Lib.hid (sum_rs b O s va vb xs ys 0 w hs ha hb hxl hyl)
  clear hs ha hb
  go_enter Try.func70, Try.ntmps70
  go_wp2_with fail
  refine HS.out.mono ?_
  rintro e w1 ⟨v, O1, rfl, hv⟩
  have H := Lib.hid hv
  clear hv
  go_wp2_with fail
  go_ret
  exact ⟨_, O1, rfl, H.out⟩

/-- The first ones of a list, 0 behind its end. -/
def padL (ys : List Int) (k : Nat) : List Int := (List.range k).map fun i => ys.getD i 0
theorem padL_succ (ys : List Int) (k : Nat) : padL ys (k + 1) = padL ys k ++ [ys.getD k 0] := by simp [padL, List.range_succ]
theorem padL_len (ys : List Int) (k : Nat) : (padL ys k).length = k := by simp [padL]
theorem padL_wide (xs ys : List Int) : padL ys (max xs.length ys.length) = wideL xs ys := by
  apply List.ext_getElem
  · rw [padL_len, wideL_len]
  · intro i h1 h2
    simp only [padL, List.getElem_map, List.getElem_range, wideL]
    by_cases h : i < ys.length
    · rw [List.getElem_append_left h]; simp [h]
    · rw [List.getElem_append_right (by omega), List.getElem_replicate, List.getD_eq_getElem?_getD, List.getElem?_eq_none (by omega)]; rfl

set_option maxRecDepth 100000 in
set_option maxHeartbeats 1600000 in
theorem sub_rs (b : Nat) (O : Nat → Prop) (s : BS) (va vb : Value) (xs ys : List Int) (w : World) (hs : RSto w b O s) (ha : IVecX w O va xs) (hb : IVecX w O vb ys) (hxl : xs.length ≤ 1000000) (hyl : ys.length ≤ 1000000) :
    Calls Try.prog 71 #[.pointer (some ⟨b, 0, none⟩), va, vb] w (RetVR b O w (subS xs ys s)) := by
  have HR0 : Hid (RowAt b O w s [] (.slice none 0 0) w) := RowAt.start hs
  have HWD : Hid (∀ wr s' zs v, RowAt b O w s' zs v wr → Calls Try.prog 128 #[va, vb] wr fun e w' => e = .returned (.int .i64 ((max xs.length ys.length : Nat) : Int)) ∧ wr = w') := fun wr s' zs v h => wide18_any va vb xs ys wr (h.vec ha) (h.vec hb) hxl hyl
  have HBB : Hid (∀ wr s' zs v (i : Nat), i ≤ 1000000 → RowAt b O w s' zs v wr → Calls Try.prog 95 #[vb, .int .i64 (i : Int)] wr fun e w' => e = .returned (.int .i64 (ys.getD i 0)) ∧ wr = w') := fun wr s' zs v i hi h => bit17_any vb ys i wr (h.vec hb) hyl hi
  have HA := Lib.hid ha
  obtain ⟨M, hM⟩ : ∃ M, M = max xs.length ys.length := ⟨_, rfl⟩
  have hMm : M ≤ 1000000 := by omega
  have HMM := Lib.hid hM
  have HPW : Hid (padL ys M = wideL xs ys) := by show _ = _; rw [hM]; exact padL_wide xs ys
  rw [← hM] at HWD
  clear hM hs ha hb
  go_enter Try.func71, Try.ntmps71
  go_wp2_with fail
  go_loopw [7, 8] (fun v i wr => ∃ (k : Nat) (p : Option Addr) (cp : Nat), k ≤ M ∧ i = .int .i64 k ∧ v = .slice p k cp ∧ Hid (RowAt b O w s (padL ys k) (.slice p k cp) wr)) (fun _ i _ => M - (intOf i).toNat)
  case atStart => exact ⟨0, none, 0, Nat.zero_le _, rfl, rfl, HR0⟩
  case round =>
    obtain ⟨k, p, cp, hk, rfl, rfl, HK⟩ := hrel
    have hl := padL_len ys k
    have HWK := Lib.hid (HWD.out wr _ _ _ HK.out)
    by_cases hlt : k < M
    · have HX2 := Lib.hid (HBB.out wr _ _ _ k (by omega) HK.out)
      have HSS : Hid (padL ys (k + 1) = padL ys k ++ [ys.getD k 0]) := padL_succ ys k
      have hown2 := HK.out.own
      generalize padL ys k = zs at *
      generalize ys.getD k 0 = y at *
      have HLZ := Lib.hid hl
      have hcell : (wr.alloc (.cells #[.int .i64 y] 3)).cell? ⟨wr.heap.size, 0, none⟩ = some (.int .i64 y) := by simp [go_sem]
      have hownA := hown2.1.alloc (.cells #[.int .i64 y] 3)
      have hzl : zs.length ≤ 2000000 := by omega
      have hsz2 := hown2.2
      clear hl hown2
      go_wp2_with (first
        | (go_at_call 128; (with_reducible refine HWK.out.mono ?_); rintro e w1 ⟨rfl, rfl⟩)
        | (go_at_call 95; (with_reducible refine HX2.out.mono ?_); rintro e w1 ⟨rfl, rfl⟩)
        | (at_builtin; refine append_one rfl (.tmp 16) (.tmp 20) rfl w.heap.size _ zs rfl hownA wr.heap.size y rfl hcell hzl (by simp; omega) ?_; intro v3 w3 hown3 hgrow3 hwh3))
      have R3 : Hid (RowAt b O w s (zs ++ [y]) v3 w3) := HK.out.push hown3 hgrow3 hwh3
      obtain ⟨p3, c3, rfl⟩ := R3.out.shape
      have hl3 : (zs ++ [y]).length = k + 1 := by have := HLZ.out; simp; omega
      rw [hl3] at R3 ⊢
      clear hown3 hgrow3 hwh3 hownA hcell hl3
      go_roundw
      case rel => exact ⟨k + 1, p3, c3, by omega, by go_num, rfl, by rw [HSS.out]; exact R3.out⟩
      case measure => simp [intOf]; omega
    · obtain rfl : k = M := by omega
      rw [HPW.out] at HK
      have hwl : (wideL xs ys).length = k := by rw [wideL_len, HMM.out]
      obtain ⟨v1, O1, e1, hv1, hs1, hx1⟩ := HK.out.ret
      cases e1
      have HN := Lib.hid (not17_rs b O1 s _ (wideL xs ys) wr hs1 hv1.1 (by rw [hwl]; omega))
      have HX1 := Lib.hid hx1
      have HSUB : Hid (subS xs ys s = ((sumA xs (mapS notF (wideL xs ys) k s).2 1 (mapS notF (wideL xs ys) k s).1 k).1, (sumA xs (mapS notF (wideL xs ys) k s).2 1 (mapS notF (wideL xs ys) k s).1 k).2.2)) := by show _ = _; rw [HMM.out]; rfl
      have hml := mapS_len notF (wideL xs ys) k s
      rw [hwl] at HN
      generalize mapS notF (wideL xs ys) k s = nw at *
      obtain ⟨s2, nl⟩ := nw
      dsimp only at HN HSUB hml
      have HML := Lib.hid hml
      have HMX : Hid (max xs.length nl.length = k) := by show _ = _; rw [hml, HMM.out]; omega
      have HLE : Hid (nl.length ≤ 1000000) := by show _ ≤ _; rw [hml]; exact hMm
      clear hv1 hs1 hx1 hwl hml HBB HR0 HK HPW
      go_wp2_with ((with_reducible refine HWK.out.mono ?_); rintro e w1 ⟨rfl, rfl⟩)
      refine HN.out.mono ?_
      rintro e w2 ⟨v2, O2, rfl, hv2, hs2, hx2⟩
      have hS := sum_rs b O2 s2 va v2 xs nl 1 w2 hs2 ((HA.out.ext HX1.out).ext hx2) hv2.1 hxl HLE.out
      rw [HMX.out] at hS
      have HSM := Lib.hid hS
      have HX2 : Hid (Ext O O2 w w2) := HX1.out.trans hx2
      clear hS hv2 hs2 hx2 HX1 HN
      go_wp2_with fail
      refine HSM.out.mono ?_
      rintro e w3 ⟨v3, O3, rfl, hv3, hs3, hx3⟩
      have HF : Hid (IVecF w w3 O3 v3 (subS xs ys s).2 ∧ RSto w3 b O3 (subS xs ys s).1 ∧ Ext O O3 w w3) := by
        show _ ∧ _
        rw [HSUB.out]
        exact ⟨hv3.sooner HX2.out.1.size, hs3, HX2.out.trans hx3⟩
      clear hv3 hs3 hx3 HSM HSUB
      go_wp2_with fail
      go_ret
      exact ⟨_, O3, rfl, HF.out⟩

set_option maxRecDepth 100000 in
set_option maxHeartbeats 400000 in
theorem neg_rs (b : Nat) (O : Nat → Prop) (s : BS) (va : Value) (xs : List Int) (w : World) (hs : RSto w b O s) (ha : IVecX w O va xs) (hxl : xs.length ≤ 1000000) :
    Calls Try.prog 72 #[.pointer (some ⟨b, 0, none⟩), va] w (RetVR b O w (subS [] xs s)) := by
  have HS := Lib.hid (sub_rs b O s (.slice none 0 0) va [] xs w hs ⟨IVec.nil w, (fun k hk _ => by cases hk), NilOk.nil⟩ ha (by simp) hxl)
  clear hs ha
  go_enter Try.func72, Try.ntmps72
  go_wp2_with fail
  refine HS.out.mono ?_
  rintro e w1 ⟨v, O1, rfl, hv⟩
  have H := Lib.hid hv
  clear hv
  go_wp2_with fail
  go_ret
  exact ⟨_, O1, rfl, H.out⟩

end Go.Proofs.Ytlnkflmnjkmhkaa

/-
  Contracts of symop.Agrees at a store that is not there, or is full: 0.
-/
namespace Go.Proofs.Ytlnkflmnjkmhkaa
open Go.RowKit Go.Maps

/-- A pattern's cells. -/
def PatAt (w : World) (b : Nat) (v0 v1 m0 m1 : Int) : Prop :=
  w.cell? ⟨b, 0, none⟩ = some (.int .u64 v0) ∧ w.cell? ⟨b, 1, none⟩ = some (.int .u64 v1) ∧ w.cell? ⟨b, 2, none⟩ = some (.int .u64 m0) ∧ w.cell? ⟨b, 3, none⟩ = some (.int .u64 m1)
/-- What num.Bit tells of a number given by its parts. -/
def BitsAre (x y : Int) (f : Int → Bool) : Prop := ∀ i W, Calls Try.prog 80 #[.agg #[.int .u64 x, .int .u64 y], .int .i64 i] W fun e w' => e = .returned (.bool (f i)) ∧ Below W.heap.size W w'

theorem PatAt.below {w w' : World} {b n : Nat} {v0 v1 m0 m1 : Int} (h : PatAt w b v0 v1 m0 m1) (hb : Below n w w') (hn : b < n) : PatAt w' b v0 v1 m0 m1 := by
  obtain ⟨h0, h1, h2, h3⟩ := h
  exact ⟨(hb.cell hn).trans h0, (hb.cell hn).trans h1, (hb.cell hn).trans h2, (hb.cell hn).trans h3⟩

set_option maxRecDepth 100000 in
set_option maxHeartbeats 800000 in
theorem agrees1_dead (bI bP bS : Nat) (hP : bP < bI) (hS : bS < bI) (po : Option Addr) (k : Nat) (hk : k ≤ 1000000) (t x : Int) (v0 v1 m0 m1 : Int) (fv fm : Int → Bool) (HV : Hid (BitsAre v0 v1 fv)) (HM : Hid (BitsAre m0 m1 fm)) (w : World)
    (hd : ∀ W, Below bI w W → Dead W (.pointer po)) (cI : w.cell? ⟨bI, 0, none⟩ = some (.int .i64 ((k : Int) - 1))) (fI : w.frozen? ⟨bI, 0, none⟩ = false) (cS : w.cell? ⟨bS, 0, none⟩ = some (.pointer po)) (cP : PatAt w bP v0 v1 m0 m1) :
    Calls Try.prog 115 #[.int .i64 t, .int .i64 x, .pointer (some ⟨bI, 0, none⟩), .pointer (some ⟨bP, 0, none⟩), .pointer (some ⟨bS, 0, none⟩)] w
      (RetJ fun _ w' => Below bI w w' ∧ w'.cell? ⟨bI, 0, none⟩ = some (.int .i64 (k : Int)) ∧ w'.frozen? ⟨bI, 0, none⟩ = false) := by
  have hlI := (cell_there cI).1
  have HB0 : Hid (Below bI w (w.setCell ⟨bI, 0, none⟩ (.int .i64 (k : Int)))) := Lib.hid ((Below.refl bI w).setCell (show bI ≤ (Addr.mk bI 0 none).block from Nat.le_refl bI) _)
  have HY : Hid (∀ W, Below w.heap.size (w.setCell ⟨bI, 0, none⟩ (.int .i64 (k : Int))) W → Below bI w W ∧ (W.cell? ⟨bI, 0, none⟩ = some (.int .i64 (k : Int)) ∧ W.frozen? ⟨bI, 0, none⟩ = false) ∧ W.cell? ⟨bS, 0, none⟩ = some (.pointer po) ∧ PatAt W bP v0 v1 m0 m1 ∧ Dead W (.pointer po)) := by
    intro W hW
    have hB : Below bI w W := HB0.out.trans (hW.mono (Nat.le_of_lt hlI))
    exact ⟨hB, ⟨(hW.cell (p := ⟨bI, 0, none⟩) hlI).trans (World.cell?_setCell_same _ _ _ cI), (hW.frozen (p := ⟨bI, 0, none⟩) hlI).trans (by simpa using fI)⟩, (hB.cell hS).trans cS, cP.below hB hP, hd W hB⟩
  obtain ⟨q0, q1, q2, q3⟩ := cP
  clear hd
  go_enter Try.func115, Try.ntmps115
  go_wp2_with fail
  refine (HM.out _ _).mono ?_
  rintro e w1 ⟨rfl, hb1⟩
  obtain ⟨z1, z2, z3, ⟨y0, y1, y2, y3⟩, z4⟩ := HY.out w1 (hb1.mono (by simp))
  have HF1 := Lib.hid z1
  have HD1 := Lib.hid z4
  clear z1 z4 q0 q1 q2 q3 cI cS
  generalize fm k = bm
  cases bm
  · go_wp2_with fail
    go_ret
    exact ⟨_, rfl, HF1.out, z2⟩
  · go_wp2_with fail
    refine (HV.out _ _).mono ?_
    rintro e w2 ⟨rfl, hb2⟩
    obtain ⟨z1, z2, z3, z5, z4⟩ := HY.out w2 ((hb1.mono (by simp)).trans (hb2.mono (by have := hb1.size; simpa using this)))
    have HF2 := Lib.hid z1
    have HD2 := Lib.hid z4
    have HI2 := Lib.hid z2
    have hs := z1.size
    clear z1 z4 z2 z5 y0 y1 y2 y3 HF1 HD1
    generalize fv k = bv
    have fin : Hid (∀ W, Below w2.heap.size w2 W → Below bI w W ∧ W.cell? ⟨bI, 0, none⟩ = some (.int .i64 (k : Int)) ∧ W.frozen? ⟨bI, 0, none⟩ = false) := fun W hW =>
      let ⟨q1, q2, _⟩ := HY.out W (((hb1.mono (by simp)).trans (hb2.mono (by have := hb1.size; simpa using this))).trans (hW.mono hs))
      ⟨q1, q2⟩
    have hc3 : Hid (∀ W, Below w2.heap.size w2 W → W.cell? ⟨bS, 0, none⟩ = some (.pointer po) ∧ Dead W (.pointer po)) := fun W hW =>
      let ⟨_, _, q3, _, q5⟩ := HY.out W (((hb1.mono (by simp)).trans (hb2.mono (by have := hb1.size; simpa using this))).trans (hW.mono hs))
      ⟨q3, q5⟩
    clear HY
    cases bv
    · go_wp2_with fail
      refine (not_dead _ _ HD2.out).mono ?_
      rintro e w3 ⟨rfl, hb3⟩
      obtain ⟨s3, d3⟩ := hc3.out w3 hb3
      have HD3 := Lib.hid d3
      clear d3
      go_wp2_with fail
      refine (and_dead _ _ _ HD3.out).mono ?_
      rintro e w4 ⟨rfl, hb4⟩
      go_wp2_with fail
      go_ret
      exact ⟨_, rfl, fin.out w4 (hb3.trans (hb4.mono hb3.size))⟩
    · go_wp2_with fail
      refine (and_dead _ _ _ HD2.out).mono ?_
      rintro e w3 ⟨rfl, hb3⟩
      go_wp2_with fail
      go_ret
      exact ⟨_, rfl, fin.out w3 hb3⟩

theorem fold_agrees (bI bP bS : Nat) (hP : bP < bI) (hS : bS < bI) (po : Option Addr) (va : Value) (xs : List Int) (hxl : xs.length ≤ 1000000) (v0 v1 m0 m1 : Int) (fv fm : Int → Bool) (HV : Hid (BitsAre v0 v1 fv)) (HM : Hid (BitsAre m0 m1 fm)) (w : World)
    (hd : ∀ W, Below bI w W → Dead W (.pointer po)) (ha : ∀ W, Below bI w W → IVec W va xs) (cI : w.cell? ⟨bI, 0, none⟩ = some (.int .i64 (-1))) (fI : w.frozen? ⟨bI, 0, none⟩ = false) (cS : w.cell? ⟨bS, 0, none⟩ = some (.pointer po)) (cP : PatAt w bP v0 v1 m0 m1) :
    Calls Try.prog 114 #[va, .int .i64 1, .func (.func 115) #[] #[.pointer (some ⟨bI, 0, none⟩), .pointer (some ⟨bP, 0, none⟩), .pointer (some ⟨bS, 0, none⟩)]] w (RetJ fun _ W => Below bI w W) := by
  have h := fold_int 115 #[] #[.pointer (some ⟨bI, 0, none⟩), .pointer (some ⟨bP, 0, none⟩), .pointer (some ⟨bS, 0, none⟩)] va xs
    (fun k _ W => Below bI w W ∧ W.cell? ⟨bI, 0, none⟩ = some (.int .i64 ((k : Int) - 1)) ∧ W.frozen? ⟨bI, 0, none⟩ = false) 1 w hxl ⟨Below.refl _ _, cI, fI⟩ (fun k t W h => ha W h.1) call_agrees1
    (fun k hk t W ⟨hB, hc, hf⟩ => (agrees1_dead bI bP bS hP hS po k (by omega) t (xs.getD k 0) v0 v1 m0 m1 fv fm HV HM W (fun W' hW => hd W' (hB.trans hW)) hc hf ((hB.cell hS).trans cS) (cP.below hB hP)).mono
      fun e w' ⟨r, h1, h2, h3, h4⟩ => ⟨r, h1, hB.trans h2, by simpa using h3, h4⟩)
  exact h.mono fun e w' ⟨r, h1, h2, _⟩ => ⟨r, h1, h2⟩

set_option maxRecDepth 100000 in
set_option maxHeartbeats 1600000 in
theorem agrees_dead {sp : Value} (va : Value) (xs : List Int) (v0 v1 m0 m1 : Int) (fv fm : Int → Bool) (HV : Hid (BitsAre v0 v1 fv)) (HM : Hid (BitsAre m0 m1 fm)) (w : World) (hd : Dead w sp) (ha : IVec w va xs) (hxl : xs.length ≤ 1000000) :
    Calls Try.prog 55 #[sp, va, .agg #[.int .u64 v0, .int .u64 v1, .int .u64 m0, .int .u64 m1]] w (RetInt w 0) := by
  have HD : Hid (∀ W, Below w.heap.size w W → Dead W sp) := fun W hW => hd.below hW
  have HA : Hid (∀ W, Below w.heap.size w W → IVec W va xs) := fun W hW => ha.below hW
  obtain ⟨po, rfl⟩ := hd.shape
  clear hd ha
  have hmf := run_makeFunc
  go_enter Try.func55, Try.ntmps55
  go_wp2_with fail
  generalize hX : ((w.alloc (.cells #[.pointer po] 23)).alloc (.cells #[.int .u64 v0, .int .u64 v1, .int .u64 m0, .int .u64 m1] 43)).alloc (.cells #[.int .i64 (-1)] 3) = X
  have hBX : Below w.heap.size w X := by rw [← hX]; exact (by repeat (first | exact Below.refl _ _ | assumption | refine Below.drew ?_ | refine Below.alloc ?_ (by first | omega | (simp <;> omega)) _ | refine Below.setCell ?_ (by first | omega | (simp <;> omega)) _ | refine Below.trans ?_ (Below.mono (by assumption) (by first | omega | (simp <;> omega)))))
  have hsX : w.heap.size + 1 + 1 < X.heap.size := by rw [← hX]; simp
  have sX : X.drew.cell? ⟨w.heap.size, 0, none⟩ = some (.pointer po) := by rw [← hX]; simp [go_sem]
  have iX : X.drew.cell? ⟨w.heap.size + 1 + 1, 0, none⟩ = some (.int .i64 (-1)) := by rw [← hX]; simp [go_sem]
  have fX : X.drew.frozen? ⟨w.heap.size + 1 + 1, 0, none⟩ = false := by rw [← hX]; simp [go_sem]
  have pX : PatAt X.drew (w.heap.size + 1) v0 v1 m0 m1 := by rw [← hX]; simp [PatAt, go_sem]
  have hBXd : Below w.heap.size w X.drew := below_drewN hBX 1
  have HF : Hid (Calls Try.prog 114 #[va, .int .i64 1, .func (.func 115) #[] #[.pointer (some ⟨w.heap.size + 1 + 1, 0, none⟩), .pointer (some ⟨w.heap.size + 1, 0, none⟩), .pointer (some ⟨w.heap.size, 0, none⟩)]] X.drew (RetJ fun _ W => Below w.heap.size w W ∧ W.cell? ⟨w.heap.size, 0, none⟩ = some (.pointer po))) :=
    (fold_agrees (w.heap.size + 1 + 1) (w.heap.size + 1) w.heap.size (by omega) (by omega) po va xs hxl v0 v1 m0 m1 fv fm HV HM X.drew (fun W hW => HD.out W (hBXd.trans (hW.mono (by omega)))) (fun W hW => HA.out W (hBXd.trans (hW.mono (by omega)))) iX fX sX pX).mono
      fun e w' ⟨r, h1, h2⟩ => ⟨r, h1, hBXd.trans (h2.mono (by omega)), (h2.cell (p := ⟨w.heap.size, 0, none⟩) (by simp; omega)).trans sX⟩
  have sX' : X.cell? ⟨w.heap.size, 0, none⟩ = some (.pointer po) := sX
  have HT : Hid (∀ W a, Below w.heap.size w W → Calls Try.prog 109 #[.pointer po, .int .i64 a] W fun e w' => e = .returned (.int .i64 0) ∧ W = w') := fun W a hW => truth_dead a W (HD.out W hW)
  have HS : Hid (∀ W, Below w.heap.size w W → True) := fun _ _ => trivial
  clear hX hBX iX fX pX hBXd HV HM HD HA HS
  go_region_with (first
    | (go_at_call 114; refine HF.out.mono ?_; rintro e w2 ⟨r, rfl, hb2, s2⟩)
    | (go_at_call 109; refine (HT.out _ _ hb2).mono ?_; rintro e w3 ⟨rfl, rfl⟩))
  all_goals
    go_wp2_with fail
    go_ret
    exact ⟨rfl, hb2⟩

end Go.Proofs.Ytlnkflmnjkmhkaa
