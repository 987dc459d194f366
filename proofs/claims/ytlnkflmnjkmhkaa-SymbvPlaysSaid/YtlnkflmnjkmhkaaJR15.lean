/-
  Lemmas, joined: AgreeS, RowP.
-/
import Derived.Test.YtlnkflmnjkmhkaaJR14
import Derived.Test.YtlnkflmnjkmhkaaJR07
import Derived.Test.YtlnkflmnjkmhkaaJR01
import Derived.Laws.Rows
import Derived.Laws.Tables
/-
  Contract of symop.Agrees at a store that is there, by its plain law.
-/
namespace Go.Proofs.Ytlnkflmnjkmhkaa
open Go.RowKit Go.Maps

def agStep (fm fv : Int → Bool) (k : Nat) (s : BS) (t x : Int) : BS × Int := if fm k then (if fv k then andF s t x else andF (notF s x).1 t (notF s x).2) else (s, t)
def agreesS (fm fv : Int → Bool) (xs : List Int) (s : BS) : BS × Int := ((foldI (agStep fm fv) xs 1 s xs.length).1, truthS (foldI (agStep fm fv) xs 1 s xs.length).1 (foldI (agStep fm fv) xs 1 s xs.length).2)

/-- What the closure has caught, beside a store. -/
structure AgI (W : World) (b : Nat) (O : Nat → Prop) (s : BS) (bI bP bS : Nat) (i : Int) (v0 v1 m0 m1 : Int) : Prop where
  sto : Sto W b O s
  cI : W.cell? ⟨bI, 0, none⟩ = some (.int .i64 i)
  fI : W.frozen? ⟨bI, 0, none⟩ = false
  cS : W.cell? ⟨bS, 0, none⟩ = some (.pointer (some ⟨b, 0, none⟩))
  cP : PatAt W bP v0 v1 m0 m1
  nI : ¬ O bI
  nP : ¬ O bP
  nS : ¬ O bS
  pI : bP ≠ bI
  sI : bS ≠ bI

theorem AgI.ext {W W' : World} {b : Nat} {O O' : Nat → Prop} {s s' : BS} {bI bP bS : Nat} {i v0 v1 m0 m1 : Int} (h : AgI W b O s bI bP bS i v0 v1 m0 m1) (hs : Sto W' b O' s') (he : Ext O O' W W') : AgI W' b O' s' bI bP bS i v0 v1 m0 m1 := by
  obtain ⟨h1, h2, h3, h4, ⟨p0, p1, p2, p3⟩, h6, h7, h8, h9, h10⟩ := h
  have eI := he.cell (p := ⟨bI, 0, none⟩) (cell_there h2).1 h6
  have eS := he.cell (p := ⟨bS, 0, none⟩) (cell_there h4).1 h8
  have eP := fun o => he.cell (p := ⟨bP, o, none⟩) (cell_there p0).1 h7
  exact ⟨hs, eI.1.trans h2, eI.2.1.trans h3, eS.1.trans h4, ⟨(eP 0).1.trans p0, (eP 1).1.trans p1, (eP 2).1.trans p2, (eP 3).1.trans p3⟩, eI.2.2, (eP 0).2.2, eS.2.2, h9, h10⟩
theorem AgI.below {W W' : World} {b : Nat} {O : Nat → Prop} {s : BS} {bI bP bS : Nat} {i v0 v1 m0 m1 : Int} (h : AgI W b O s bI bP bS i v0 v1 m0 m1) (hb : Below W.heap.size W W') : AgI W' b O s bI bP bS i v0 v1 m0 m1 :=
  h.ext (h.sto.below hb) (Ext.of_below hb)
theorem AgI.set {W : World} {b : Nat} {O : Nat → Prop} {s : BS} {bI bP bS : Nat} {i v0 v1 m0 m1 : Int} (h : AgI W b O s bI bP bS i v0 v1 m0 m1) (j : Int) : AgI (W.setCell ⟨bI, 0, none⟩ (.int .i64 j)) b O s bI bP bS j v0 v1 m0 m1 := by
  obtain ⟨h1, h2, h3, h4, ⟨p0, p1, p2, p3⟩, h6, h7, h8, h9, h10⟩ := h
  have e : ∀ g o, g ≠ bI → (W.setCell ⟨bI, 0, none⟩ (.int .i64 j)).cell? ⟨g, o, none⟩ = W.cell? ⟨g, o, none⟩ := fun g o hg => World.cell?_of_block (Below.heap_setCell W ⟨bI, 0, none⟩ _ g hg)
  exact ⟨h1.setNew h6 _, World.cell?_setCell_same _ _ _ h2, by simpa using h3, (e _ _ h10).trans h4, ⟨(e _ _ h9).trans p0, (e _ _ h9).trans p1, (e _ _ h9).trans p2, (e _ _ h9).trans p3⟩, h6, h7, h8, h9, h10⟩
theorem Ext.setIn {O O' : Nat → Prop} {w w1 : World} (h : Ext O O' w w1) {g o : Nat} (hg : O g) (hg' : O' g) (x : Value) : Ext O O' w (w1.setCell ⟨g, o, none⟩ x) :=
  ⟨⟨h.1.os, h.1.tape, h.1.output, by simpa [World.setCell] using h.1.size, fun k hk hO => (Below.heap_setCell w1 ⟨g, o, none⟩ x k (fun e => hO (by rw [show k = g from e]; exact hg))).trans (h.1.block k hk hO)⟩, h.2⟩

set_option maxRecDepth 100000 in
set_option maxHeartbeats 800000 in
theorem agrees1_sto (b bI bP bS : Nat) (O : Nat → Prop) (s : BS) (k : Nat) (hk : k ≤ 1000000) (t x : Int) (v0 v1 m0 m1 : Int) (fv fm : Int → Bool) (HV : Hid (BitsAre v0 v1 fv)) (HM : Hid (BitsAre m0 m1 fm)) (w : World)
    (h : AgI w b O s bI bP bS ((k : Int) - 1) v0 v1 m0 m1) :
    Calls Try.prog 115 #[.int .i64 t, .int .i64 x, .pointer (some ⟨bI, 0, none⟩), .pointer (some ⟨bP, 0, none⟩), .pointer (some ⟨bS, 0, none⟩)] w
      fun e w' => e = .returned (.int .i64 (agStep fm fv k s t x).2) ∧ ∃ O', AgI w' b O' (agStep fm fv k s t x).1 bI bP bS (k : Int) v0 v1 m0 m1 ∧ Ext (fun j => O j ∨ j = bI) (fun j => O' j ∨ j = bI) w w' := by
  have H0 := Lib.hid h
  have hY := h.set (k : Int)
  have HY := Lib.hid hY
  have HE0 : Hid (Ext (fun j => O j ∨ j = bI) (fun j => O j ∨ j = bI) w (w.setCell ⟨bI, 0, none⟩ (.int .i64 (k : Int)))) := (Ext.refl _ _).setIn (.inr rfl) (.inr rfl) _
  have cI := h.cI
  have fI := h.fI
  obtain ⟨y0, y1, y2, y3⟩ := hY.cP
  have H2 : Hid (∀ O' W, Sto W b O' s → Calls Try.prog 82 #[.pointer (some ⟨b, 0, none⟩), .int .i64 t, .int .i64 x] W (RetS b O' W (andF s t x))) := fun O' W h => and_sto b O' _ _ _ W h
  have H3 : Hid (∀ O' W, Sto W b O' s → Calls Try.prog 85 #[.pointer (some ⟨b, 0, none⟩), .int .i64 x] W (RetS b O' W (notF s x))) := fun O' W h => not_sto b O' _ _ W h
  have H4 : Hid (∀ O' W, Sto W b O' (notF s x).1 → Calls Try.prog 82 #[.pointer (some ⟨b, 0, none⟩), .int .i64 t, .int .i64 (notF s x).2] W (RetS b O' W (andF (notF s x).1 t (notF s x).2))) := fun O' W h => and_sto b O' _ _ _ W h
  have HST : Hid (agStep fm fv k s t x = if fm k then (if fv k then andF s t x else andF (notF s x).1 t (notF s x).2) else (s, t)) := rfl
  generalize agStep fm fv k s t x = rr at *
  generalize andF (notF s x).1 t (notF s x).2 = r4 at *
  generalize notF s x = r3 at *
  generalize andF s t x = r2 at *
  clear h hY
  go_enter Try.func115, Try.ntmps115
  go_wp2_with fail
  generalize w.setCell ⟨bI, 0, none⟩ (.int .i64 (k : Int)) = Y at *
  refine (HM.out _ _).mono ?_
  rintro e w1 ⟨rfl, hb1⟩
  have hA1 := HY.out.below hb1
  have HE1 : Hid (Ext (fun j => O j ∨ j = bI) (fun j => O j ∨ j = bI) w w1) := HE0.out.trans (Ext.of_below hb1)
  obtain ⟨z0, z1, z2, z3⟩ := hA1.cP
  have sS := hA1.cS
  have cI1 := hA1.cI
  have HA1 := Lib.hid hA1
  clear y0 y1 y2 y3 cI fI hb1 hA1
  generalize fm k = bm at *
  cases bm
  · have HR := HST.out
    simp only [Bool.false_eq_true, if_false] at HR
    subst HR
    clear HST
    go_wp2_with fail
    go_ret
    exact ⟨rfl, O, HA1.out, HE1.out⟩
  · go_wp2_with fail
    refine (HV.out _ _).mono ?_
    rintro e w2 ⟨rfl, hb2⟩
    have hA2 := HA1.out.below hb2
    have sS2 := hA2.cS
    have HA2 := Lib.hid hA2
    have HE2 : Hid (Ext (fun j => O j ∨ j = bI) (fun j => O j ∨ j = bI) w w2) := HE1.out.trans (Ext.of_below hb2)
    clear hA2 z0 z1 z2 z3 sS hb2 cI1
    generalize fv k = bv at *
    cases bv
    · have HR := HST.out
      simp only [Bool.false_eq_true, if_false, if_true] at HR
      subst HR
      clear HST
      go_wp2_with fail
      refine (H3.out O _ HA2.out.sto).mono ?_
      rintro e w3 ⟨rfl, O3, hs3, he3⟩
      have hA3 := HA2.out.ext hs3 he3
      have HA3 := Lib.hid hA3
      have sS3 := hA3.cS
      have HE3 := Lib.hid he3
      clear hA3 hs3 he3
      go_wp2_with fail
      refine (H4.out O3 _ HA3.out.sto).mono ?_
      rintro e w4 ⟨rfl, O4, hs4, he4⟩
      have HA4 := Lib.hid (HA3.out.ext hs4 he4)
      have HE4 := Lib.hid he4
      clear hs4 he4
      go_wp2_with fail
      go_ret
      exact ⟨rfl, O4, HA4.out, HE2.out.trans (HE3.out.wider.trans HE4.out.wider)⟩
    · have HR := HST.out
      simp only [if_true] at HR
      subst HR
      clear HST
      go_wp2_with fail
      refine (H2.out O _ HA2.out.sto).mono ?_
      rintro e w3 ⟨rfl, O3, hs3, he3⟩
      have HA3 := Lib.hid (HA2.out.ext hs3 he3)
      have HE3 := Lib.hid he3
      clear hs3 he3
      go_wp2_with fail
      go_ret
      exact ⟨rfl, O3, HA3.out, HE2.out.trans HE3.out.wider⟩

theorem fold_agreesS (b bI bP bS : Nat) (O : Nat → Prop) (s : BS) (va : Value) (xs : List Int) (hxl : xs.length ≤ 1000000) (v0 v1 m0 m1 : Int) (fv fm : Int → Bool) (HV : Hid (BitsAre v0 v1 fv)) (HM : Hid (BitsAre m0 m1 fm)) (w : World)
    (h : AgI w b O s bI bP bS (-1) v0 v1 m0 m1) (ha : IVecX w (fun j => O j ∨ j = bI) va xs) :
    Calls Try.prog 114 #[va, .int .i64 1, .func (.func 115) #[] #[.pointer (some ⟨bI, 0, none⟩), .pointer (some ⟨bP, 0, none⟩), .pointer (some ⟨bS, 0, none⟩)]] w
      fun e w' => e = .returned (.int .i64 (foldI (agStep fm fv) xs 1 s xs.length).2) ∧ ∃ O' i, AgI w' b O' (foldI (agStep fm fv) xs 1 s xs.length).1 bI bP bS i v0 v1 m0 m1 ∧ Ext (fun j => O j ∨ j = bI) (fun j => O' j ∨ j = bI) w w' := by
  refine (fold_int 115 #[] #[.pointer (some ⟨bI, 0, none⟩), .pointer (some ⟨bP, 0, none⟩), .pointer (some ⟨bS, 0, none⟩)] va xs
    (fun k t W => t = (foldI (agStep fm fv) xs 1 s k).2 ∧ ∃ O', AgI W b O' (foldI (agStep fm fv) xs 1 s k).1 bI bP bS ((k : Int) - 1) v0 v1 m0 m1 ∧ Ext (fun j => O j ∨ j = bI) (fun j => O' j ∨ j = bI) w W) 1 w hxl ⟨rfl, O, by simpa [foldI] using h, Ext.refl _ _⟩ ?_ call_agrees1 ?_).mono ?_
  · rintro k t W ⟨-, O', -, h2⟩
    exact (ha.ext h2).1
  · rintro k hk t W ⟨rfl, O', h1, h2⟩
    refine (agrees1_sto b bI bP bS O' _ k (by omega) _ (xs.getD k 0) v0 v1 m0 m1 fv fm HV HM W h1).mono fun e w' ⟨q1, O'', q2, q3⟩ => ⟨_, q1, rfl, O'', ?_, h2.trans q3⟩
    rw [show (((k + 1 : Nat) : Int) - 1) = (k : Int) by omega]
    exact q2
  · rintro e w' ⟨r, h1, rfl, O', h2, h3⟩
    exact ⟨h1, O', _, h2, h3⟩

set_option maxRecDepth 100000 in
set_option maxHeartbeats 1600000 in
theorem agrees_sto (b : Nat) (O : Nat → Prop) (s : BS) (va : Value) (xs : List Int) (v0 v1 m0 m1 : Int) (fv fm : Int → Bool) (HV : Hid (BitsAre v0 v1 fv)) (HM : Hid (BitsAre m0 m1 fm)) (w : World) (hs : Sto w b O s) (ha : IVecX w O va xs) (hxl : xs.length ≤ 1000000) :
    Calls Try.prog 55 #[.pointer (some ⟨b, 0, none⟩), va, .agg #[.int .u64 v0, .int .u64 v1, .int .u64 m0, .int .u64 m1]] w (RetS b O w (agreesS fm fv xs s)) := by
  have HD := Lib.hid hs
  have HA := Lib.hid ha
  clear hs ha
  have hmf := run_makeFunc
  unfold agreesS
  obtain ⟨r, hr⟩ : ∃ r, r = foldI (agStep fm fv) xs 1 s xs.length := ⟨_, rfl⟩
  rw [← hr]
  have HR := Lib.hid hr
  clear hr
  obtain ⟨s1, i1⟩ := r
  dsimp only
  have HT : Hid (∀ O' W, Sto W b O' s1 → Calls Try.prog 109 #[.pointer (some ⟨b, 0, none⟩), .int .i64 i1] W fun e w' => e = .returned (.int .i64 (truthS s1 i1)) ∧ W = w') := fun O' W h => truth_sto b O' s1 i1 W h
  generalize truthS s1 i1 = tr at *
  go_enter Try.func55, Try.ntmps55
  go_wp2_with fail
  generalize hX : ((w.alloc (.cells #[.pointer (some ⟨b, 0, none⟩)] 23)).alloc (.cells #[.int .u64 v0, .int .u64 v1, .int .u64 m0, .int .u64 m1] 43)).alloc (.cells #[.int .i64 (-1)] 3) = X
  have hBX : Below w.heap.size w X := by rw [← hX]; exact (by repeat (first | exact Below.refl _ _ | assumption | refine Below.drew ?_ | refine Below.alloc ?_ (by first | omega | (simp <;> omega)) _ | refine Below.setCell ?_ (by first | omega | (simp <;> omega)) _ | refine Below.trans ?_ (Below.mono (by assumption) (by first | omega | (simp <;> omega)))))
  have hsX : w.heap.size + 1 + 1 < X.heap.size := by rw [← hX]; simp
  have sX : X.drew.cell? ⟨w.heap.size, 0, none⟩ = some (.pointer (some ⟨b, 0, none⟩)) := by rw [← hX]; simp [go_sem]
  have iX : X.drew.cell? ⟨w.heap.size + 1 + 1, 0, none⟩ = some (.int .i64 (-1)) := by rw [← hX]; simp [go_sem]
  have fX : X.drew.frozen? ⟨w.heap.size + 1 + 1, 0, none⟩ = false := by rw [← hX]; simp [go_sem]
  have pX : PatAt X.drew (w.heap.size + 1) v0 v1 m0 m1 := by rw [← hX]; simp [PatAt, go_sem]
  have hBXd : Below w.heap.size w X.drew := below_drewN hBX 1
  have hlt := HD.out.lt
  have hAG : AgI X.drew b O s (w.heap.size + 1 + 1) (w.heap.size + 1) w.heap.size (-1) v0 v1 m0 m1 :=
    ⟨HD.out.below hBXd, iX, fX, sX, pX, fun h => by have := hlt _ h; omega, fun h => by have := hlt _ h; omega, fun h => by have := hlt _ h; omega, by omega, by omega⟩
  have hVX : IVecX X.drew (fun j => O j ∨ j = w.heap.size + 1 + 1) va xs := by
    have h1 := HA.out.below hBXd
    refine ⟨h1.1, fun k hk h0 hO => ?_, h1.2.2⟩
    rcases hO with hO | rfl
    · exact h1.2.1 k hk h0 hO
    · obtain ⟨pa, cap, e, -, -, h4⟩ := HA.out.1
      subst e
      obtain ⟨bb, off, rfl, hb, -⟩ := h4 h0
      simp [Value.ownBlock] at hk
      omega
  have HF : Hid (Calls Try.prog 114 #[va, .int .i64 1, .func (.func 115) #[] #[.pointer (some ⟨w.heap.size + 1 + 1, 0, none⟩), .pointer (some ⟨w.heap.size + 1, 0, none⟩), .pointer (some ⟨w.heap.size, 0, none⟩)]] X.drew fun e W => e = .returned (.int .i64 i1) ∧ ∃ O', Sto W b O' s1 ∧ Ext O O' w W ∧ W.cell? ⟨w.heap.size, 0, none⟩ = some (.pointer (some ⟨b, 0, none⟩))) := by
    refine (fold_agreesS b (w.heap.size + 1 + 1) (w.heap.size + 1) w.heap.size O s va xs hxl v0 v1 m0 m1 fv fm HV HM X.drew hAG hVX).mono ?_
    rw [← HR.out]
    rintro e W ⟨h1, O', i, h2, h3⟩
    refine ⟨h1, O', h2.sto, ?_, h2.cS⟩
    refine ⟨⟨h3.1.os.trans hBXd.os, h3.1.tape.trans hBXd.tape, h3.1.output.trans hBXd.output, Nat.le_trans hBXd.size h3.1.size, fun k hk hO => (h3.1.block k (Nat.lt_of_lt_of_le hk hBXd.size) fun hh => ?_).trans (hBXd.block k hk)⟩, fun k hk => ?_⟩
    · rcases hh with hh | hh
      · exact hO hh
      · omega
    · rcases h3.2 k (.inl hk) with (q | q) | q
      · exact .inl q
      · exact .inr (by omega)
      · exact .inr (Nat.le_trans hBXd.size q)
  have sX' : X.cell? ⟨w.heap.size, 0, none⟩ = some (.pointer (some ⟨b, 0, none⟩)) := sX
  clear hX hBX iX fX pX hBXd HV HM HD HA hlt hAG hVX HR sX
  go_region_with (first
    | (go_at_call 114; refine HF.out.mono ?_; rintro e w2 ⟨rfl, O2, hs2, he2, s2⟩; have HS2 := Lib.hid hs2; have HE2 := Lib.hid he2; clear hs2 he2)
    | (go_at_call 109; refine (HT.out _ _ HS2.out).mono ?_; rintro e w3 ⟨rfl, rfl⟩))
  all_goals
    go_wp2_with fail
    go_ret
    exact ⟨rfl, O2, HS2.out, HE2.out⟩

end Go.Proofs.Ytlnkflmnjkmhkaa

/-
  Rows of 128 bits as plain data.
-/
namespace Go.Proofs.Ytlnkflmnjkmhkaa
open Go.RowKit

/-- The cells of a row of 128 bits. -/
def rowA (f : Nat → Bool) : Array Value := (Array.range 128).map fun i => .bool (f i)
theorem rowA_size (f : Nat → Bool) : (rowA f).size = 128 := by simp [rowA]
theorem rowA_at (f : Nat → Bool) (i : Nat) (h : i < 128) : (rowA f)[i]? = some (.bool (f i)) := by simp [rowA, h]
theorem rowA_one (f : Nat → Bool) : (rowA f).all (·.oneCell') = true := by
  rw [Array.all_eq_true_iff_forall_mem]
  intro v hv
  simp only [rowA, Array.mem_map] at hv
  obtain ⟨i, -, rfl⟩ := hv
  rfl
theorem rowA_congr {f g : Nat → Bool} (h : ∀ i, i < 128 → f i = g i) : rowA f = rowA g := by
  apply Array.ext
  · simp [rowA]
  · intro i h1 h2
    simp only [rowA, Array.size_map, Array.size_range] at h1
    simp [rowA, h i h1]
/-- A row where one bit is another one. -/
def put (f : Nat → Bool) (i : Nat) (b : Bool) : Nat → Bool := fun j => if j = i then b else f j
theorem rowA_put (f : Nat → Bool) (i : Nat) (b : Bool) : (rowA f).setIfInBounds i (.bool b) = rowA (put f i b) := by
  apply Array.ext
  · simp [rowA]
  · intro j h1 h2
    simp only [rowA, Array.size_setIfInBounds, Array.size_map, Array.size_range] at h1
    rw [Array.getElem_setIfInBounds (by simpa [rowA] using h1)]
    simp only [rowA, Array.getElem_map, Array.getElem_range, put]
    by_cases e : i = j
    · subst e; simp
    · rw [if_neg e, if_neg (fun h => e h.symm)]

/-- The number of the first k bits. -/
def ofBits (f : Nat → Bool) : Nat → Nat
  | 0 => 0
  | k + 1 => ofBits f k + (if f k then 2 ^ k else 0)
theorem ofBits_lt (f : Nat → Bool) : ∀ k, ofBits f k < 2 ^ k
  | 0 => by simp [ofBits]
  | k + 1 => by
    have := ofBits_lt f k
    rw [ofBits, Nat.pow_succ]
    split <;> omega
theorem ofBits_testBit (f : Nat → Bool) : ∀ k i, (ofBits f k).testBit i = (decide (i < k) && f i)
  | 0, i => by simp [ofBits]
  | k + 1, i => by
    have ih := ofBits_testBit f k
    have hlt := ofBits_lt f k
    rw [ofBits]
    by_cases hf : f k = true
    · rw [if_pos hf, Nat.add_comm]
      by_cases h : i < k
      · rw [Nat.testBit_two_pow_add_gt h, ih]
        have : decide (i < k + 1) = decide (i < k) := by simp; omega
        rw [this]
      · by_cases e : i = k
        · subst e
          rw [Nat.testBit_two_pow_add_eq, ih]
          simp [hf]
        · have h1 : decide (i < k + 1) = false := by simp; omega
          rw [h1, Bool.false_and]
          apply Nat.testBit_lt_two_pow
          have : 2 ^ (k + 1) ≤ 2 ^ i := Nat.pow_le_pow_right (by omega) (by omega)
          rw [Nat.pow_succ] at this
          omega
    · rw [if_neg hf, Nat.add_zero, ih]
      by_cases h : i = k
      · subst h; simp [hf]
      · have : decide (i < k + 1) = decide (i < k) := by simp; omega
        rw [this]

/-- A number is that of its bits. -/
theorem ofBits_eq {f : Nat → Bool} {k n : Nat} (hn : n < 2 ^ k) (h : ∀ i, i < k → f i = n.testBit i) : ofBits f k = n := by
  apply Nat.eq_of_testBit_eq
  intro i
  rw [ofBits_testBit]
  by_cases hi : i < k
  · simp [hi, h i hi]
  · simp [hi]
    exact Nat.testBit_lt_two_pow (Nat.lt_of_lt_of_le hn (Nat.pow_le_pow_right (by omega) (by omega)))

end Go.Proofs.Ytlnkflmnjkmhkaa
