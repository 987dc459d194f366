/-
  Lemmas, joined: Head3, Head4.
-/
import Derived.Test.YtlnkflmnjkmhkaaJS07
/-
  symhead.own: the phases of its region, and the contract.
-/
namespace Go.Proofs.Ytlnkflmnjkmhkaa
open Go.RowKit Go.Maps

/-- A packet's cells behind k acts of own's region. -/
def ownCells (g pt R V F M d s E a : Value) (k : Nat) (f : Nat → Value) : Array Value := #[g, pt, if 4 < k then f 0 else R, if 6 < k then f 2 else V, F, if 5 < k then f 1 else M, d, s, if 7 < k then f 3 else E, a]

/-- What is known of what the four calls told: Pr k of the first k. -/
structure PrOk (g1 : Nat) (Pr : Nat → (Nat → Value) → World → Prop) : Prop where
  loc : ∀ k f g W, (∀ j, j < k → f j = g j) → Pr k f W → Pr k g W
  later : ∀ k f W W', Pr k f W → Below W.heap.size W W' → Pr k f W'
  box : ∀ f W b j x, g1 ≤ b → b ≤ g1 + 1 → Pr 4 f W → Pr 4 f (W.setCell ⟨b, j, none⟩ x)
  shape : ∀ f W j, j < 4 → Pr 4 f W → ∃ p n c, f j = .slice p n c

def ownPh (w : World) (g pt R V F M d s E a : Value) (Pr : Nat → (Nat → Value) → World → Prop) (k : Nat) (f : Nat → Value) (W : World) : Prop :=
  Below w.heap.size w W ∧ W.heap[w.heap.size]? = some (.cells (ownCells g pt R V F M d s E a k f) 97 (0, 0)) ∧ (∃ cs, W.heap[w.heap.size + 1]? = some (.cells cs 97 (0, 0)) ∧ cs.size = 10) ∧ Pr (min k 4) f W

variable {w : World} {g pt R V F M d s E a : Value} {Pr : Nat → (Nat → Value) → World → Prop}

theorem ownCells_loc {k : Nat} {f h : Nat → Value} (e : ∀ j, j < k → f j = h j) : ownCells g pt R V F M d s E a k f = ownCells g pt R V F M d s E a k h := by
  unfold ownCells
  congr 1
  have e0 : (if 4 < k then f 0 else R) = if 4 < k then h 0 else R := by split; exact e 0 (by omega); rfl
  have e1 : (if 6 < k then f 2 else V) = if 6 < k then h 2 else V := by split; exact e 2 (by omega); rfl
  have e2 : (if 5 < k then f 1 else M) = if 5 < k then h 1 else M := by split; exact e 1 (by omega); rfl
  have e3 : (if 7 < k then f 3 else E) = if 7 < k then h 3 else E := by split; exact e 3 (by omega); rfl
  rw [e0, e1, e2, e3]

theorem ownCells_loc' {j : Nat} {f : Nat → Value} (hj : 4 ≤ j) : ownCells g pt R V F M d s E a (j + 1) f = ownCells g pt R V F M d s E a (j + 1) (fun m => if m = j then undef else f m) := by
  unfold ownCells
  dsimp only
  rw [if_neg (show ¬ 0 = j by omega), if_neg (show ¬ 1 = j by omega), if_neg (show ¬ 2 = j by omega), if_neg (show ¬ 3 = j by omega)]

theorem own_fine (h : PrOk w.heap.size Pr) : (own1S w.heap.size R M V E (ownPh w g pt R V F M d s E a Pr)).Fine where
  loc := fun k f h' W e ⟨h1, h2, h3, h4⟩ => ⟨h1, by rw [← ownCells_loc e]; exact h2, h3, h.loc _ _ _ _ (fun j hj => e j (by omega)) h4⟩
  later := fun k f W W' ⟨h1, h2, ⟨cs, h3, h3'⟩, h4⟩ hb => ⟨h1.trans (hb.mono h1.size), (hb.block _ (lt_of_block h2)).trans h2, ⟨cs, (hb.block _ (lt_of_block h3)).trans h3, h3'⟩, h.later _ _ _ _ h4 hb⟩
  new := fun i P hP => (own1K _ _ _ _ _ _ i P hP).elim

theorem own_cells (k : Nat) (f : Nat → Value) (W : World) (hk : k ≤ 4) (h : ownPh w g pt R V F M d s E a Pr k f W) :
    W.cell? ⟨w.heap.size, 2, none⟩ = some R ∧ W.cell? ⟨w.heap.size, 5, none⟩ = some M ∧ W.cell? ⟨w.heap.size, 3, none⟩ = some V ∧ W.cell? ⟨w.heap.size, 8, none⟩ = some E := by
  obtain ⟨-, h2, -⟩ := h
  have e : ownCells g pt R V F M d s E a k f = #[g, pt, R, V, F, M, d, s, E, a] := by
    unfold ownCells
    rw [if_neg (by omega), if_neg (by omega), if_neg (by omega), if_neg (by omega)]
  rw [e] at h2
  exact ⟨by simp [World.cell?, h2], by simp [World.cell?, h2], by simp [World.cell?, h2], by simp [World.cell?, h2]⟩

theorem own_store (j off : Nat) (f : Nat → Value) (W : World) (h : PrOk w.heap.size Pr) (q : Nat) (hq : q < 4) (hj : 4 ≤ j) (hoff : off < 10)
    (hset : (ownCells g pt R V F M d s E a j f).setIfInBounds off (f q) = ownCells g pt R V F M d s E a (j + 1) f)
    (hp : ownPh w g pt R V F M d s E a Pr j f W) :
    (∃ sp sm sc, f q = .slice sp sm sc) ∧ (∃ y, W.cell? ⟨w.heap.size, off, none⟩ = some y) ∧ W.frozen? ⟨w.heap.size, off, none⟩ = false ∧ ownPh w g pt R V F M d s E a Pr (j + 1) (fun m => if m = j then undef else f m) (W.setCell ⟨w.heap.size, off, none⟩ (f q)) := by
  obtain ⟨h1, h2, ⟨cs, h3, h3'⟩, h4⟩ := hp
  rw [show min j 4 = 4 by omega] at h4
  refine ⟨h.shape f W q hq h4, ?_, by simp [World.frozen?, h2], h1.setCell (Nat.le_refl _) _, ?_, ⟨cs, ?_, h3'⟩, ?_⟩
  · have hs : off < (ownCells g pt R V F M d s E a j f).size := by simp [ownCells]; omega
    exact ⟨(ownCells g pt R V F M d s E a j f)[off], by simp [World.cell?, h2, hs]⟩
  · rw [heap_setCell_same W w.heap.size off _ _ _ h2, hset]
    congr 2
    exact ownCells_loc' hj
  · rw [setCell_heap (by omega)]; exact h3
  · rw [show min (j + 1) 4 = 4 by omega]
    exact h.loc 4 f _ _ (fun m hm => by rw [if_neg (by omega)]) (h.box f W _ off _ (Nat.le_refl _) (by omega) h4)

end Go.Proofs.Ytlnkflmnjkmhkaa

/-
  symhead.own: of a packet without fields, and of one with one field of one header.
-/
namespace Go.Proofs.Ytlnkflmnjkmhkaa
open Go.RowKit Go.Maps

theorem Try.infoVV : (Try.prog.info? 32).map (fun i => (i.zero, i.size, i.bytes)) = some (some (.slice none 0 0), 1, 24) := by kernel_rfl

/-- What own's callees do. -/
def OwnCalls (w : World) (R V M E : Value) (Pr : Nat → (Nat → Value) → World → Prop) : Prop :=
  (∀ f W, Below w.heap.size w W → w.heap.size + 1 < W.heap.size → Pr 0 f W → Calls Try.prog 146 #[R] W fun e w' => ∃ v, e = .returned v ∧ Pr 1 (fun m => if m = 0 then v else f m) w' ∧ Below W.heap.size W w') ∧
  (∀ f W, Below w.heap.size w W → w.heap.size + 1 < W.heap.size → Pr 1 f W → Calls Try.prog 146 #[M] W fun e w' => ∃ v, e = .returned v ∧ Pr 2 (fun m => if m = 1 then v else f m) w' ∧ Below W.heap.size W w') ∧
  (∀ f W, Below w.heap.size w W → w.heap.size + 1 < W.heap.size → Pr 2 f W → Calls Try.prog 148 #[V] W fun e w' => ∃ v, e = .returned v ∧ Pr 3 (fun m => if m = 2 then v else f m) w' ∧ Below W.heap.size W w') ∧
  (∀ f W, Below w.heap.size w W → w.heap.size + 1 < W.heap.size → Pr 3 f W → Calls Try.prog 123 #[E] W fun e w' => ∃ v, e = .returned v ∧ Pr 4 (fun m => if m = 3 then v else f m) w' ∧ Below W.heap.size W w')

theorem ownPh_call {w : World} {g pt R V F M d s E a : Value} {Pr : Nat → (Nat → Value) → World → Prop} {k fn : Nat} {av : Array Value} (hk : k < 4)
    (hc : ∀ f W, Below w.heap.size w W → w.heap.size + 1 < W.heap.size → Pr k f W → Calls Try.prog fn av W fun e w' => ∃ v, e = .returned v ∧ Pr (k + 1) (fun m => if m = k then v else f m) w' ∧ Below W.heap.size W w') :
    ∀ f W, ownPh w g pt R V F M d s E a Pr k f W → Calls Try.prog fn av W fun e w' => ∃ v, e = .returned v ∧ ownPh w g pt R V F M d s E a Pr (k + 1) (fun m => if m = k then v else f m) w' ∧ Below W.heap.size W w' := by
  rintro f W ⟨h1, h2, ⟨cs, h3, h3'⟩, h4⟩
  rw [show min k 4 = k by omega] at h4
  refine (hc f W h1 (lt_of_block h3) h4).mono ?_
  rintro e w' ⟨v, rfl, h5, h6⟩
  refine ⟨v, rfl, ⟨h1.trans (h6.mono h1.size), ?_, ⟨cs, (h6.block _ (lt_of_block h3)).trans h3, h3'⟩, by rw [show min (k + 1) 4 = k + 1 by omega]; exact h5⟩, h6⟩
  rw [h6.block _ (lt_of_block h2), h2]
  congr 2
  unfold ownCells
  rw [if_neg (show ¬ 4 < k by omega), if_neg (show ¬ 6 < k by omega), if_neg (show ¬ 5 < k by omega), if_neg (show ¬ 7 < k by omega), if_neg (show ¬ 4 < k + 1 by omega), if_neg (show ¬ 6 < k + 1 by omega), if_neg (show ¬ 5 < k + 1 by omega), if_neg (show ¬ 7 < k + 1 by omega)]

/-- How own ends where there are no fields. -/
def OwnR0 (w : World) (g pt d s a : Int) (Pr : Nat → (Nat → Value) → World → Prop) (e : Ending) (w' : World) : Prop :=
  ∃ (f : Nat → Value) (b : Addr), e = .returned (.agg #[.int .i64 g, .int .i64 pt, f 0, f 2, .slice (some b) 0 0, f 1, .int .i64 d, .int .i64 s, f 3, .int .i64 a]) ∧ Pr 4 f w' ∧ Below w.heap.size w w'

theorem PrOk.set {g1 : Nat} {Pr : Nat → (Nat → Value) → World → Prop} (h : PrOk g1 Pr) {f : Nat → Value} {W : World} (hp : Pr 4 f W) (j : Nat) (x : Value) : Pr 4 f (W.setCell ⟨g1 + 1, j, none⟩ x) := h.box f W _ j x (by omega) (Nat.le_refl _) hp

set_option maxRecDepth 100000 in
set_option maxHeartbeats 3000000 in
theorem own_f0 (g pt d s a : Int) (pf : Option Addr) (cf : Nat) (R V M E : Value) (Pr : Nat → (Nat → Value) → World → Prop) (w : World) (hPr : PrOk w.heap.size Pr) (h0 : ∀ f, Pr 0 f w) (hC : OwnCalls w R V M E Pr)
    (hR : ∃ p n c, R = .slice p n c) (hV : ∃ p n c, V = .slice p n c) (hM : ∃ p n c, M = .slice p n c) (hE : ∃ p n c, E = .slice p n c) :
    Calls Try.prog 117 #[.agg #[.int .i64 g, .int .i64 pt, R, V, .slice pf 0 cf, M, .int .i64 d, .int .i64 s, E, .int .i64 a]] w fun e w' =>
      OwnR0 w g pt d s a Pr e w' := by
  obtain ⟨i0, hi, hz0, hz1, hz2⟩ := info_parts Try.infoVV
  have HPR := Lib.hid hPr
  have HFI := Lib.hid (own_fine (g := .int .i64 g) (pt := .int .i64 pt) (R := R) (V := V) (F := .slice pf 0 cf) (M := M) (d := .int .i64 d) (s := .int .i64 s) (E := E) (a := .int .i64 a) hPr)
  obtain ⟨hc0, hc1, hc2, hc3⟩ := hC
  have HC0 := Lib.hid (ownPh_call (w := w) (g := .int .i64 g) (pt := .int .i64 pt) (R := R) (V := V) (F := .slice pf 0 cf) (M := M) (d := .int .i64 d) (s := .int .i64 s) (E := E) (a := .int .i64 a) (k := 0) (by omega) hc0)
  have HC1 := Lib.hid (ownPh_call (w := w) (g := .int .i64 g) (pt := .int .i64 pt) (R := R) (V := V) (F := .slice pf 0 cf) (M := M) (d := .int .i64 d) (s := .int .i64 s) (E := E) (a := .int .i64 a) (k := 1) (by omega) hc1)
  have HC2 := Lib.hid (ownPh_call (w := w) (g := .int .i64 g) (pt := .int .i64 pt) (R := R) (V := V) (F := .slice pf 0 cf) (M := M) (d := .int .i64 d) (s := .int .i64 s) (E := E) (a := .int .i64 a) (k := 2) (by omega) hc2)
  have HC3 := Lib.hid (ownPh_call (w := w) (g := .int .i64 g) (pt := .int .i64 pt) (R := R) (V := V) (F := .slice pf 0 cf) (M := M) (d := .int .i64 d) (s := .int .i64 s) (E := E) (a := .int .i64 a) (k := 3) (by omega) hc3)
  have HH0 := Lib.hid h0
  clear hPr hc0 hc1 hc2 hc3 h0
  obtain ⟨pR, nR, cR, rfl⟩ := hR
  obtain ⟨pV, nV, cV, rfl⟩ := hV
  obtain ⟨pM, nM, cM, rfl⟩ := hM
  obtain ⟨pE, nE, cE, rfl⟩ := hE
  go_enter Try.func117, Try.ntmps117
  go_wp2_with fail
  obtain ⟨A, hA⟩ : ∃ A, A = ((w.alloc (.cells #[.int .i64 g, .int .i64 pt, .slice pR nR cR, .slice pV nV cV, .slice pf 0 cf, .slice pM nM cM, .int .i64 d, .int .i64 s, .slice pE nE cE, .int .i64 a] 97)).alloc (.cells #[.int .i64 0, .int .i64 0, .slice none 0 0, .slice none 0 0, .slice none 0 0, .slice none 0 0, .int .i64 0, .int .i64 0, .slice none 0 0, .int .i64 0] 97)) := ⟨_, rfl⟩
  have hbA : Below w.heap.size w A := by rw [hA]; exact (by repeat (first | exact Below.refl _ _ | assumption | refine Below.drew ?_ | refine Below.alloc ?_ (by first | omega | (simp <;> omega)) _ | refine Below.setCell ?_ (by first | omega | (simp <;> omega)) _ | refine Below.trans ?_ (Below.mono (by assumption) (by first | omega | (simp <;> omega)))))
  have HS0 : Hid (∀ f, ownPh w (.int .i64 g) (.int .i64 pt) (.slice pR nR cR) (.slice pV nV cV) (.slice pf 0 cf) (.slice pM nM cM) (.int .i64 d) (.int .i64 s) (.slice pE nE cE) (.int .i64 a) Pr 0 f A) := fun f => by
    refine ⟨hbA, ?_, ?_, HPR.out.later 0 f _ _ (HH0.out f) hbA⟩
    · rw [hA, Below.heap_alloc _ _ _ (by simp), heap_new]; rfl
    · refine ⟨#[.int .i64 0, .int .i64 0, .slice none 0 0, .slice none 0 0, .slice none 0 0, .slice none 0 0, .int .i64 0, .int .i64 0, .slice none 0 0, .int .i64 0], ?_, rfl⟩
      rw [hA]
      have := heap_new (w.alloc (.cells #[.int .i64 g, .int .i64 pt, .slice pR nR cR, .slice pV nV cV, .slice pf 0 cf, .slice pM nM cM, .int .i64 d, .int .i64 s, .slice pE nE cE, .int .i64 a] 97)) (.cells #[.int .i64 0, .int .i64 0, .slice none 0 0, .slice none 0 0, .slice none 0 0, .slice none 0 0, .int .i64 0, .int .i64 0, .slice none 0 0, .int .i64 0] 97)
      simp only [World.size_alloc] at this
      exact this
  rw [← hA]
  clear hA hbA HH0
  refine own1 w.heap.size (.slice pR nR cR) (.slice pM nM cM) (.slice pV nV cV) (.slice pE nE cE) _ A HFI HS0 (fun k f W hk hp => own_cells k f W hk hp) HC0 HC1 HC2 HC3
    (fun f W hp => own_store 4 2 f W HPR.out 0 (by omega) (by omega) (by omega) (by rfl) hp) (fun f W hp => own_store 5 5 f W HPR.out 1 (by omega) (by omega) (by omega) (by rfl) hp)
    (fun f W hp => own_store 6 3 f W HPR.out 2 (by omega) (by omega) (by omega) (by rfl) hp) (fun f W hp => own_store 7 8 f W HPR.out 3 (by omega) (by omega) (by omega) (by rfl) hp) _ _ _ _ _ _ _ _ _ _ _ _ _ _ _ _ _ _ _ _ _ _ _ _ _ _ _ _ _ _ _ _ _ _ _ _ _ _ _ _ _ _ _ ?_
  intro u0 u1 u2 u3 u4 u5 u6 u7 u8 u9 u10 u11 u12 u14 u16 u18 w4 hp
  dsimp only
  obtain ⟨hB, hbox, ⟨cs, hres, hcs⟩, hP4⟩ := hp
  have HP4 := Lib.hid (show Pr 4 _ w4 from hP4)
  have HB := Lib.hid hB
  obtain ⟨p0, m0, k0, e0⟩ := HPR.out.shape _ w4 0 (by omega) hP4
  obtain ⟨p1, m1, k1, e1⟩ := HPR.out.shape _ w4 1 (by omega) hP4
  obtain ⟨p2, m2, k2, e2⟩ := HPR.out.shape _ w4 2 (by omega) hP4
  obtain ⟨p3, m3, k3, e3⟩ := HPR.out.shape _ w4 3 (by omega) hP4
  have e0 : u2 = .slice p0 m0 k0 := e0
  have e1 : u5 = .slice p1 m1 k1 := e1
  have e2 : u8 = .slice p2 m2 k2 := e2
  have e3 : u11 = .slice p3 m3 k3 := e3
  subst e0 e1 e2 e3
  have HBOX : Hid (w4.heap[w.heap.size]? = some (.cells #[.int .i64 g, .int .i64 pt, .slice p0 m0 k0, .slice p2 m2 k2, .slice pf 0 cf, .slice p1 m1 k1, .int .i64 d, .int .i64 s, .slice p3 m3 k3, .int .i64 a] 97 (0, 0))) := hbox
  have c4 : w4.cell? ⟨w.heap.size, 4, none⟩ = some (.slice pf 0 cf) := by simp [World.cell?, HBOX.out]
  have HRES := Lib.hid hres
  clear hB hbox hres hP4
  obtain ⟨vf, hvf⟩ : ∃ vf : Nat → Value, vf = fun j => if j = 0 then .slice p0 m0 k0 else if j = 1 then .slice p1 m1 k1 else if j = 2 then .slice p2 m2 k2 else .slice p3 m3 k3 := ⟨_, rfl⟩
  have HPV : Hid (Pr 4 vf w4) := HPR.out.loc 4 _ _ _ (fun j hj => by
    rw [hvf]
    match j, hj with
    | 0, _ => rfl
    | 1, _ => rfl
    | 2, _ => rfl
    | 3, _ => rfl) HP4.out
  have HVF := Lib.hid hvf
  clear hvf HP4 HFI HC0 HC1 HC2 HC3 HS0
  go_wp2_with (first
    | (at_make; refine wpList_make_full _ rfl _ _ 95 rfl w4.heap.size 32 i0 (.slice none 0 0) 1 Try.underlying95 hi hz0 hz1 .i64 .i64 _ _ 0 rfl rfl rfl rfl (by rw [hz2]; omega) (by unfold maxLen; omega) (Nat.le_refl _) ?_; intro w5 hown0 hgrow0
       have hb5 : Below w4.heap.size w4 w5 := (Below.refl _ _).grown hgrow0 (Nat.le_refl _) (fun k h => by cases h)
       have hbx := (hb5.block _ (lt_of_block HBOX.out)).trans HBOX.out
       have hrs := (hb5.block _ (lt_of_block HRES.out)).trans HRES.out
       have HB5 : Hid (Below w.heap.size w w5) := HB.out.trans (hb5.mono HB.out.size)
       have HPV5 : Hid (Pr 4 vf w5) := HPR.out.later 4 _ _ _ HPV.out hb5
       have d0 : w5.cell? ⟨w.heap.size, 0, none⟩ = some (.int .i64 g) := by simp [World.cell?, hbx]
       have d1 : w5.cell? ⟨w.heap.size, 1, none⟩ = some (.int .i64 pt) := by simp [World.cell?, hbx]
       have d2 : w5.cell? ⟨w.heap.size, 2, none⟩ = some (.slice p0 m0 k0) := by simp [World.cell?, hbx]
       have d3 : w5.cell? ⟨w.heap.size, 3, none⟩ = some (.slice p2 m2 k2) := by simp [World.cell?, hbx]
       have d4 : w5.cell? ⟨w.heap.size, 4, none⟩ = some (.slice pf 0 cf) := by simp [World.cell?, hbx]
       have d5 : w5.cell? ⟨w.heap.size, 5, none⟩ = some (.slice p1 m1 k1) := by simp [World.cell?, hbx]
       have d6 : w5.cell? ⟨w.heap.size, 6, none⟩ = some (.int .i64 d) := by simp [World.cell?, hbx]
       have d7 : w5.cell? ⟨w.heap.size, 7, none⟩ = some (.int .i64 s) := by simp [World.cell?, hbx]
       have d8 : w5.cell? ⟨w.heap.size, 8, none⟩ = some (.slice p3 m3 k3) := by simp [World.cell?, hbx]
       have d9 : w5.cell? ⟨w.heap.size, 9, none⟩ = some (.int .i64 a) := by simp [World.cell?, hbx]
       have f4 : ∀ j, w5.frozen? ⟨w.heap.size, j, none⟩ = false := fun j => by simp [World.frozen?, hbx]
       have f5 : ∀ j, w5.frozen? ⟨w.heap.size + 1, j, none⟩ = false := fun j => by simp [World.frozen?, hrs]
       have r0 : w5.cell? ⟨w.heap.size + 1, 0, none⟩ = some (cs[0]'(by omega)) := by simp [World.cell?, hrs, hcs]
       have r1 : w5.cell? ⟨w.heap.size + 1, 1, none⟩ = some (cs[1]'(by omega)) := by simp [World.cell?, hrs, hcs]
       have r2 : w5.cell? ⟨w.heap.size + 1, 2, none⟩ = some (cs[2]'(by omega)) := by simp [World.cell?, hrs, hcs]
       have r3 : w5.cell? ⟨w.heap.size + 1, 3, none⟩ = some (cs[3]'(by omega)) := by simp [World.cell?, hrs, hcs]
       have r4 : w5.cell? ⟨w.heap.size + 1, 4, none⟩ = some (cs[4]'(by omega)) := by simp [World.cell?, hrs, hcs]
       have r5 : w5.cell? ⟨w.heap.size + 1, 5, none⟩ = some (cs[5]'(by omega)) := by simp [World.cell?, hrs, hcs]
       have r6 : w5.cell? ⟨w.heap.size + 1, 6, none⟩ = some (cs[6]'(by omega)) := by simp [World.cell?, hrs, hcs]
       have r7 : w5.cell? ⟨w.heap.size + 1, 7, none⟩ = some (cs[7]'(by omega)) := by simp [World.cell?, hrs, hcs]
       have r8 : w5.cell? ⟨w.heap.size + 1, 8, none⟩ = some (cs[8]'(by omega)) := by simp [World.cell?, hrs, hcs]
       have r9 : w5.cell? ⟨w.heap.size + 1, 9, none⟩ = some (cs[9]'(by omega)) := by simp [World.cell?, hrs, hcs]
       clear hown0 hgrow0 hb5 hbx hrs c4))
  go_loop [29] (fun i => i = .int .i64 0) (fun _ => 0)
  case atStart => exact rfl
  case round =>
    obtain rfl := hrel
    go_wp2_with fail
    refine bodyPost_ret (v := .agg #[.int .i64 g, .int .i64 pt, .slice p0 m0 k0, .slice p2 m2 k2, .slice (some ⟨w4.heap.size, 0, none⟩) 0 0, .slice p1 m1 k1, .int .i64 d, .int .i64 s, .slice p3 m3 k3, .int .i64 a]) (by simp [results, Try.results117, go_sem, r0, r1, r2, r3, r4, r5, r6, r7, r8, r9]) rfl ?_
    refine ⟨vf, _, by rw [HVF.out]; rfl, ?_, ?_⟩
    · exact HPR.out.set (HPR.out.set (HPR.out.set (HPR.out.set (HPR.out.set (HPR.out.set (HPR.out.set (HPR.out.set (HPR.out.set (HPR.out.set (HPR.out.box vf _ _ 4 _ (Nat.le_refl _) (by omega) HPV5.out) _ _) _ _) _ _) _ _) _ _) _ _) _ _) _ _) _ _) _ _
    · exact ((((((((((HB5.out.setCell (Nat.le_refl _) _).setCell (Nat.le_succ _) _).setCell (Nat.le_succ _) _).setCell (Nat.le_succ _) _).setCell (Nat.le_succ _) _).setCell (Nat.le_succ _) _).setCell (Nat.le_succ _) _).setCell (Nat.le_succ _) _).setCell (Nat.le_succ _) _).setCell (Nat.le_succ _) _).setCell (Nat.le_succ _) _

/-- The field's row: at lo. -/
def FldR (lo : Nat) (W : World) : Prop := ∃ q, lo < q ∧ W.cell? ⟨lo, 0, none⟩ = some (.slice (some ⟨q, 0, none⟩) 1 1) ∧ (∃ zv, W.cell? ⟨q, 0, none⟩ = some zv) ∧ W.frozen? ⟨q, 0, none⟩ = false
theorem FldR.set {lo b : Nat} {W : World} (h : FldR lo W) (hb : b < lo) (j : Nat) (x : Value) : FldR lo (W.setCell ⟨b, j, none⟩ x) := by
  obtain ⟨q, h1, h2, ⟨zv, h3⟩, h4⟩ := h
  refine ⟨q, h1, (World.cell?_of_block (a := ⟨lo, 0, none⟩) (setCell_heap (by show lo ≠ b; omega))).trans h2, ⟨zv, (World.cell?_of_block (a := ⟨q, 0, none⟩) (setCell_heap (by show q ≠ b; omega))).trans h3⟩, (World.frozen?_of_block (a := ⟨q, 0, none⟩) (setCell_heap (by show q ≠ b; omega))).trans h4⟩
/-- How own ends where there is one field of one header. -/
def OwnR1 (w : World) (g pt d s a : Int) (Pr : Nat → (Nat → Value) → World → Prop) (e : Ending) (w' : World) : Prop :=
  ∃ (f : Nat → Value) (lo : Nat) (W4 : World), e = .returned (.agg #[.int .i64 g, .int .i64 pt, f 0, f 2, .slice (some ⟨lo, 0, none⟩) 1 1, f 1, .int .i64 d, .int .i64 s, f 3, .int .i64 a]) ∧ Pr 4 f w' ∧ Below w.heap.size w w' ∧ Pr 4 f W4 ∧ (W4.heap.size = lo ∧ w.heap.size + 1 < lo) ∧ FldR lo w'

set_option maxRecDepth 100000 in
set_option maxHeartbeats 3000000 in
theorem own_f1 (g pt d s a : Int) (f0 fc r rc n ca : Nat) (a0 : Addr) (zs : List Int) (R V M E : Value) (Pr : Nat → (Nat → Value) → World → Prop) (w : World) (hPr : PrOk w.heap.size Pr) (h0 : ∀ f, Pr 0 f w) (hC : OwnCalls w R V M E Pr)
    (hn : zs.length = n) (hfc : 1 ≤ fc) (hrc : 1 ≤ rc) (hF0 : w.cell? ⟨f0, 0, none⟩ = some (.slice (some ⟨r, 0, none⟩) 1 rc)) (hF1 : w.cell? ⟨r, 0, none⟩ = some (.slice (some a0) n ca)) (hF2 : IVec w (.slice (some a0) n ca) zs) (hzl : zs.length ≤ 1000000)
    (hR : ∃ p n c, R = .slice p n c) (hV : ∃ p n c, V = .slice p n c) (hM : ∃ p n c, M = .slice p n c) (hE : ∃ p n c, E = .slice p n c) :
    Calls Try.prog 117 #[.agg #[.int .i64 g, .int .i64 pt, R, V, .slice (some ⟨f0, 0, none⟩) 1 fc, M, .int .i64 d, .int .i64 s, E, .int .i64 a]] w fun e w' =>
      OwnR1 w g pt d s a Pr e w' := by
  obtain ⟨i0, hi, hz0, hz1, hz2⟩ := info_parts Try.infoVV
  have HPR := Lib.hid hPr
  have HFI := Lib.hid (own_fine (g := .int .i64 g) (pt := .int .i64 pt) (R := R) (V := V) (F := .slice (some ⟨f0, 0, none⟩) 1 fc) (M := M) (d := .int .i64 d) (s := .int .i64 s) (E := E) (a := .int .i64 a) hPr)
  obtain ⟨hc0, hc1, hc2, hc3⟩ := hC
  have HC0 := Lib.hid (ownPh_call (w := w) (g := .int .i64 g) (pt := .int .i64 pt) (R := R) (V := V) (F := .slice (some ⟨f0, 0, none⟩) 1 fc) (M := M) (d := .int .i64 d) (s := .int .i64 s) (E := E) (a := .int .i64 a) (k := 0) (by omega) hc0)
  have HC1 := Lib.hid (ownPh_call (w := w) (g := .int .i64 g) (pt := .int .i64 pt) (R := R) (V := V) (F := .slice (some ⟨f0, 0, none⟩) 1 fc) (M := M) (d := .int .i64 d) (s := .int .i64 s) (E := E) (a := .int .i64 a) (k := 1) (by omega) hc1)
  have HC2 := Lib.hid (ownPh_call (w := w) (g := .int .i64 g) (pt := .int .i64 pt) (R := R) (V := V) (F := .slice (some ⟨f0, 0, none⟩) 1 fc) (M := M) (d := .int .i64 d) (s := .int .i64 s) (E := E) (a := .int .i64 a) (k := 2) (by omega) hc2)
  have HC3 := Lib.hid (ownPh_call (w := w) (g := .int .i64 g) (pt := .int .i64 pt) (R := R) (V := V) (F := .slice (some ⟨f0, 0, none⟩) 1 fc) (M := M) (d := .int .i64 d) (s := .int .i64 s) (E := E) (a := .int .i64 a) (k := 3) (by omega) hc3)
  have HH0 := Lib.hid h0
  have HVC : Hid (∀ W, Below w.heap.size w W → Calls Try.prog 146 #[.slice (some ⟨r, 0, none⟩) 1 rc] W (VecsR W zs)) := fun W hW =>
    vecs_one r rc n ca a0 zs W hn ((hW.cell (p := ⟨r, 0, none⟩) (cell_there hF1).1).trans hF1) (hF2.below hW) hrc hzl
  have hfl := (cell_there hF0).1
  clear hPr hc0 hc1 hc2 hc3 h0 hF1 hF2 hzl hn
  obtain ⟨pR, nR, cR, rfl⟩ := hR
  obtain ⟨pV, nV, cV, rfl⟩ := hV
  obtain ⟨pM, nM, cM, rfl⟩ := hM
  obtain ⟨pE, nE, cE, rfl⟩ := hE
  go_enter Try.func117, Try.ntmps117
  go_wp2_with fail
  obtain ⟨A, hA⟩ : ∃ A, A = ((w.alloc (.cells #[.int .i64 g, .int .i64 pt, .slice pR nR cR, .slice pV nV cV, .slice (some ⟨f0, 0, none⟩) 1 fc, .slice pM nM cM, .int .i64 d, .int .i64 s, .slice pE nE cE, .int .i64 a] 97)).alloc (.cells #[.int .i64 0, .int .i64 0, .slice none 0 0, .slice none 0 0, .slice none 0 0, .slice none 0 0, .int .i64 0, .int .i64 0, .slice none 0 0, .int .i64 0] 97)) := ⟨_, rfl⟩
  have hbA : Below w.heap.size w A := by rw [hA]; exact (by repeat (first | exact Below.refl _ _ | assumption | refine Below.drew ?_ | refine Below.alloc ?_ (by first | omega | (simp <;> omega)) _ | refine Below.setCell ?_ (by first | omega | (simp <;> omega)) _ | refine Below.trans ?_ (Below.mono (by assumption) (by first | omega | (simp <;> omega)))))
  have HS0 : Hid (∀ f, ownPh w (.int .i64 g) (.int .i64 pt) (.slice pR nR cR) (.slice pV nV cV) (.slice (some ⟨f0, 0, none⟩) 1 fc) (.slice pM nM cM) (.int .i64 d) (.int .i64 s) (.slice pE nE cE) (.int .i64 a) Pr 0 f A) := fun f => by
    refine ⟨hbA, ?_, ?_, HPR.out.later 0 f _ _ (HH0.out f) hbA⟩
    · rw [hA, Below.heap_alloc _ _ _ (by simp), heap_new]; rfl
    · refine ⟨#[.int .i64 0, .int .i64 0, .slice none 0 0, .slice none 0 0, .slice none 0 0, .slice none 0 0, .int .i64 0, .int .i64 0, .slice none 0 0, .int .i64 0], ?_, rfl⟩
      rw [hA]
      have := heap_new (w.alloc (.cells #[.int .i64 g, .int .i64 pt, .slice pR nR cR, .slice pV nV cV, .slice (some ⟨f0, 0, none⟩) 1 fc, .slice pM nM cM, .int .i64 d, .int .i64 s, .slice pE nE cE, .int .i64 a] 97)) (.cells #[.int .i64 0, .int .i64 0, .slice none 0 0, .slice none 0 0, .slice none 0 0, .slice none 0 0, .int .i64 0, .int .i64 0, .slice none 0 0, .int .i64 0] 97)
      simp only [World.size_alloc] at this
      exact this
  rw [← hA]
  clear hA hbA HH0
  refine own1 w.heap.size (.slice pR nR cR) (.slice pM nM cM) (.slice pV nV cV) (.slice pE nE cE) _ A HFI HS0 (fun k f W hk hp => own_cells k f W hk hp) HC0 HC1 HC2 HC3
    (fun f W hp => own_store 4 2 f W HPR.out 0 (by omega) (by omega) (by omega) (by rfl) hp) (fun f W hp => own_store 5 5 f W HPR.out 1 (by omega) (by omega) (by omega) (by rfl) hp)
    (fun f W hp => own_store 6 3 f W HPR.out 2 (by omega) (by omega) (by omega) (by rfl) hp) (fun f W hp => own_store 7 8 f W HPR.out 3 (by omega) (by omega) (by omega) (by rfl) hp) _ _ _ _ _ _ _ _ _ _ _ _ _ _ _ _ _ _ _ _ _ _ _ _ _ _ _ _ _ _ _ _ _ _ _ _ _ _ _ _ _ _ _ ?_
  intro u0 u1 u2 u3 u4 u5 u6 u7 u8 u9 u10 u11 u12 u14 u16 u18 w4 hp
  dsimp only
  obtain ⟨hB, hbox, ⟨cs, hres, hcs⟩, hP4⟩ := hp
  have HP4 := Lib.hid (show Pr 4 _ w4 from hP4)
  have HB := Lib.hid hB
  obtain ⟨p0, m0, k0, e0⟩ := HPR.out.shape _ w4 0 (by omega) hP4
  obtain ⟨p1, m1, k1, e1⟩ := HPR.out.shape _ w4 1 (by omega) hP4
  obtain ⟨p2, m2, k2, e2⟩ := HPR.out.shape _ w4 2 (by omega) hP4
  obtain ⟨p3, m3, k3, e3⟩ := HPR.out.shape _ w4 3 (by omega) hP4
  have e0 : u2 = .slice p0 m0 k0 := e0
  have e1 : u5 = .slice p1 m1 k1 := e1
  have e2 : u8 = .slice p2 m2 k2 := e2
  have e3 : u11 = .slice p3 m3 k3 := e3
  subst e0 e1 e2 e3
  have HBOX : Hid (w4.heap[w.heap.size]? = some (.cells #[.int .i64 g, .int .i64 pt, .slice p0 m0 k0, .slice p2 m2 k2, .slice (some ⟨f0, 0, none⟩) 1 fc, .slice p1 m1 k1, .int .i64 d, .int .i64 s, .slice p3 m3 k3, .int .i64 a] 97 (0, 0))) := hbox
  have c4 : w4.cell? ⟨w.heap.size, 4, none⟩ = some (.slice (some ⟨f0, 0, none⟩) 1 fc) := by simp [World.cell?, HBOX.out]
  have HRES := Lib.hid hres
  clear hB hbox hres hP4
  obtain ⟨vf, hvf⟩ : ∃ vf : Nat → Value, vf = fun j => if j = 0 then .slice p0 m0 k0 else if j = 1 then .slice p1 m1 k1 else if j = 2 then .slice p2 m2 k2 else .slice p3 m3 k3 := ⟨_, rfl⟩
  have HPV : Hid (Pr 4 vf w4) := HPR.out.loc 4 _ _ _ (fun j hj => by
    rw [hvf]
    match j, hj with
    | 0, _ => rfl
    | 1, _ => rfl
    | 2, _ => rfl
    | 3, _ => rfl) HP4.out
  have HVF := Lib.hid hvf
  clear hvf HP4 HFI HC0 HC1 HC2 HC3 HS0
  go_wp2_with (first
    | (at_make; refine wpList_make_full _ rfl _ _ 95 rfl w4.heap.size 32 i0 (.slice none 0 0) 1 Try.underlying95 hi hz0 hz1 .i64 .i64 _ _ 1 rfl rfl rfl rfl (by rw [hz2]; omega) (by unfold maxLen; omega) (Nat.le_refl _) ?_; intro w5 hown0 hgrow0
       have hb5 : Below w4.heap.size w4 w5 := (Below.refl _ _).grown hgrow0 (Nat.le_refl _) (fun k h => by cases h)
       have hbx := (hb5.block _ (lt_of_block HBOX.out)).trans HBOX.out
       have d4 : w5.cell? ⟨w.heap.size, 4, none⟩ = some (.slice (some ⟨f0, 0, none⟩) 1 fc) := by simp [World.cell?, hbx]
       have HH5 : Hid (w5.heap[w.heap.size]? = some (.cells #[.int .i64 g, .int .i64 pt, .slice p0 m0 k0, .slice p2 m2 k2, .slice (some ⟨f0, 0, none⟩) 1 fc, .slice p1 m1 k1, .int .i64 d, .int .i64 s, .slice p3 m3 k3, .int .i64 a] 97 (0, 0)) ∧ w5.heap[w.heap.size + 1]? = some (.cells cs 97 (0, 0)) ∧ Below w.heap.size w w5 ∧ Pr 4 vf w5) :=
         ⟨hbx, (hb5.block _ (lt_of_block HRES.out)).trans HRES.out, HB.out.trans (hb5.mono HB.out.size), HPR.out.later 4 _ _ _ HPV.out hb5⟩
       have HOW := Lib.hid hown0
       have HB45 := Lib.hid hb5
       have h45 := (hown0.lt _ rfl).2
       have hF05 := (HH5.out.2.2.1.cell (p := ⟨f0, 0, none⟩) hfl).trans hF0
       clear hown0 hgrow0 hb5 hbx c4 hF0))
  have HW4 : Hid (Pr 4 vf w4 ∧ w.heap.size + 1 < w4.heap.size) := ⟨HPV.out, lt_of_block HRES.out⟩
  have HPL : Hid (∀ W', Below w4.heap.size w4 W' → Pr 4 vf W') := fun W' hb => HPR.out.later 4 _ _ _ HPV.out hb
  clear HPV HBOX HRES HB
  generalize hlo : w4.heap.size = lo at *
  have HLO := Lib.hid hlo
  clear hlo
  go_loopw [29] (fun i wr => (i = .int .i64 0 ∧ wr = w5) ∨ (i = .int .i64 1 ∧ Hid (wr.heap[w.heap.size]? = some (.cells #[.int .i64 g, .int .i64 pt, .slice p0 m0 k0, .slice p2 m2 k2, .slice (some ⟨f0, 0, none⟩) 1 fc, .slice p1 m1 k1, .int .i64 d, .int .i64 s, .slice p3 m3 k3, .int .i64 a] 97 (0, 0)) ∧ wr.heap[w.heap.size + 1]? = some (.cells cs 97 (0, 0)) ∧ Below w.heap.size w wr ∧ Pr 4 vf wr ∧ FldR lo wr))) (fun i _ => 1 - (intOf i).toNat)
  case atStart => exact .inl ⟨rfl, rfl⟩
  case round =>
    rcases hrel with ⟨rfl, rfl⟩ | ⟨rfl, HV⟩
    · go_wp2_with fail
      refine (HVC.out _ HH5.out.2.2.1).mono ?_
      rintro e w6 ⟨rfl, ⟨rv, hq, hqf, hqo⟩, hb6⟩
      have how6 := own_below HOW.out hb6
      obtain ⟨x, z1⟩ : ∃ x, w6.cell? ⟨lo, 0, none⟩ = some x := by rw [how6.cellAt 0 (by omega)]; exact ⟨_, List.getElem?_eq_getElem (by rw [how6.1]; omega)⟩
      have z2 := how6.frozenAt 0
      have hst := (how6.stored 0 (.slice (some ⟨wr.heap.size, 0, none⟩) 1 1)).1
      have HK : Hid ((w6.setCell ⟨lo, 0, none⟩ (.slice (some ⟨wr.heap.size, 0, none⟩) 1 1)).heap[w.heap.size]? = some (.cells #[.int .i64 g, .int .i64 pt, .slice p0 m0 k0, .slice p2 m2 k2, .slice (some ⟨f0, 0, none⟩) 1 fc, .slice p1 m1 k1, .int .i64 d, .int .i64 s, .slice p3 m3 k3, .int .i64 a] 97 (0, 0)) ∧ (w6.setCell ⟨lo, 0, none⟩ (.slice (some ⟨wr.heap.size, 0, none⟩) 1 1)).heap[w.heap.size + 1]? = some (.cells cs 97 (0, 0)) ∧ Below w.heap.size w (w6.setCell ⟨lo, 0, none⟩ (.slice (some ⟨wr.heap.size, 0, none⟩) 1 1)) ∧ Pr 4 vf (w6.setCell ⟨lo, 0, none⟩ (.slice (some ⟨wr.heap.size, 0, none⟩) 1 1)) ∧ FldR lo (w6.setCell ⟨lo, 0, none⟩ (.slice (some ⟨wr.heap.size, 0, none⟩) 1 1))) := by
        obtain ⟨b1, b2, b3, b4⟩ := HH5.out
        have hw4 := HW4.out.2
        refine ⟨by rw [setCell_heap (by omega), hb6.block _ (lt_of_block b1)]; exact b1, by rw [setCell_heap (by omega), hb6.block _ (lt_of_block b2)]; exact b2, (b3.trans (hb6.mono b3.size)).setCell (by show w.heap.size ≤ lo; omega) _, ?_, wr.heap.size, h45, ?_, ⟨rv, ?_⟩, ?_⟩
        · exact HPL.out _ ((HB45.out.trans (hb6.mono (by omega))).setCell (Nat.le_refl _) _)
        · rw [hst.cellAt 0 (by omega)]; simp [madeCells]
        · exact (World.cell?_of_block (a := ⟨wr.heap.size, 0, none⟩) (setCell_heap (by show wr.heap.size ≠ lo; omega))).trans hq
        · rw [World.frozen?_setCell]; exact hqf
      clear hq hqf hqo hb6 how6 hst
      go_wp2_with fail
      go_roundw
      case rel => exact .inr ⟨by go_num, HK⟩
      case measure => simp [intOf]
    · obtain ⟨hbx, hrs, hB5, hP5, hfld⟩ := HV.out
      have HB5 := Lib.hid hB5
      have HPV5 := Lib.hid hP5
      have HFL := Lib.hid hfld
      clear HV HH5 HOW hF05 hB5 hP5 hfld
      have d0 : wr.cell? ⟨w.heap.size, 0, none⟩ = some (.int .i64 g) := by simp [World.cell?, hbx]
      have d1 : wr.cell? ⟨w.heap.size, 1, none⟩ = some (.int .i64 pt) := by simp [World.cell?, hbx]
      have d2 : wr.cell? ⟨w.heap.size, 2, none⟩ = some (.slice p0 m0 k0) := by simp [World.cell?, hbx]
      have d3 : wr.cell? ⟨w.heap.size, 3, none⟩ = some (.slice p2 m2 k2) := by simp [World.cell?, hbx]
      have d4 : wr.cell? ⟨w.heap.size, 4, none⟩ = some (.slice (some ⟨f0, 0, none⟩) 1 fc) := by simp [World.cell?, hbx]
      have d5 : wr.cell? ⟨w.heap.size, 5, none⟩ = some (.slice p1 m1 k1) := by simp [World.cell?, hbx]
      have d6 : wr.cell? ⟨w.heap.size, 6, none⟩ = some (.int .i64 d) := by simp [World.cell?, hbx]
      have d7 : wr.cell? ⟨w.heap.size, 7, none⟩ = some (.int .i64 s) := by simp [World.cell?, hbx]
      have d8 : wr.cell? ⟨w.heap.size, 8, none⟩ = some (.slice p3 m3 k3) := by simp [World.cell?, hbx]
      have d9 : wr.cell? ⟨w.heap.size, 9, none⟩ = some (.int .i64 a) := by simp [World.cell?, hbx]
      have f4 : ∀ j, wr.frozen? ⟨w.heap.size, j, none⟩ = false := fun j => by simp [World.frozen?, hbx]
      have f5 : ∀ j, wr.frozen? ⟨w.heap.size + 1, j, none⟩ = false := fun j => by simp [World.frozen?, hrs]
      have r0 : wr.cell? ⟨w.heap.size + 1, 0, none⟩ = some (cs[0]'(by omega)) := by simp [World.cell?, hrs, hcs]
      have r1 : wr.cell? ⟨w.heap.size + 1, 1, none⟩ = some (cs[1]'(by omega)) := by simp [World.cell?, hrs, hcs]
      have r2 : wr.cell? ⟨w.heap.size + 1, 2, none⟩ = some (cs[2]'(by omega)) := by simp [World.cell?, hrs, hcs]
      have r3 : wr.cell? ⟨w.heap.size + 1, 3, none⟩ = some (cs[3]'(by omega)) := by simp [World.cell?, hrs, hcs]
      have r4 : wr.cell? ⟨w.heap.size + 1, 4, none⟩ = some (cs[4]'(by omega)) := by simp [World.cell?, hrs, hcs]
      have r5 : wr.cell? ⟨w.heap.size + 1, 5, none⟩ = some (cs[5]'(by omega)) := by simp [World.cell?, hrs, hcs]
      have r6 : wr.cell? ⟨w.heap.size + 1, 6, none⟩ = some (cs[6]'(by omega)) := by simp [World.cell?, hrs, hcs]
      have r7 : wr.cell? ⟨w.heap.size + 1, 7, none⟩ = some (cs[7]'(by omega)) := by simp [World.cell?, hrs, hcs]
      have r8 : wr.cell? ⟨w.heap.size + 1, 8, none⟩ = some (cs[8]'(by omega)) := by simp [World.cell?, hrs, hcs]
      have r9 : wr.cell? ⟨w.heap.size + 1, 9, none⟩ = some (cs[9]'(by omega)) := by simp [World.cell?, hrs, hcs]
      clear hbx hrs
      go_wp2_with fail
      refine bodyPost_ret (v := .agg #[.int .i64 g, .int .i64 pt, .slice p0 m0 k0, .slice p2 m2 k2, .slice (some ⟨lo, 0, none⟩) 1 1, .slice p1 m1 k1, .int .i64 d, .int .i64 s, .slice p3 m3 k3, .int .i64 a]) (by simp [results, Try.results117, go_sem, r0, r1, r2, r3, r4, r5, r6, r7, r8, r9]) rfl ?_
      refine ⟨vf, lo, w4, by rw [HVF.out]; rfl, ?_, ?_, HW4.out.1, ⟨HLO.out, HW4.out.2⟩, ?_⟩
      · exact HPR.out.set (HPR.out.set (HPR.out.set (HPR.out.set (HPR.out.set (HPR.out.set (HPR.out.set (HPR.out.set (HPR.out.set (HPR.out.set (HPR.out.box vf _ _ 4 _ (Nat.le_refl _) (by omega) HPV5.out) _ _) _ _) _ _) _ _) _ _) _ _) _ _) _ _) _ _) _ _
      · exact ((((((((((HB5.out.setCell (Nat.le_refl _) _).setCell (Nat.le_succ _) _).setCell (Nat.le_succ _) _).setCell (Nat.le_succ _) _).setCell (Nat.le_succ _) _).setCell (Nat.le_succ _) _).setCell (Nat.le_succ _) _).setCell (Nat.le_succ _) _).setCell (Nat.le_succ _) _).setCell (Nat.le_succ _) _).setCell (Nat.le_succ _) _
      · have L0 : w.heap.size < lo := by have := HW4.out.2; omega
        have L1 : w.heap.size + 1 < lo := HW4.out.2
        exact (((((((((((HFL.out.set L0 _ _).set L1 _ _).set L1 _ _).set L1 _ _).set L1 _ _).set L1 _ _).set L1 _ _).set L1 _ _).set L1 _ _).set L1 _ _).set L1 _ _)

end Go.Proofs.Ytlnkflmnjkmhkaa
