/-
  Lemmas, joined: Known21, Known21R.
-/
import Derived.Test.YtnknpgfconfgjaaJA12
import Derived.Test.YtnknpgfconfgjaaJA06
/-
  The page's examples of layer 21.
-/
namespace Go.Proofs.Ytnknpgfconfgjaa
open Go.RowKit Go.Maps

set_option maxRecDepth 100000 in
set_option maxHeartbeats 4000000 in
theorem kc_any (n : Nat) (w : World) (hn : n < B) :
    Calls Try.prog 30 #[.int .u64 (n : Int)] w fun e w' => e = .returned (Nd.val ⟨1, 4, 0, 0, n⟩) ∧ Below w.heap.size w w' := by
  have HO : Hid (∀ W, Calls Try.prog 29 #[.int .u64 (n : Int)] W (RetNum W n)) := fun W => refOf_any n hn W
  unfold Nd.val nodeV
  dsimp only
  obtain ⟨y3, z3, he3, ey3, ez3⟩ := numV_parts n
  unfold RetNum at HO
  rw [he3] at HO
  rw [← ey3, ← ez3]
  clear he3 ey3 ez3 hn
  go_enter Try.func30, Try.ntmps30
  go_wp2_with (go_at_call 29; refine (HO.out _).mono ?_; rintro e w1 ⟨rfl, hb1⟩; obtain ⟨hc, hf⟩ := bcell hb1; have hz1 := hb1.size; (try simp at hz1); have L1 : w.heap.size < w1.heap.size := by omega)
  have h0 : w1.heap[w.heap.size]? = some (.cells #[.int .u8 0, .int .i64 0, .int .i64 0, .int .i64 0, .int .u64 0, .int .u64 0] 33 (0, 0)) := by
    rw [hb1.block _ (by simp)]
    exact heap_new w _
  have h6 := six_set (b0 := .int .u8 1) (b1 := .int .i64 4) (b2 := .int .i64 0) (b3 := .int .i64 0) (b4 := .int .u64 (y3 : Int)) (b5 := .int .u64 (z3 : Int)) h0
  have hbF : Below w.heap.size w (six w1 w.heap.size (.int .u8 1) (.int .i64 4) (.int .i64 0) (.int .i64 0) (.int .u64 (y3 : Int)) (.int .u64 (z3 : Int))) := by
    have hA : Below w.heap.size w w1 := Below.trans (by repeat (first | exact Below.refl _ _ | assumption | refine Below.drew ?_ | refine Below.alloc ?_ (by first | omega | (simp <;> omega)) _ | refine Below.setCell ?_ (by first | omega | (simp <;> omega)) _ | refine Below.trans ?_ (Below.mono (by assumption) (by first | omega | (simp <;> omega))))) (hb1.mono (by simp <;> omega))
    exact (((((hA.setCell (Nat.le_refl _) _).setCell (Nat.le_refl _) _).setCell (Nat.le_refl _) _).setCell (Nat.le_refl _) _).setCell (Nat.le_refl _) _).setCell (Nat.le_refl _) _
  change bodyPost _ _ _ _ _ (six w1 w.heap.size (.int .u8 1) (.int .i64 4) (.int .i64 0) (.int .i64 0) (.int .u64 (y3 : Int)) (.int .u64 (z3 : Int)))
  generalize six w1 w.heap.size (.int .u8 1) (.int .i64 4) (.int .i64 0) (.int .i64 0) (.int .u64 (y3 : Int)) (.int .u64 (z3 : Int)) = WF at *
  have e0 : WF.cell? ⟨w.heap.size, 0, none⟩ = some (.int .u8 1) := by simp [World.cell?, h6]
  have e1 : WF.cell? ⟨w.heap.size, 1, none⟩ = some (.int .i64 4) := by simp [World.cell?, h6]
  have e2 : WF.cell? ⟨w.heap.size, 2, none⟩ = some (.int .i64 0) := by simp [World.cell?, h6]
  have e3 : WF.cell? ⟨w.heap.size, 3, none⟩ = some (.int .i64 0) := by simp [World.cell?, h6]
  have e4 : WF.cell? ⟨w.heap.size, 4, none⟩ = some (.int .u64 (y3 : Int)) := by simp [World.cell?, h6]
  have e5 : WF.cell? ⟨w.heap.size, 5, none⟩ = some (.int .u64 (z3 : Int)) := by simp [World.cell?, h6]
  exact bodyPost_ret (v := .agg #[.int .u8 1, .int .i64 4, .int .i64 0, .int .i64 0, .int .u64 (y3 : Int), .int .u64 (z3 : Int)]) (by simp [results, Try.results30, go_sem, e0, e1, e2, e3, e4, e5]) rfl ⟨rfl, hbF⟩

/-- The value of code of constants. -/
theorem value_of {l : List Nd} {r : Nat} (hr : RunsTo l r) (gx gc cap : Nat) (w : World) (t : TypeId) (h : w.heap[gc]? = some (.cells (l.flatMap Nd.cells).toArray t (0, 0))) :
    Calls Try.prog 9 #[prog0, .pointer (some ⟨gx, 0, none⟩), .slice (some ⟨gc, 0, none⟩) l.length cap, .slice none 0 0] w (RetNum w r) := by
  obtain ⟨sts, kr, hr⟩ := hr
  exact value_any (ndL l) sts l.length cap gx gc r kr w hr.small hr.step hr.len hr.start hr.fin (CodeAt.of_block h)

theorem run_k1 : RunsTo [cN 4 5, cN 4 3, ⟨12, 4, 0, 0, 0⟩] 2 := by
  have h := run_sub (k := 4) (m := 5) (n := 3) (by decide) (by decide)
  have e : subN 5 3 4 = 2 := by decide
  rwa [e] at h
theorem run_k2 : RunsTo [cN 4 3, cN 4 5, ⟨12, 4, 0, 0, 0⟩] 14 := by
  have h := run_sub (k := 4) (m := 3) (n := 5) (by decide) (by decide)
  have e : subN 3 5 4 = 14 := by decide
  rwa [e] at h

end Go.Proofs.Ytnknpgfconfgjaa

/-
  The page's examples of layer 21: the regions that draw their order.
-/
namespace Go.Proofs.Ytnknpgfconfgjaa
open Go.RowKit Go.Maps

/-- A new slice of known cells. -/
def TSl (n : Nat) (cs : Array Value) (t : TypeId) : Tw := fun B W _ v => ∃ g, v = .slice (some ⟨g, 0, none⟩) n n ∧ B g ∧ W.heap[g]? = some (.cells cs t (0, 0))
theorem TSl.stab {n : Nat} {cs : Array Value} {t : TypeId} {B D : Nat → Prop} {w w' : World} {ls : List Value} {v : Value} (h : TSl n cs t B w ls v) (hk : ∀ k, B k ∨ D k → w'.heap[k]? = w.heap[k]?) : TSl n cs t B w' ls v := by
  obtain ⟨g, rfl, h1, h2⟩ := h
  exact ⟨g, rfl, h1, (hk _ (.inl h1)).trans h2⟩
/-- A new box of two cells. -/
def TTwo (t : TypeId) : Tw := fun B W _ v => ∃ g, v = .pointer (some ⟨g, 0, none⟩) ∧ B g ∧ ∃ x y, W.heap[g]? = some (.cells #[x, y] t (0, 0))
theorem TTwo.stab {t : TypeId} {B D : Nat → Prop} {w w' : World} {ls : List Value} {v : Value} (h : TTwo t B w ls v) (hk : ∀ k, B k ∨ D k → w'.heap[k]? = w.heap[k]?) : TTwo t B w' ls v := by
  obtain ⟨g, rfl, h1, x, y, h2⟩ := h
  exact ⟨g, rfl, h1, x, y, (hk _ (.inl h1)).trans h2⟩
def TAnyW : Tw := fun _ _ _ _ => True

theorem RWg.boxTwo {S : Rw} {L : Array Bool} {l : List Value} {w : World} {B : Nat → Nat → Prop} {t g : Nat} {ty : TypeId} {js : List Nat} (h : RWg S L l w B) (hd : did L t = true) (hk : S.kd[t]? = some (js, TTwo ty)) (e : nth l t = .pointer (some ⟨g, 0, none⟩)) : ∀ j, did L j = true → j ≠ t → ¬ B j g := fun j hj hne hb => by
  obtain ⟨-, g', e', h1, -⟩ := h.ok t _ _ hd hk
  rw [e] at e'
  have eg : g = g' := by simpa using e'
  subst eg
  exact hne (h.apart j t g hj hd hb h1)

/-- Behind store s the box of operation t holds two known cells. -/
def LaidTwo (s t n0 : Nat) (x y : Value) (ty : TypeId) (L : Array Bool) (l : List Value) (w : World) : Prop := did L s = true → did L t = true ∧ ∃ g, nth l t = .pointer (some ⟨g, 0, none⟩) ∧ n0 ≤ g ∧ w.heap[g]? = some (.cells #[x, y] ty (0, 0))
theorem LaidTwo.start {s t n0 n : Nat} {x y : Value} {ty : TypeId} {l : List Value} {w : World} : LaidTwo s t n0 x y ty (Array.replicate n false) l w := fun hd => by rw [did_none] at hd; cases hd
theorem LaidTwo.quiet {s t n0 i : Nat} {x y v : Value} {ty : TypeId} {L : Array Bool} {l : List Value} {w w' : World} (h : LaidTwo s t n0 x y ty L l w) (hn : did L i = false) (hs : i ≠ s) (hb : Below w.heap.size w w') : LaidTwo s t n0 x y ty (L.setIfInBounds i true) (l.set i v) w' := fun hd => by
  rw [did_other (fun e => hs e.symm)] at hd
  obtain ⟨h1, g, e1, h2, h3⟩ := h hd
  have it : i ≠ t := fun e => by rw [e, h1] at hn; cases hn
  exact ⟨by rw [did_other (fun e => it e.symm)]; exact h1, g, by rw [nth_other it]; exact e1, h2, (hb.block _ (lt_of_block h3)).trans h3⟩

/-- The regions of the examples: two constants, a node, their slice, its value, a box. -/
def kR (gx g2 kc a b r : Nat) (w0 : World) : Rw where
  n0 := w0.heap.size
  dep := fun _ => False
  kd := [isV (.agg #[.slice none 0 0, .slice none 0 0, .slice none 0 0, .slice none 0 0, .slice none 0 0, .slice none 0 0, .slice none 0 0, .slice none 0 0, .slice none 0 0, .slice none 0 0, .slice none 0 0, .slice none 0 0]), isV (.pointer (some ⟨gx, 0, none⟩)), isV (.func (Fn.func kc) #[] #[]), isV (.agg #[.int .u8 1, .int .i64 4, .int .i64 0, .int .i64 0, .int .u64 0, .int .u64 a]), isV (.func (Fn.func kc) #[] #[]), isV (.agg #[.int .u8 1, .int .i64 4, .int .i64 0, .int .i64 0, .int .u64 0, .int .u64 b]), isV (.agg #[.int .u8 12, .int .i64 4, .int .i64 0, .int .i64 0, .int .u64 0, .int .u64 0]),
    ([], TSl 3 #[.int .u8 1, .int .i64 4, .int .i64 0, .int .i64 0, .int .u64 0, .int .u64 a, .int .u8 1, .int .i64 4, .int .i64 0, .int .i64 0, .int .u64 0, .int .u64 b, .int .u8 12, .int .i64 4, .int .i64 0, .int .i64 0, .int .u64 0, .int .u64 0] 33), isV (.agg #[.int .u64 0, .int .u64 r]), ([], TTwo 24), ([9], TAnyW)]
  G := fun L l w => Below w0.heap.size w0 w ∧ LaidTwo 10 9 w0.heap.size (.int .u64 0) (.int .u64 r) 24 L l w

theorem kR_fine {gx g2 kc a b r : Nat} {w0 : World} : (kR gx g2 kc a b r w0).Fine where
  old := fun _ h => h.elim
  stab := fun i js P hk B w w' ls v hp _ hw hs => by
    match i, hk with
    | 0, hk => cases hk; exact hp
    | 1, hk => cases hk; exact hp
    | 2, hk => cases hk; exact hp
    | 3, hk => cases hk; exact hp
    | 4, hk => cases hk; exact hp
    | 5, hk => cases hk; exact hp
    | 6, hk => cases hk; exact hp
    | 7, hk => cases hk; exact TSl.stab hp hw
    | 8, hk => cases hk; exact hp
    | 9, hk => cases hk; exact TTwo.stab hp hw
    | 10, hk => cases hk; trivial
    | i + 11, hk => simp [kR] at hk

theorem two_after {w : World} {g g' : Nat} {x y u v : Value} {t : TypeId} (h : w.heap[g']? = some (.cells #[x, y] t (0, 0))) : ∃ a b, ((w.setCell ⟨g, 0, none⟩ u).setCell ⟨g, 1, none⟩ v).heap[g']? = some (.cells #[a, b] t (0, 0)) := by
  by_cases e : g' = g
  · subst e; exact ⟨_, _, set_lo _ (set_hi _ h)⟩
  · exact ⟨_, _, by rw [setCell_heap e, setCell_heap e]; exact h⟩

set_option maxRecDepth 100000 in
set_option maxHeartbeats 6000000 in
theorem kreg4 (gx g2 : Nat) (WB : World)
    (HF : Hid (Rw.Fine (kR gx g2 30 5 3 2 WB))) (HG0 : Hid (∀ l : List Value, (kR gx g2 30 5 3 2 WB).G (Array.replicate 11 false) l WB.drew)) (Hn0 : (kR gx g2 30 5 3 2 WB).n0 ≤ WB.heap.size)
    (HK5 : Hid (∀ W, Calls Try.prog 30 #[.int .u64 5] W fun e w' => e = .returned (.agg #[.int .u8 1, .int .i64 4, .int .i64 0, .int .i64 0, .int .u64 0, .int .u64 5]) ∧ Below W.heap.size W w'))
    (HK3 : Hid (∀ W, Calls Try.prog 30 #[.int .u64 3] W fun e w' => e = .returned (.agg #[.int .u8 1, .int .i64 4, .int .i64 0, .int .i64 0, .int .u64 0, .int .u64 3]) ∧ Below W.heap.size W w'))
    (HC : Hid (∀ W, Below WB.heap.size WB W → W.cell? ⟨g2, 0, none⟩ = some (.int .u8 12) ∧ W.cell? ⟨g2, 1, none⟩ = some (.int .i64 4) ∧ W.cell? ⟨g2, 2, none⟩ = some (.int .i64 0) ∧ W.cell? ⟨g2, 3, none⟩ = some (.int .i64 0) ∧ W.cell? ⟨g2, 4, none⟩ = some (.int .u64 0) ∧ W.cell? ⟨g2, 5, none⟩ = some (.int .u64 0)))
    (HV : Hid (∀ W gc, W.heap[gc]? = some (.cells #[.int .u8 1, .int .i64 4, .int .i64 0, .int .i64 0, .int .u64 0, .int .u64 5, .int .u8 1, .int .i64 4, .int .i64 0, .int .i64 0, .int .u64 0, .int .u64 3, .int .u8 12, .int .i64 4, .int .i64 0, .int .i64 0, .int .u64 0, .int .u64 0] 33 (0, 0)) → Calls Try.prog 9 #[.agg #[.slice none 0 0, .slice none 0 0, .slice none 0 0, .slice none 0 0, .slice none 0 0, .slice none 0 0, .slice none 0 0, .slice none 0 0, .slice none 0 0, .slice none 0 0, .slice none 0 0, .slice none 0 0], .pointer (some ⟨gx, 0, none⟩), .slice (some ⟨gc, 0, none⟩) 3 3, .slice none 0 0] W fun e w' => e = .returned (.agg #[.int .u64 0, .int .u64 2]) ∧ Below W.heap.size W w'))
    (HGQ : Hid (∀ (i : Nat) (v : Value) (L : Array Bool) (l : List Value) (w w' : World), did L i = false → i < L.size → i < l.length → Below w.heap.size w w' → (kR gx g2 30 5 3 2 WB).G L l w → i ≠ 10 → (kR gx g2 30 5 3 2 WB).G (L.setIfInBounds i true) (l.set i v) w'))
    (c0 c4 c5 c6 c7 c8 c9 c10 c11 c12 c13 c14 c15 c16 c17 c18 c19 c20 c21 c22 c23 c24 c25 c26 c27 c28 c29 c30 c31 c32 c33 c34 : Value) (Q : Exit → Act → World → Prop)
    (hexit : ∀ (u0 u1 u2 u3 u4 u5 u6 u7 u8 u9 : Value) (L : Array Bool) (w' : World), (∀ i, i < 11 → did L i = true) → RW (kR gx g2 30 5 3 2 WB) L [u0, u1, u2, u3, u4, u5, u6, u7, u8, u9, undef] w' → Q .normal ⟨#[c0, .func (Fn.func 30) #[] #[], .pointer (some ⟨g2, 0, none⟩), .pointer (some ⟨gx, 0, none⟩), u9, c5, c6, c7, c8, u0, u1, u2, u3, u4, u5, u6, u7, u8, c18, c19, c20, c21, c22, c23, c24, c25, c26, c27, c28, c29, c30, c31, c32, c33, c34], []⟩ w') :
    Code.wp Try.prog ((Try.f12.body.bind (findRegion 4)).getD .skip) Q ⟨#[c0, .func (Fn.func 30) #[] #[], .pointer (some ⟨g2, 0, none⟩), .pointer (some ⟨gx, 0, none⟩), c4, c5, c6, c7, c8, c9, c10, c11, c12, c13, c14, c15, c16, c17, c18, c19, c20, c21, c22, c23, c24, c25, c26, c27, c28, c29, c30, c31, c32, c33, c34], []⟩ WB := by
  dsimp only at hexit ⊢
  conv => arg 2; whnf
  have HEX := Lib.hid hexit
  clear hexit
  have hF := HF.out
  refine wp_region_inv2 (by kernel_rfl) (fun L a' w' => ∃ u0 u1 u2 u3 u4 u5 u6 u7 u8 u9 : Value, a' = ⟨#[c0, .func (Fn.func 30) #[] #[], .pointer (some ⟨g2, 0, none⟩), .pointer (some ⟨gx, 0, none⟩), u9, c5, c6, c7, c8, u0, u1, u2, u3, u4, u5, u6, u7, u8, c18, c19, c20, c21, c22, c23, c24, c25, c26, c27, c28, c29, c30, c31, c32, c33, c34], []⟩ ∧ L.size = 11 ∧ RW (kR gx g2 30 5 3 2 WB) L [u0, u1, u2, u3, u4, u5, u6, u7, u8, u9, undef] w') ?_ ?_ ?_ ?_
  · exact ⟨_, _, _, _, _, _, _, _, _, _, rfl, by simp, RW.init (fun i => did_none _ _) Hn0 (HG0.out _)⟩
  · rintro L a' w' i hL hi hnd hdep ⟨u0, u1, u2, u3, u4, u5, u6, u7, u8, u9, rfl, hLn, hI⟩
    dsimp only
    have hsz : ∀ i, (L.setIfInBounds i true).size = 11 := fun i => by simpa using hLn
    have hL11 : L.size = 11 := hL
    have HI := Lib.hid hI
    clear hI
    match i, hi with
    | 0, _ =>
      have HN := Lib.hid hnd
      have HJ : Hid (∀ j ∈ ([] : List Nat), did L j = true) := fun j hj => by cases hj
      clear hdep hnd
      refine wpOp_step rfl (fun K' hK => ?_)
      go_simp
      exact hK _ _ ⟨_, _, _, _, _, _, _, _, _, _, rfl, hsz _, HI.out.val 0 _ hF HN.out (by omega) (by show 0 < 11; omega) rfl (Below.refl _ _) (fun hg => HGQ.out 0 _ _ _ _ _ HN.out (by omega) (by show 0 < 11; omega) (Below.refl _ _) hg (by decide))⟩
    | 1, _ =>
      have HN := Lib.hid hnd
      have HJ : Hid (∀ j ∈ ([] : List Nat), did L j = true) := fun j hj => by cases hj
      clear hdep hnd
      refine wpOp_step rfl (fun K' hK => ?_)
      go_simp
      exact hK _ _ ⟨_, _, _, _, _, _, _, _, _, _, rfl, hsz _, HI.out.val 1 _ hF HN.out (by omega) (by show 1 < 11; omega) rfl (Below.refl _ _) (fun hg => HGQ.out 1 _ _ _ _ _ HN.out (by omega) (by show 1 < 11; omega) (Below.refl _ _) hg (by decide))⟩
    | 2, _ =>
      have HN := Lib.hid hnd
      have HJ : Hid (∀ j ∈ ([] : List Nat), did L j = true) := fun j hj => by cases hj
      clear hdep hnd
      refine wpOp_step rfl (fun K' hK => ?_)
      go_simp
      exact hK _ _ ⟨_, _, _, _, _, _, _, _, _, _, rfl, hsz _, HI.out.val 2 _ hF HN.out (by omega) (by show 2 < 11; omega) rfl (Below.refl _ _) (fun hg => HGQ.out 2 _ _ _ _ _ HN.out (by omega) (by show 2 < 11; omega) (Below.refl _ _) hg (by decide))⟩
    | 3, _ =>
      have HN := Lib.hid hnd
      have q2 := (HI.out.got 2 (hdep _ rfl ⟨2, .data⟩ (by simp) (by kernel_rfl)) rfl).symm
      subst q2
      have HJ : Hid (∀ j ∈ ([] : List Nat), did L j = true) := fun j hj => by cases hj
      clear hdep hnd
      refine wpOp_step rfl (fun K' hK => ?_)
      go_simp
      refine (HK5.out _).mono ?_
      rintro e w1 ⟨rfl, hbK⟩
      exact hK _ _ ⟨_, _, _, _, _, _, _, _, _, _, rfl, hsz _, HI.out.quiet 3 _ hF HN.out (by omega) (by show 3 < 11; omega) rfl HJ.out hbK (fun hg => HGQ.out 3 _ _ _ _ _ HN.out (by omega) (by show 3 < 11; omega) hbK hg (by decide)) rfl⟩
    | 4, _ =>
      have HN := Lib.hid hnd
      have HJ : Hid (∀ j ∈ ([] : List Nat), did L j = true) := fun j hj => by cases hj
      clear hdep hnd
      refine wpOp_step rfl (fun K' hK => ?_)
      go_simp
      exact hK _ _ ⟨_, _, _, _, _, _, _, _, _, _, rfl, hsz _, HI.out.val 4 _ hF HN.out (by omega) (by show 4 < 11; omega) rfl (Below.refl _ _) (fun hg => HGQ.out 4 _ _ _ _ _ HN.out (by omega) (by show 4 < 11; omega) (Below.refl _ _) hg (by decide))⟩
    | 5, _ =>
      have HN := Lib.hid hnd
      have q4 := (HI.out.got 4 (hdep _ rfl ⟨4, .data⟩ (by simp) (by kernel_rfl)) rfl).symm
      subst q4
      have HJ : Hid (∀ j ∈ ([] : List Nat), did L j = true) := fun j hj => by cases hj
      clear hdep hnd
      refine wpOp_step rfl (fun K' hK => ?_)
      go_simp
      refine (HK3.out _).mono ?_
      rintro e w1 ⟨rfl, hbK⟩
      exact hK _ _ ⟨_, _, _, _, _, _, _, _, _, _, rfl, hsz _, HI.out.quiet 5 _ hF HN.out (by omega) (by show 5 < 11; omega) rfl HJ.out hbK (fun hg => HGQ.out 5 _ _ _ _ _ HN.out (by omega) (by show 5 < 11; omega) hbK hg (by decide)) rfl⟩
    | 6, _ =>
      have HN := Lib.hid hnd
      have HJ : Hid (∀ j ∈ ([] : List Nat), did L j = true) := fun j hj => by cases hj
      obtain ⟨z0, z1, z2, z3, z4, z5⟩ := HC.out _ HI.out.glob.1
      clear hdep hnd
      refine wpOp_step rfl (fun K' hK => ?_)
      go_simp
      exact hK _ _ ⟨_, _, _, _, _, _, _, _, _, _, rfl, hsz _, HI.out.val 6 _ hF HN.out (by omega) (by show 6 < 11; omega) rfl (Below.refl _ _) (fun hg => HGQ.out 6 _ _ _ _ _ HN.out (by omega) (by show 6 < 11; omega) (Below.refl _ _) hg (by decide))⟩
    | 7, _ =>
      have HN := Lib.hid hnd
      have q6 := (HI.out.got 6 (hdep _ rfl ⟨6, .data⟩ (by simp) (by kernel_rfl)) rfl).symm
      subst q6
      have HJ : Hid (∀ j ∈ ([] : List Nat), did L j = true) := fun j hj => by cases hj
      have q3 := (HI.out.got 3 (hdep _ rfl ⟨3, .data⟩ (by simp) (by kernel_rfl)) rfl).symm
      subst q3
      have q5 := (HI.out.got 5 (hdep _ rfl ⟨5, .data⟩ (by simp) (by kernel_rfl)) rfl).symm
      subst q5
      clear hdep hnd
      refine wpOp_step rfl (fun K' hK => ?_)
      go_simp
      have hbK : Below w'.heap.size w' (w'.alloc (.cells #[.int .u8 1, .int .i64 4, .int .i64 0, .int .i64 0, .int .u64 0, .int .u64 5, .int .u8 1, .int .i64 4, .int .i64 0, .int .i64 0, .int .u64 0, .int .u64 3, .int .u8 12, .int .i64 4, .int .i64 0, .int .i64 0, .int .u64 0, .int .u64 0] 33)) := (Below.refl _ _).alloc (Nat.le_refl _) _
      exact hK _ _ ⟨_, _, _, _, _, _, _, _, _, _, rfl, hsz _, HI.out.quiet 7 _ hF HN.out (by omega) (by show 7 < 11; omega) rfl HJ.out hbK (fun hg => HGQ.out 7 _ _ _ _ _ HN.out (by omega) (by show 7 < 11; omega) hbK hg (by decide)) ⟨w'.heap.size, rfl, ⟨Nat.le_refl _, by simp⟩, heap_new w' _⟩⟩
    | 8, _ =>
      have HN := Lib.hid hnd
      have q0 := (HI.out.got 0 (hdep _ rfl ⟨0, .data⟩ (by simp) (by kernel_rfl)) rfl).symm
      subst q0
      have q1 := (HI.out.got 1 (hdep _ rfl ⟨1, .data⟩ (by simp) (by kernel_rfl)) rfl).symm
      subst q1
      have HJ : Hid (∀ j ∈ ([] : List Nat), did L j = true) := fun j hj => by cases hj
      obtain ⟨B7, -, g7, e7, -, h7⟩ := HI.out.made 7 (hdep _ rfl ⟨7, .data⟩ (by simp) (by kernel_rfl)) rfl
      have e7 : u7 = .slice (some ⟨g7, 0, none⟩) 3 3 := e7
      subst e7
      have H7 := Lib.hid h7
      clear h7
      clear hdep hnd
      refine wpOp_step rfl (fun K' hK => ?_)
      go_simp
      refine (HV.out _ _ H7.out).mono ?_
      rintro e w1 ⟨rfl, hbK⟩
      exact hK _ _ ⟨_, _, _, _, _, _, _, _, _, _, rfl, hsz _, HI.out.quiet 8 _ hF HN.out (by omega) (by show 8 < 11; omega) rfl HJ.out hbK (fun hg => HGQ.out 8 _ _ _ _ _ HN.out (by omega) (by show 8 < 11; omega) hbK hg (by decide)) rfl⟩
    | 9, _ =>
      have HN := Lib.hid hnd
      have HJ : Hid (∀ j ∈ ([] : List Nat), did L j = true) := fun j hj => by cases hj
      clear hdep hnd
      refine wpOp_step rfl (fun K' hK => ?_)
      go_simp
      have hbK : Below w'.heap.size w' (w'.alloc (.cells #[.int .u64 0, .int .u64 0] 24)) := (Below.refl _ _).alloc (Nat.le_refl _) _
      exact hK _ _ ⟨_, _, _, _, _, _, _, _, _, _, rfl, hsz _, HI.out.quiet 9 _ hF HN.out (by omega) (by show 9 < 11; omega) rfl HJ.out hbK (fun hg => HGQ.out 9 _ _ _ _ _ HN.out (by omega) (by show 9 < 11; omega) hbK hg (by decide)) ⟨w'.heap.size, rfl, ⟨Nat.le_refl _, by simp⟩, _, _, heap_new w' _⟩⟩
    | 10, _ =>
      have HN := Lib.hid hnd
      have d9 := hdep _ rfl ⟨9, .data⟩ (by simp) (by kernel_rfl)
      have HJ : Hid (∀ j ∈ ([9] : List Nat), did L j = true) := by
        intro j hj
        simp only [List.mem_cons, List.not_mem_nil, or_false] at hj
        subst hj; assumption
      have q8 := (HI.out.got 8 (hdep _ rfl ⟨8, .data⟩ (by simp) (by kernel_rfl)) rfl).symm
      subst q8
      obtain ⟨B9, hb9, g, e9, hg9, ex, ey, h9⟩ := HI.out.made 9 d9 rfl
      have e9 : u9 = .pointer (some ⟨g, 0, none⟩) := e9
      subst e9
      have HGE : Hid (WB.heap.size ≤ g) := (hb9 g hg9).1
      have H9 := Lib.hid h9
      have HD9 := Lib.hid d9
      have z0 : w'.cell? ⟨g, 0, none⟩ = some ex := by simp [World.cell?, h9]
      have z1 : w'.cell? ⟨g, 1, none⟩ = some ey := by simp [World.cell?, h9]
      have z2 : w'.frozen? ⟨g, 0, none⟩ = false := by simp [World.frozen?, h9]
      have z3 : w'.frozen? ⟨g, 1, none⟩ = false := by simp [World.frozen?, h9]
      clear h9 hb9 hg9
      clear hdep hnd d9
      refine wpOp_step rfl (fun K' hK => ?_)
      go_simp
      exact hK _ _ ⟨_, _, _, _, _, _, _, _, _, _, rfl, hsz _, (HI.out.put 10 9 g undef (js := [9]) (P := TAnyW) (w' := (w'.setCell ⟨g, 0, none⟩ (.int .u64 0)).setCell ⟨g, 1, none⟩ (.int .u64 2)) hF HN.out (by omega) (by show 10 < 11; omega) rfl HJ.out (fun k hk => by rw [setCell_heap hk, setCell_heap hk]) (by simp) (fun B hB => ⟨hB.boxTwo HD9.out rfl rfl, fun h => h⟩) (fun js' P' hk B ls x hp => by cases hk; obtain ⟨g', rfl, q1, x', y', q2⟩ := hp; exact ⟨g', rfl, q1, two_after q2⟩) (fun hg => ⟨(hg.1.setCell HGE.out _).setCell HGE.out _, fun _ => ⟨by rw [did_other (by omega)]; exact HD9.out, g, rfl, HGE.out, set_lo _ (set_hi _ H9.out)⟩⟩) trivial)⟩
    | i + 11, hi => exact absurd hi (by show ¬ (i + 11 < 11); omega)
  · intro i o ho e he hb
    match i, ho with
    | 0, ho => cases ho; simp at he
    | 1, ho => cases ho; simp at he
    | 2, ho => cases ho; simp at he
    | 3, ho => cases ho; simp at he; subst he; first | (simp; done) | (exact absurd hb (by decide))
    | 4, ho => cases ho; simp at he
    | 5, ho => cases ho; simp at he; rcases he with rfl | rfl <;> first | (simp; done) | (exact absurd hb (by decide))
    | 6, ho => cases ho; simp at he
    | 7, ho => cases ho; simp at he; rcases he with rfl | rfl | rfl <;> first | (simp; done) | (exact absurd hb (by decide))
    | 8, ho => cases ho; simp at he; rcases he with rfl | rfl | rfl | rfl <;> first | (simp; done) | (exact absurd hb (by decide))
    | 9, ho => cases ho; simp at he
    | 10, ho => cases ho; simp at he; rcases he with rfl | rfl | rfl | rfl | rfl | rfl | rfl | rfl | rfl | rfl | rfl | rfl | rfl <;> first | (simp; done) | (exact absurd hb (by decide))
    | i + 11, ho => simp at ho
  · rintro L a' w' hall ⟨u0, u1, u2, u3, u4, u5, u6, u7, u8, u9, rfl, hLn, hI⟩
    exact HEX.out u0 u1 u2 u3 u4 u5 u6 u7 u8 u9 L w' (fun i hi => hall i hi) hI

set_option maxRecDepth 100000 in
set_option maxHeartbeats 6000000 in
theorem kreg5 (gx g2 : Nat) (WB : World)
    (HF : Hid (Rw.Fine (kR gx g2 30 3 5 14 WB))) (HG0 : Hid (∀ l : List Value, (kR gx g2 30 3 5 14 WB).G (Array.replicate 11 false) l WB.drew)) (Hn0 : (kR gx g2 30 3 5 14 WB).n0 ≤ WB.heap.size)
    (HK3 : Hid (∀ W, Calls Try.prog 30 #[.int .u64 3] W fun e w' => e = .returned (.agg #[.int .u8 1, .int .i64 4, .int .i64 0, .int .i64 0, .int .u64 0, .int .u64 3]) ∧ Below W.heap.size W w'))
    (HK5 : Hid (∀ W, Calls Try.prog 30 #[.int .u64 5] W fun e w' => e = .returned (.agg #[.int .u8 1, .int .i64 4, .int .i64 0, .int .i64 0, .int .u64 0, .int .u64 5]) ∧ Below W.heap.size W w'))
    (HC : Hid (∀ W, Below WB.heap.size WB W → W.cell? ⟨g2, 0, none⟩ = some (.int .u8 12) ∧ W.cell? ⟨g2, 1, none⟩ = some (.int .i64 4) ∧ W.cell? ⟨g2, 2, none⟩ = some (.int .i64 0) ∧ W.cell? ⟨g2, 3, none⟩ = some (.int .i64 0) ∧ W.cell? ⟨g2, 4, none⟩ = some (.int .u64 0) ∧ W.cell? ⟨g2, 5, none⟩ = some (.int .u64 0)))
    (HV : Hid (∀ W gc, W.heap[gc]? = some (.cells #[.int .u8 1, .int .i64 4, .int .i64 0, .int .i64 0, .int .u64 0, .int .u64 3, .int .u8 1, .int .i64 4, .int .i64 0, .int .i64 0, .int .u64 0, .int .u64 5, .int .u8 12, .int .i64 4, .int .i64 0, .int .i64 0, .int .u64 0, .int .u64 0] 33 (0, 0)) → Calls Try.prog 9 #[.agg #[.slice none 0 0, .slice none 0 0, .slice none 0 0, .slice none 0 0, .slice none 0 0, .slice none 0 0, .slice none 0 0, .slice none 0 0, .slice none 0 0, .slice none 0 0, .slice none 0 0, .slice none 0 0], .pointer (some ⟨gx, 0, none⟩), .slice (some ⟨gc, 0, none⟩) 3 3, .slice none 0 0] W fun e w' => e = .returned (.agg #[.int .u64 0, .int .u64 14]) ∧ Below W.heap.size W w'))
    (HGQ : Hid (∀ (i : Nat) (v : Value) (L : Array Bool) (l : List Value) (w w' : World), did L i = false → i < L.size → i < l.length → Below w.heap.size w w' → (kR gx g2 30 3 5 14 WB).G L l w → i ≠ 10 → (kR gx g2 30 3 5 14 WB).G (L.setIfInBounds i true) (l.set i v) w'))
    (c0 c4 c5 c6 c7 c8 c9 c10 c11 c12 c13 c14 c15 c16 c17 c18 c19 c20 c21 c22 c23 c24 c25 c26 c27 c28 c29 c30 c31 c32 c33 c34 : Value) (Q : Exit → Act → World → Prop)
    (hexit : ∀ (u0 u1 u2 u3 u4 u5 u6 u7 u8 u9 : Value) (L : Array Bool) (w' : World), (∀ i, i < 11 → did L i = true) → RW (kR gx g2 30 3 5 14 WB) L [u0, u1, u2, u3, u4, u5, u6, u7, u8, u9, undef] w' → Q .normal ⟨#[c0, .func (Fn.func 30) #[] #[], .pointer (some ⟨g2, 0, none⟩), .pointer (some ⟨gx, 0, none⟩), c4, u9, c6, c7, c8, c9, c10, c11, c12, c13, c14, c15, c16, c17, u0, u1, u2, u3, u4, u5, u6, u7, u8, c27, c28, c29, c30, c31, c32, c33, c34], []⟩ w') :
    Code.wp Try.prog ((Try.f12.body.bind (findRegion 5)).getD .skip) Q ⟨#[c0, .func (Fn.func 30) #[] #[], .pointer (some ⟨g2, 0, none⟩), .pointer (some ⟨gx, 0, none⟩), c4, c5, c6, c7, c8, c9, c10, c11, c12, c13, c14, c15, c16, c17, c18, c19, c20, c21, c22, c23, c24, c25, c26, c27, c28, c29, c30, c31, c32, c33, c34], []⟩ WB := by
  dsimp only at hexit ⊢
  conv => arg 2; whnf
  have HEX := Lib.hid hexit
  clear hexit
  have hF := HF.out
  refine wp_region_inv2 (by kernel_rfl) (fun L a' w' => ∃ u0 u1 u2 u3 u4 u5 u6 u7 u8 u9 : Value, a' = ⟨#[c0, .func (Fn.func 30) #[] #[], .pointer (some ⟨g2, 0, none⟩), .pointer (some ⟨gx, 0, none⟩), c4, u9, c6, c7, c8, c9, c10, c11, c12, c13, c14, c15, c16, c17, u0, u1, u2, u3, u4, u5, u6, u7, u8, c27, c28, c29, c30, c31, c32, c33, c34], []⟩ ∧ L.size = 11 ∧ RW (kR gx g2 30 3 5 14 WB) L [u0, u1, u2, u3, u4, u5, u6, u7, u8, u9, undef] w') ?_ ?_ ?_ ?_
  · exact ⟨_, _, _, _, _, _, _, _, _, _, rfl, by simp, RW.init (fun i => did_none _ _) Hn0 (HG0.out _)⟩
  · rintro L a' w' i hL hi hnd hdep ⟨u0, u1, u2, u3, u4, u5, u6, u7, u8, u9, rfl, hLn, hI⟩
    dsimp only
    have hsz : ∀ i, (L.setIfInBounds i true).size = 11 := fun i => by simpa using hLn
    have hL11 : L.size = 11 := hL
    have HI := Lib.hid hI
    clear hI
    match i, hi with
    | 0, _ =>
      have HN := Lib.hid hnd
      have HJ : Hid (∀ j ∈ ([] : List Nat), did L j = true) := fun j hj => by cases hj
      clear hdep hnd
      refine wpOp_step rfl (fun K' hK => ?_)
      go_simp
      exact hK _ _ ⟨_, _, _, _, _, _, _, _, _, _, rfl, hsz _, HI.out.val 0 _ hF HN.out (by omega) (by show 0 < 11; omega) rfl (Below.refl _ _) (fun hg => HGQ.out 0 _ _ _ _ _ HN.out (by omega) (by show 0 < 11; omega) (Below.refl _ _) hg (by decide))⟩
    | 1, _ =>
      have HN := Lib.hid hnd
      have HJ : Hid (∀ j ∈ ([] : List Nat), did L j = true) := fun j hj => by cases hj
      clear hdep hnd
      refine wpOp_step rfl (fun K' hK => ?_)
      go_simp
      exact hK _ _ ⟨_, _, _, _, _, _, _, _, _, _, rfl, hsz _, HI.out.val 1 _ hF HN.out (by omega) (by show 1 < 11; omega) rfl (Below.refl _ _) (fun hg => HGQ.out 1 _ _ _ _ _ HN.out (by omega) (by show 1 < 11; omega) (Below.refl _ _) hg (by decide))⟩
    | 2, _ =>
      have HN := Lib.hid hnd
      have HJ : Hid (∀ j ∈ ([] : List Nat), did L j = true) := fun j hj => by cases hj
      clear hdep hnd
      refine wpOp_step rfl (fun K' hK => ?_)
      go_simp
      exact hK _ _ ⟨_, _, _, _, _, _, _, _, _, _, rfl, hsz _, HI.out.val 2 _ hF HN.out (by omega) (by show 2 < 11; omega) rfl (Below.refl _ _) (fun hg => HGQ.out 2 _ _ _ _ _ HN.out (by omega) (by show 2 < 11; omega) (Below.refl _ _) hg (by decide))⟩
    | 3, _ =>
      have HN := Lib.hid hnd
      have q2 := (HI.out.got 2 (hdep _ rfl ⟨2, .data⟩ (by simp) (by kernel_rfl)) rfl).symm
      subst q2
      have HJ : Hid (∀ j ∈ ([] : List Nat), did L j = true) := fun j hj => by cases hj
      clear hdep hnd
      refine wpOp_step rfl (fun K' hK => ?_)
      go_simp
      refine (HK3.out _).mono ?_
      rintro e w1 ⟨rfl, hbK⟩
      exact hK _ _ ⟨_, _, _, _, _, _, _, _, _, _, rfl, hsz _, HI.out.quiet 3 _ hF HN.out (by omega) (by show 3 < 11; omega) rfl HJ.out hbK (fun hg => HGQ.out 3 _ _ _ _ _ HN.out (by omega) (by show 3 < 11; omega) hbK hg (by decide)) rfl⟩
    | 4, _ =>
      have HN := Lib.hid hnd
      have HJ : Hid (∀ j ∈ ([] : List Nat), did L j = true) := fun j hj => by cases hj
      clear hdep hnd
      refine wpOp_step rfl (fun K' hK => ?_)
      go_simp
      exact hK _ _ ⟨_, _, _, _, _, _, _, _, _, _, rfl, hsz _, HI.out.val 4 _ hF HN.out (by omega) (by show 4 < 11; omega) rfl (Below.refl _ _) (fun hg => HGQ.out 4 _ _ _ _ _ HN.out (by omega) (by show 4 < 11; omega) (Below.refl _ _) hg (by decide))⟩
    | 5, _ =>
      have HN := Lib.hid hnd
      have q4 := (HI.out.got 4 (hdep _ rfl ⟨4, .data⟩ (by simp) (by kernel_rfl)) rfl).symm
      subst q4
      have HJ : Hid (∀ j ∈ ([] : List Nat), did L j = true) := fun j hj => by cases hj
      clear hdep hnd
      refine wpOp_step rfl (fun K' hK => ?_)
      go_simp
      refine (HK5.out _).mono ?_
      rintro e w1 ⟨rfl, hbK⟩
      exact hK _ _ ⟨_, _, _, _, _, _, _, _, _, _, rfl, hsz _, HI.out.quiet 5 _ hF HN.out (by omega) (by show 5 < 11; omega) rfl HJ.out hbK (fun hg => HGQ.out 5 _ _ _ _ _ HN.out (by omega) (by show 5 < 11; omega) hbK hg (by decide)) rfl⟩
    | 6, _ =>
      have HN := Lib.hid hnd
      have HJ : Hid (∀ j ∈ ([] : List Nat), did L j = true) := fun j hj => by cases hj
      obtain ⟨z0, z1, z2, z3, z4, z5⟩ := HC.out _ HI.out.glob.1
      clear hdep hnd
      refine wpOp_step rfl (fun K' hK => ?_)
      go_simp
      exact hK _ _ ⟨_, _, _, _, _, _, _, _, _, _, rfl, hsz _, HI.out.val 6 _ hF HN.out (by omega) (by show 6 < 11; omega) rfl (Below.refl _ _) (fun hg => HGQ.out 6 _ _ _ _ _ HN.out (by omega) (by show 6 < 11; omega) (Below.refl _ _) hg (by decide))⟩
    | 7, _ =>
      have HN := Lib.hid hnd
      have q6 := (HI.out.got 6 (hdep _ rfl ⟨6, .data⟩ (by simp) (by kernel_rfl)) rfl).symm
      subst q6
      have HJ : Hid (∀ j ∈ ([] : List Nat), did L j = true) := fun j hj => by cases hj
      have q3 := (HI.out.got 3 (hdep _ rfl ⟨3, .data⟩ (by simp) (by kernel_rfl)) rfl).symm
      subst q3
      have q5 := (HI.out.got 5 (hdep _ rfl ⟨5, .data⟩ (by simp) (by kernel_rfl)) rfl).symm
      subst q5
      clear hdep hnd
      refine wpOp_step rfl (fun K' hK => ?_)
      go_simp
      have hbK : Below w'.heap.size w' (w'.alloc (.cells #[.int .u8 1, .int .i64 4, .int .i64 0, .int .i64 0, .int .u64 0, .int .u64 3, .int .u8 1, .int .i64 4, .int .i64 0, .int .i64 0, .int .u64 0, .int .u64 5, .int .u8 12, .int .i64 4, .int .i64 0, .int .i64 0, .int .u64 0, .int .u64 0] 33)) := (Below.refl _ _).alloc (Nat.le_refl _) _
      exact hK _ _ ⟨_, _, _, _, _, _, _, _, _, _, rfl, hsz _, HI.out.quiet 7 _ hF HN.out (by omega) (by show 7 < 11; omega) rfl HJ.out hbK (fun hg => HGQ.out 7 _ _ _ _ _ HN.out (by omega) (by show 7 < 11; omega) hbK hg (by decide)) ⟨w'.heap.size, rfl, ⟨Nat.le_refl _, by simp⟩, heap_new w' _⟩⟩
    | 8, _ =>
      have HN := Lib.hid hnd
      have q0 := (HI.out.got 0 (hdep _ rfl ⟨0, .data⟩ (by simp) (by kernel_rfl)) rfl).symm
      subst q0
      have q1 := (HI.out.got 1 (hdep _ rfl ⟨1, .data⟩ (by simp) (by kernel_rfl)) rfl).symm
      subst q1
      have HJ : Hid (∀ j ∈ ([] : List Nat), did L j = true) := fun j hj => by cases hj
      obtain ⟨B7, -, g7, e7, -, h7⟩ := HI.out.made 7 (hdep _ rfl ⟨7, .data⟩ (by simp) (by kernel_rfl)) rfl
      have e7 : u7 = .slice (some ⟨g7, 0, none⟩) 3 3 := e7
      subst e7
      have H7 := Lib.hid h7
      clear h7
      clear hdep hnd
      refine wpOp_step rfl (fun K' hK => ?_)
      go_simp
      refine (HV.out _ _ H7.out).mono ?_
      rintro e w1 ⟨rfl, hbK⟩
      exact hK _ _ ⟨_, _, _, _, _, _, _, _, _, _, rfl, hsz _, HI.out.quiet 8 _ hF HN.out (by omega) (by show 8 < 11; omega) rfl HJ.out hbK (fun hg => HGQ.out 8 _ _ _ _ _ HN.out (by omega) (by show 8 < 11; omega) hbK hg (by decide)) rfl⟩
    | 9, _ =>
      have HN := Lib.hid hnd
      have HJ : Hid (∀ j ∈ ([] : List Nat), did L j = true) := fun j hj => by cases hj
      clear hdep hnd
      refine wpOp_step rfl (fun K' hK => ?_)
      go_simp
      have hbK : Below w'.heap.size w' (w'.alloc (.cells #[.int .u64 0, .int .u64 0] 24)) := (Below.refl _ _).alloc (Nat.le_refl _) _
      exact hK _ _ ⟨_, _, _, _, _, _, _, _, _, _, rfl, hsz _, HI.out.quiet 9 _ hF HN.out (by omega) (by show 9 < 11; omega) rfl HJ.out hbK (fun hg => HGQ.out 9 _ _ _ _ _ HN.out (by omega) (by show 9 < 11; omega) hbK hg (by decide)) ⟨w'.heap.size, rfl, ⟨Nat.le_refl _, by simp⟩, _, _, heap_new w' _⟩⟩
    | 10, _ =>
      have HN := Lib.hid hnd
      have d9 := hdep _ rfl ⟨9, .data⟩ (by simp) (by kernel_rfl)
      have HJ : Hid (∀ j ∈ ([9] : List Nat), did L j = true) := by
        intro j hj
        simp only [List.mem_cons, List.not_mem_nil, or_false] at hj
        subst hj; assumption
      have q8 := (HI.out.got 8 (hdep _ rfl ⟨8, .data⟩ (by simp) (by kernel_rfl)) rfl).symm
      subst q8
      obtain ⟨B9, hb9, g, e9, hg9, ex, ey, h9⟩ := HI.out.made 9 d9 rfl
      have e9 : u9 = .pointer (some ⟨g, 0, none⟩) := e9
      subst e9
      have HGE : Hid (WB.heap.size ≤ g) := (hb9 g hg9).1
      have H9 := Lib.hid h9
      have HD9 := Lib.hid d9
      have z0 : w'.cell? ⟨g, 0, none⟩ = some ex := by simp [World.cell?, h9]
      have z1 : w'.cell? ⟨g, 1, none⟩ = some ey := by simp [World.cell?, h9]
      have z2 : w'.frozen? ⟨g, 0, none⟩ = false := by simp [World.frozen?, h9]
      have z3 : w'.frozen? ⟨g, 1, none⟩ = false := by simp [World.frozen?, h9]
      clear h9 hb9 hg9
      clear hdep hnd d9
      refine wpOp_step rfl (fun K' hK => ?_)
      go_simp
      exact hK _ _ ⟨_, _, _, _, _, _, _, _, _, _, rfl, hsz _, (HI.out.put 10 9 g undef (js := [9]) (P := TAnyW) (w' := (w'.setCell ⟨g, 0, none⟩ (.int .u64 0)).setCell ⟨g, 1, none⟩ (.int .u64 14)) hF HN.out (by omega) (by show 10 < 11; omega) rfl HJ.out (fun k hk => by rw [setCell_heap hk, setCell_heap hk]) (by simp) (fun B hB => ⟨hB.boxTwo HD9.out rfl rfl, fun h => h⟩) (fun js' P' hk B ls x hp => by cases hk; obtain ⟨g', rfl, q1, x', y', q2⟩ := hp; exact ⟨g', rfl, q1, two_after q2⟩) (fun hg => ⟨(hg.1.setCell HGE.out _).setCell HGE.out _, fun _ => ⟨by rw [did_other (by omega)]; exact HD9.out, g, rfl, HGE.out, set_lo _ (set_hi _ H9.out)⟩⟩) trivial)⟩
    | i + 11, hi => exact absurd hi (by show ¬ (i + 11 < 11); omega)
  · intro i o ho e he hb
    match i, ho with
    | 0, ho => cases ho; simp at he
    | 1, ho => cases ho; simp at he
    | 2, ho => cases ho; simp at he
    | 3, ho => cases ho; simp at he; subst he; first | (simp; done) | (exact absurd hb (by decide))
    | 4, ho => cases ho; simp at he
    | 5, ho => cases ho; simp at he; rcases he with rfl | rfl <;> first | (simp; done) | (exact absurd hb (by decide))
    | 6, ho => cases ho; simp at he
    | 7, ho => cases ho; simp at he; rcases he with rfl | rfl | rfl <;> first | (simp; done) | (exact absurd hb (by decide))
    | 8, ho => cases ho; simp at he; rcases he with rfl | rfl | rfl | rfl <;> first | (simp; done) | (exact absurd hb (by decide))
    | 9, ho => cases ho; simp at he
    | 10, ho => cases ho; simp at he; rcases he with rfl | rfl | rfl | rfl | rfl | rfl | rfl | rfl | rfl | rfl | rfl | rfl | rfl <;> first | (simp; done) | (exact absurd hb (by decide))
    | i + 11, ho => simp at ho
  · rintro L a' w' hall ⟨u0, u1, u2, u3, u4, u5, u6, u7, u8, u9, rfl, hLn, hI⟩
    exact HEX.out u0 u1 u2 u3 u4 u5 u6 u7 u8 u9 L w' (fun i hi => hall i hi) hI

end Go.Proofs.Ytnknpgfconfgjaa
