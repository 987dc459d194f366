/-
  Lemmas, joined: VecP2, Eval3, VecP3, SumS, SumS2, SymopD3, SymopS, SymopS2, RefB, RefB2, RefB3, RefB4, RefS, SumN, VecN, Head1, Val, Holds, EvalS, MeansP, RefCut, RefAdd, RefNot, In2, RefShl, RefCat, Known17, Known17b, RefSub, MeansP2, RefSlice, MeansP3, RefCmp, Law17L, Three, Law17R.
-/
import Derived.Test.YtlnkflmnjkmhkaaJS05
import Derived.Test.YtlnkflmnjkmhkaaJS04
import Derived.Deep.RegionHeld3
import Derived.Deep.DeepCutAuto
import Derived.Test.YtlnkflmnjkmhkaaJS03
import Derived.Test.YtlnkflmnjkmhkaaJS01
import Derived.Outline
import Derived.BigQuiet
import Derived.Deep.QuietTactic
import Derived.Deep.OwnRows
/-
  Contract of symbv.Slice.
-/
namespace Go.Proofs.Ytlnkflmnjkmhkaa
open Go.RowKit Go.Maps

def sliceL (xs : List Int) (hi lo : Int) : List Int := if lo < 0 ∨ hi < lo ∨ (xs.length : Int) ≤ lo then [] else (xs.drop lo.toNat).take ((min hi (xs.length - 1) + 1 - lo).toNat)

theorem sub_vec {w : World} {pa : Option Addr} {ca : Nat} {xs : List Int} (h : IVec w (.slice pa xs.length ca) xs) (L E : Nat) (hL : L < xs.length) (hE : E ≤ xs.length) (hLE : L ≤ E) :
    ∃ b0 o0, pa = some ⟨b0, o0, none⟩ ∧ IVec w (.slice (some ⟨b0, o0 + L, none⟩) (E - L) (ca - L)) ((xs.drop L).take (E - L)) := by
  obtain ⟨p, c, e, h2, h3, h4⟩ := h
  simp only [Value.slice.injEq, true_and] at e
  obtain ⟨b, off, hp, hlt, hc⟩ := h4 (by omega)
  obtain ⟨e1, e2⟩ := e
  have hl : ((xs.drop L).take (E - L)).length = E - L := by simp; omega
  refine ⟨b, off, e1.trans hp, some ⟨b, off + L, none⟩, ca - L, by rw [hl], by rw [hl]; omega, by omega, fun _ => ⟨b, off + L, rfl, hlt, fun i hi => ?_⟩⟩
  rw [hl] at hi
  rw [show off + L + i = off + (L + i) by omega, hc (L + i) (by omega)]
  congr 2
  rw [List.getD_eq_getElem?_getD, List.getD_eq_getElem?_getD, List.getElem?_take_of_lt hi, List.getElem?_drop]

set_option maxRecDepth 100000 in
set_option maxHeartbeats 1600000 in
theorem symbvSlice_any (va : Value) (xs : List Int) (hi lo : Int) (w : World) (ha : IVec w va xs) (hxl : xs.length ≤ 1000000) :
    Calls Try.prog 28 #[va, .int .i64 hi, .int .i64 lo] w (RetVecN w (sliceL xs hi lo)) := by
  have HA := Lib.hid ha
  obtain ⟨pa, ca, rfl, ha3, ha4, -⟩ := ha.shape
  have hem := own_empty w
  clear ha
  by_cases h0 : lo < 0
  · have HE : Hid (sliceL xs hi lo = []) := by show _ = _; unfold sliceL; rw [if_pos (Or.inl h0)]
    go_enter Try.func28, Try.ntmps28
    go_wp2_with fail
    go_ret
    exact ⟨_, rfl, by rw [HE.out]; exact IVec.nil _, fun k h => (by cases h), NilOk.nil, Below.refl _ _⟩
  · obtain ⟨L, rfl⟩ : ∃ L : Nat, lo = (L : Int) := ⟨lo.toNat, by omega⟩
    by_cases h1 : hi < (L : Int)
    · have HE : Hid (sliceL xs hi L = []) := by show _ = _; unfold sliceL; rw [if_pos (Or.inr (Or.inl h1))]
      go_enter Try.func28, Try.ntmps28
      go_wp2_with fail
      go_ret
      exact ⟨_, rfl, by rw [HE.out]; exact IVec.nil _, fun k h => (by cases h), NilOk.nil, Below.refl _ _⟩
    · by_cases h2 : xs.length ≤ L
      · have HE : Hid (sliceL xs hi L = []) := by show _ = _; unfold sliceL; rw [if_pos (Or.inr (Or.inr (by omega)))]
        go_enter Try.func28, Try.ntmps28
        go_wp2_with fail
        go_ret
        exact ⟨_, rfl, by rw [HE.out]; exact IVec.nil _, fun k h => (by cases h), NilOk.nil, Below.refl _ _⟩
      · obtain ⟨H, rfl⟩ : ∃ H : Nat, hi = (H : Int) := ⟨hi.toNat, by omega⟩
        by_cases h3 : (H : Int) ≤ (xs.length : Int) - 1
        · obtain ⟨b0, o0, rfl, hsub⟩ := sub_vec HA.out L (H + 1) (by omega) (by omega) (by omega)
          have HSUB := Lib.hid hsub
          have HE : Hid (sliceL xs (H : Int) (L : Int) = (xs.drop L).take (H + 1 - L)) := by
            show _ = _
            unfold sliceL
            rw [if_neg (by omega)]
            congr 1
            omega
          have hk : ¬ ca = L := by omega
          clear hsub h0
          go_enter Try.func28, Try.ntmps28
          go_wp2_with (at_builtin; refine append_vec rfl (.tmp 20) (.tmp 29) rfl w.heap.size _ [] rfl hem _ ((xs.drop L).take (H + 1 - L)) rfl (HSUB.out.below ((Below.refl w.heap.size w).alloc (Nat.le_refl _) _)) (NilOk.some _ _ _) (by simp; omega) (by simp) ?_; intro v1 w1 hown1 hgrow1; have hb1 : Below w.heap.size w w1 := ((Below.refl w.heap.size w).alloc (Nat.le_refl _) _).grown hgrow1 (by simp) (fun k h => by cases h; exact Nat.le_refl _))
          obtain ⟨q1, q2, q3⟩ := own_new hown1
          have Q : Hid (IVec w1 v1 ((xs.drop L).take (H + 1 - L)) ∧ (∀ k, v1.ownBlock = some k → 0 < ((xs.drop L).take (H + 1 - L)).length → w.heap.size ≤ k) ∧ NilOk v1 ∧ Below w.heap.size w w1) := ⟨q1, q2, q3, hb1⟩
          clear q1 q2 q3 hb1 hown1 hgrow1 hem
          go_ret
          exact ⟨_, rfl, by rw [HE.out]; exact Q.out⟩
        · obtain ⟨b0, o0, rfl, hsub⟩ := sub_vec HA.out L xs.length (by omega) (by omega) (by omega)
          have HSUB := Lib.hid hsub
          have HE : Hid (sliceL xs (H : Int) (L : Int) = (xs.drop L).take (xs.length - L)) := by
            show _ = _
            unfold sliceL
            rw [if_neg (by omega)]
            congr 1
            omega
          have hk : ¬ ca = L := by omega
          clear hsub h0
          go_enter Try.func28, Try.ntmps28
          go_wp2_with (at_builtin; refine append_vec rfl (.tmp 20) (.tmp 29) rfl w.heap.size _ [] rfl hem _ ((xs.drop L).take (xs.length - L)) rfl (HSUB.out.below ((Below.refl w.heap.size w).alloc (Nat.le_refl _) _)) (NilOk.some _ _ _) (by simp; omega) (by simp) ?_; intro v1 w1 hown1 hgrow1; have hb1 : Below w.heap.size w w1 := ((Below.refl w.heap.size w).alloc (Nat.le_refl _) _).grown hgrow1 (by simp) (fun k h => by cases h; exact Nat.le_refl _))
          obtain ⟨q1, q2, q3⟩ := own_new hown1
          have Q : Hid (IVec w1 v1 ((xs.drop L).take (xs.length - L)) ∧ (∀ k, v1.ownBlock = some k → 0 < ((xs.drop L).take (xs.length - L)).length → w.heap.size ≤ k) ∧ NilOk v1 ∧ Below w.heap.size w w1) := ⟨q1, q2, q3, hb1⟩
          clear q1 q2 q3 hb1 hown1 hgrow1 hem
          go_ret
          exact ⟨_, rfl, by rw [HE.out]; exact Q.out⟩

end Go.Proofs.Ytlnkflmnjkmhkaa



























/-
  Contracts of package symbv once more: the vector told is a row of the call's own.
-/
namespace Go.Proofs.Ytlnkflmnjkmhkaa
open Go.RowKit Go.Maps

def RetVecO (w : World) (xs : List Int) (e : Ending) (w' : World) : Prop := ∃ v, e = .returned v ∧ w'.ownsRow w.heap.size 3 1 v xs.length (xs.map (Value.int .i64)) ∧ Below w.heap.size w w'
end Go.Proofs.Ytlnkflmnjkmhkaa

/-
  Contracts of header.widths, header.Size, symhead.sizes at a program of one header of one byte; of symhead.has, is, slices.Clone.
-/
namespace Go.Proofs.Ytlnkflmnjkmhkaa
open Go.RowKit Go.Maps

/-- A program's one header, of one field of eight bits. -/
def HeadAt (W : World) (gh gw : Nat) : Prop := W.cell? ⟨gh, 0, none⟩ = some (.slice (some ⟨gw, 0, none⟩) 1 1) ∧ W.cell? ⟨gw, 0, none⟩ = some (.int .i64 8)
theorem HeadAt.below {W W' : World} {gh gw : Nat} (h : HeadAt W gh gw) (hb : Below W.heap.size W W') : HeadAt W' gh gw :=
  ⟨(hb.cell (p := ⟨gh, 0, none⟩) (cell_there h.1).1).trans h.1, (hb.cell (p := ⟨gw, 0, none⟩) (cell_there h.2).1).trans h.2⟩

set_option maxRecDepth 100000 in
set_option maxHeartbeats 400000 in
theorem widths_one (gh gw : Nat) (W : World) (h : HeadAt W gh gw) :
    Calls Try.prog 149 #[.agg #[.slice (some ⟨gh, 0, none⟩) 1 1, .slice none 0 0, .slice none 0 0, .slice none 0 0, .slice none 0 0, .slice none 0 0, .slice none 0 0, .slice none 0 0, .slice none 0 0, .slice none 0 0, .slice none 0 0, .slice none 0 0], .int .i64 0] W fun e w' => e = .returned (.slice (some ⟨gw, 0, none⟩) 1 1) ∧ Below W.heap.size W w' := by
  obtain ⟨c0, c1⟩ := h
  have l0 := (cell_there c0).1
  have k0 : ∀ o, (W.alloc o).cell? ⟨gh, 0, none⟩ = some (.slice (some ⟨gw, 0, none⟩) 1 1) := fun o => (World.cell?_alloc_lt W o ⟨gh, 0, none⟩ l0).trans c0
  go_enter Try.func149, Try.ntmps149
  go_wp2_with fail
  go_ret
  exact ⟨rfl, (by repeat (first | exact Below.refl _ _ | assumption | refine Below.drew ?_ | refine Below.alloc ?_ (by first | omega | (simp <;> omega)) _ | refine Below.setCell ?_ (by first | omega | (simp <;> omega)) _ | refine Below.trans ?_ (Below.mono (by assumption) (by first | omega | (simp <;> omega)))))⟩
set_option maxRecDepth 100000 in
set_option maxHeartbeats 400000 in
theorem widths_none (gh : Nat) (i : Int) (hi : i < 0 ∨ 1 ≤ i) (W : World) :
    Calls Try.prog 149 #[.agg #[.slice (some ⟨gh, 0, none⟩) 1 1, .slice none 0 0, .slice none 0 0, .slice none 0 0, .slice none 0 0, .slice none 0 0, .slice none 0 0, .slice none 0 0, .slice none 0 0, .slice none 0 0, .slice none 0 0, .slice none 0 0], .int .i64 i] W fun e w' => e = .returned (.slice none 0 0) ∧ Below W.heap.size W w' := by
  by_cases h0 : i < 0
  · clear hi
    go_enter Try.func149, Try.ntmps149
    go_wp2_with fail
    go_ret
    exact ⟨rfl, (by repeat (first | exact Below.refl _ _ | assumption | refine Below.drew ?_ | refine Below.alloc ?_ (by first | omega | (simp <;> omega)) _ | refine Below.setCell ?_ (by first | omega | (simp <;> omega)) _ | refine Below.trans ?_ (Below.mono (by assumption) (by first | omega | (simp <;> omega)))))⟩
  · have h1 : 1 ≤ i := by omega
    clear hi
    go_enter Try.func149, Try.ntmps149
    go_wp2_with fail
    go_ret
    exact ⟨rfl, (by repeat (first | exact Below.refl _ _ | assumption | refine Below.drew ?_ | refine Below.alloc ?_ (by first | omega | (simp <;> omega)) _ | refine Below.setCell ?_ (by first | omega | (simp <;> omega)) _ | refine Below.trans ?_ (Below.mono (by assumption) (by first | omega | (simp <;> omega)))))⟩

set_option maxRecDepth 100000 in
set_option maxHeartbeats 800000 in
theorem size_one (gh gw : Nat) (W : World) (h : HeadAt W gh gw) :
    Calls Try.prog 119 #[.agg #[.slice (some ⟨gh, 0, none⟩) 1 1, .slice none 0 0, .slice none 0 0, .slice none 0 0, .slice none 0 0, .slice none 0 0, .slice none 0 0, .slice none 0 0, .slice none 0 0, .slice none 0 0, .slice none 0 0, .slice none 0 0], .int .i64 0] W fun e w' => e = .returned (.int .i64 1) ∧ Below W.heap.size W w' := by
  have hb : ∀ o, Below W.heap.size W (W.alloc o) := fun o => (Below.refl _ _).alloc (Nat.le_refl _) o
  have HWD : Hid (∀ o, Calls Try.prog 149 #[.agg #[.slice (some ⟨gh, 0, none⟩) 1 1, .slice none 0 0, .slice none 0 0, .slice none 0 0, .slice none 0 0, .slice none 0 0, .slice none 0 0, .slice none 0 0, .slice none 0 0, .slice none 0 0, .slice none 0 0, .slice none 0 0], .int .i64 0] (W.alloc o) fun e w' => e = .returned (.slice (some ⟨gw, 0, none⟩) 1 1) ∧ HeadAt w' gh gw ∧ Below W.heap.size W w') := fun o => by
    refine (widths_one gh gw _ (h.below (hb o))).mono ?_
    rintro e w' ⟨h1, h2⟩
    exact ⟨h1, (h.below (hb o)).below h2, (hb o).trans (h2.mono (hb o).size)⟩
  clear h hb
  go_enter Try.func119, Try.ntmps119
  go_wp2_with fail
  refine (HWD.out _).mono ?_
  rintro e w1 ⟨rfl, hh, hb⟩
  obtain ⟨c0, c1⟩ := hh
  have HB := Lib.hid hb
  clear hb HWD
  go_wp2_with fail
  go_loop [5, 12] (fun a i => (i = .int .i64 0 ∧ a = .int .i64 0) ∨ (i = .int .i64 1 ∧ a = .int .i64 8)) (fun _ i => 1 - (intOf i).toNat)
  case atStart => exact .inl ⟨rfl, rfl⟩
  case round =>
    rcases hrel with ⟨rfl, rfl⟩ | ⟨rfl, rfl⟩
    · go_wp2_with fail
      go_round
      case rel => exact .inr ⟨by go_num, by go_num⟩
      case measure => decide
    · go_wp2_with fail
      go_ret
      exact ⟨rfl, HB.out⟩
set_option maxRecDepth 100000 in
set_option maxHeartbeats 800000 in
theorem size_none (gh : Nat) (i : Int) (hi : i < 0 ∨ 1 ≤ i) (W : World) :
    Calls Try.prog 119 #[.agg #[.slice (some ⟨gh, 0, none⟩) 1 1, .slice none 0 0, .slice none 0 0, .slice none 0 0, .slice none 0 0, .slice none 0 0, .slice none 0 0, .slice none 0 0, .slice none 0 0, .slice none 0 0, .slice none 0 0, .slice none 0 0], .int .i64 i] W fun e w' => e = .returned (.int .i64 0) ∧ Below W.heap.size W w' := by
  have HWD : Hid (∀ o, Calls Try.prog 149 #[.agg #[.slice (some ⟨gh, 0, none⟩) 1 1, .slice none 0 0, .slice none 0 0, .slice none 0 0, .slice none 0 0, .slice none 0 0, .slice none 0 0, .slice none 0 0, .slice none 0 0, .slice none 0 0, .slice none 0 0, .slice none 0 0], .int .i64 i] (W.alloc o) fun e w' => e = .returned (.slice none 0 0) ∧ Below W.heap.size W w') := fun o =>
    (widths_none gh i hi _).mono fun e w' h => ⟨h.1, ((Below.refl _ _).alloc (Nat.le_refl _) o).trans (h.2.mono ((Below.refl W.heap.size W).alloc (Nat.le_refl _) o).size)⟩
  clear hi
  go_enter Try.func119, Try.ntmps119
  go_wp2_with fail
  refine (HWD.out _).mono ?_
  rintro e w1 ⟨rfl, hb⟩
  have HB := Lib.hid hb
  clear hb HWD
  go_wp2_with fail
  go_loop [5, 12] (fun a i => i = .int .i64 0 ∧ a = .int .i64 0) (fun _ _ => 0)
  case atStart => exact ⟨rfl, rfl⟩
  case round =>
    obtain ⟨rfl, rfl⟩ := hrel
    go_wp2_with fail
    go_ret
    exact ⟨rfl, HB.out⟩

set_option maxRecDepth 100000 in
set_option maxHeartbeats 800000 in
theorem sizes_one (gh gw : Nat) (W : World) (h : HeadAt W gh gw) :
    Calls Try.prog 118 #[.agg #[.slice (some ⟨gh, 0, none⟩) 1 1, .slice none 0 0, .slice none 0 0, .slice none 0 0, .slice none 0 0, .slice none 0 0, .slice none 0 0, .slice none 0 0, .slice none 0 0, .slice none 0 0, .slice none 0 0, .slice none 0 0], .int .i64 0] W fun e w' => e = .returned (.tuple #[.slice (some ⟨gw, 0, none⟩) 1 1, .bool true]) ∧ Below W.heap.size W w' := by
  obtain ⟨c0, c1⟩ := h
  have l0 := (cell_there c0).1
  have l1 := (cell_there c1).1
  have k0 : ∀ o, (W.alloc o).cell? ⟨gh, 0, none⟩ = some (.slice (some ⟨gw, 0, none⟩) 1 1) := fun o => (World.cell?_alloc_lt W o ⟨gh, 0, none⟩ l0).trans c0
  have k1 : ∀ o, (W.alloc o).cell? ⟨gw, 0, none⟩ = some (.int .i64 8) := fun o => (World.cell?_alloc_lt W o ⟨gw, 0, none⟩ l1).trans c1
  go_enter Try.func118, Try.ntmps118
  go_wp2_with fail
  go_loop [6, 24] (fun a i => (i = .int .i64 0 ∧ a = .int .i64 0) ∨ (i = .int .i64 1 ∧ a = .int .i64 8)) (fun _ i => 1 - (intOf i).toNat)
  case atStart => exact .inl ⟨rfl, rfl⟩
  case round =>
    rcases hrel with ⟨rfl, rfl⟩ | ⟨rfl, rfl⟩
    · go_wp2_with fail
      go_round
      case rel => exact .inr ⟨by go_num, by go_num⟩
      case measure => decide
    · go_wp2_with fail
      go_ret2
      exact ⟨rfl, (by repeat (first | exact Below.refl _ _ | assumption | refine Below.drew ?_ | refine Below.alloc ?_ (by first | omega | (simp <;> omega)) _ | refine Below.setCell ?_ (by first | omega | (simp <;> omega)) _ | refine Below.trans ?_ (Below.mono (by assumption) (by first | omega | (simp <;> omega)))))⟩
set_option maxRecDepth 100000 in
set_option maxHeartbeats 800000 in
theorem sizes_none (gh : Nat) (i : Int) (hi : i < 0 ∨ 1 ≤ i) (W : World) :
    Calls Try.prog 118 #[.agg #[.slice (some ⟨gh, 0, none⟩) 1 1, .slice none 0 0, .slice none 0 0, .slice none 0 0, .slice none 0 0, .slice none 0 0, .slice none 0 0, .slice none 0 0, .slice none 0 0, .slice none 0 0, .slice none 0 0, .slice none 0 0], .int .i64 i] W fun e w' => e = .returned (.tuple #[.slice none 0 0, .bool false]) ∧ Below W.heap.size W w' := by
  by_cases h0 : i < 0
  · clear hi
    go_enter Try.func118, Try.ntmps118
    go_wp2_with fail
    go_ret2
    exact ⟨rfl, (by repeat (first | exact Below.refl _ _ | assumption | refine Below.drew ?_ | refine Below.alloc ?_ (by first | omega | (simp <;> omega)) _ | refine Below.setCell ?_ (by first | omega | (simp <;> omega)) _ | refine Below.trans ?_ (Below.mono (by assumption) (by first | omega | (simp <;> omega)))))⟩
  · have h1 : 1 ≤ i := by omega
    clear hi
    go_enter Try.func118, Try.ntmps118
    go_wp2_with fail
    go_ret2
    exact ⟨rfl, (by repeat (first | exact Below.refl _ _ | assumption | refine Below.drew ?_ | refine Below.alloc ?_ (by first | omega | (simp <;> omega)) _ | refine Below.setCell ?_ (by first | omega | (simp <;> omega)) _ | refine Below.trans ?_ (Below.mono (by assumption) (by first | omega | (simp <;> omega)))))⟩

/-! ### has, is -/
set_option maxRecDepth 100000 in
set_option maxHeartbeats 400000 in
theorem hasF_nil (i : Int) (W : World) : Calls Try.prog 120 #[.pointer none, .int .i64 i] W fun e w' => e = .returned (.bool false) ∧ W = w' := by
  go_enter Try.func120, Try.ntmps120
  go_wp2_with fail
  go_ret
  exact ⟨rfl, rfl⟩
set_option maxRecDepth 100000 in
set_option maxHeartbeats 400000 in
theorem hasF_none (g : Nat) (pv : Option Addr) (cv : Nat) (i : Int) (W : World) (c3 : W.cell? ⟨g, 3, none⟩ = some (.slice pv 0 cv)) : Calls Try.prog 120 #[.pointer (some ⟨g, 0, none⟩), .int .i64 i] W fun e w' => e = .returned (.bool false) ∧ W = w' := by
  by_cases h : 0 ≤ i
  · have h2 : ¬ (i < 0) := by omega
    go_enter Try.func120, Try.ntmps120
    go_wp2_with fail
    go_ret
    exact ⟨rfl, rfl⟩
  · go_enter Try.func120, Try.ntmps120
    go_wp2_with fail
    go_ret
    exact ⟨rfl, rfl⟩
set_option maxRecDepth 100000 in
set_option maxHeartbeats 400000 in
theorem hasF_one (g : Nat) (pv pf : Option Addr) (cv cf : Nat) (W : World) (c3 : W.cell? ⟨g, 3, none⟩ = some (.slice pv 1 cv)) (c4 : W.cell? ⟨g, 4, none⟩ = some (.slice pf 1 cf)) : Calls Try.prog 120 #[.pointer (some ⟨g, 0, none⟩), .int .i64 0] W fun e w' => e = .returned (.bool true) ∧ W = w' := by
  go_enter Try.func120, Try.ntmps120
  go_wp2_with fail
  go_ret
  exact ⟨rfl, rfl⟩
set_option maxRecDepth 100000 in
set_option maxHeartbeats 400000 in
theorem isF_nil (i j : Int) (W : World) : Calls Try.prog 121 #[.pointer none, .int .i64 i, .int .i64 j] W fun e w' => e = .returned (.bool false) ∧ W = w' := by
  have H := Lib.hid (hasF_nil i W)
  go_enter Try.func121, Try.ntmps121
  go_wp2_with ((with_reducible refine H.out.mono ?_); rintro e w1 ⟨rfl, rfl⟩)
  go_ret
  exact ⟨rfl, rfl⟩
set_option maxRecDepth 100000 in
set_option maxHeartbeats 400000 in
theorem isF_none (g : Nat) (pv : Option Addr) (cv : Nat) (i j : Int) (W : World) (c3 : W.cell? ⟨g, 3, none⟩ = some (.slice pv 0 cv)) : Calls Try.prog 121 #[.pointer (some ⟨g, 0, none⟩), .int .i64 i, .int .i64 j] W fun e w' => e = .returned (.bool false) ∧ W = w' := by
  have H := Lib.hid (hasF_none g pv cv i W c3)
  clear c3
  go_enter Try.func121, Try.ntmps121
  go_wp2_with ((with_reducible refine H.out.mono ?_); rintro e w1 ⟨rfl, rfl⟩)
  go_ret
  exact ⟨rfl, rfl⟩
set_option maxRecDepth 100000 in
set_option maxHeartbeats 400000 in
theorem isF_one (g : Nat) (pv : Option Addr) (cv cf gf cg : Nat) (q : Option Addr) (W : World) (c3 : W.cell? ⟨g, 3, none⟩ = some (.slice pv 1 cv)) (c4 : W.cell? ⟨g, 4, none⟩ = some (.slice (some ⟨gf, 0, none⟩) 1 cf)) (hcf : 1 ≤ cf) (c5 : W.cell? ⟨gf, 0, none⟩ = some (.slice q 1 cg)) : Calls Try.prog 121 #[.pointer (some ⟨g, 0, none⟩), .int .i64 0, .int .i64 0] W fun e w' => e = .returned (.bool true) ∧ W = w' := by
  have H := Lib.hid (hasF_one g pv _ cv cf W c3 c4)
  go_enter Try.func121, Try.ntmps121
  go_wp2_with ((with_reducible refine H.out.mono ?_); rintro e w1 ⟨rfl, rfl⟩)
  go_ret
  exact ⟨rfl, rfl⟩

/-- append of a vector to a row of the call's own. -/
theorem append_ints {w : World} {ops : Array Oper} {rest : List Oper} {o : Oper} {a : Act} {Q : Exit → Act → World → Prop} (hgd : o.guard = none) (s x : Operand)
    (ho : o.op = .call { callee := .builtin .append, args := #[s, x], argTypes := #[33, 33] })
    (base : Nat) (v : Value) (zs : List Int) (hs : a.eval s = v) (hown : w.ownsRow base 3 1 v zs.length (zs.map (Value.int .i64)))
    (vx : Value) (xs : List Int) (hx : a.eval x = vx) (hv : IVec w vx xs) (hn : NilOk vx) (hl : zs.length + xs.length ≤ 2000000) (hbase : base ≤ w.heap.size)
    (h : ∀ v' w', w'.ownsRow base 3 1 v' (zs ++ xs).length ((zs ++ xs).map (Value.int .i64)) → w.grownBy w' v.ownBlock → wpList Try.prog ops Q rest (a.put o.dst v') w') : wpList Try.prog ops Q (o :: rest) a w := by
  obtain ⟨i0, hi, hz0, hz1, hz2⟩ := info_parts Try.infoInt
  obtain ⟨pa, ca, rfl, ha3, ha4, ha5⟩ := hv.shape
  cases pa with
  | none =>
    obtain rfl : ca = 0 := hn _ _ rfl
    obtain rfl : xs = [] := List.eq_nil_of_length_eq_zero (by omega)
    refine wpList_append_own_none hgd s x _ ho base 3 i0 1 Try.underlying33 hi v _ _ hs hown hx ?_
    exact h v w (by simpa using hown) (grownBy_none ⟨rfl, rfl, rfl, Nat.le_refl _, fun _ _ _ => rfl⟩ _)
  | some ad =>
    refine wpList_append_own _ hgd s x _ ho base 3 i0 (.int .i64 0) 1 8 Try.underlying33 hi hz0 hz1 hz2 rfl (by decide) v _ _ hs hown ad xs.length ca (xs.map (Value.int .i64)) hx (by simp) ?_ (ints_oneCell .i64 _) (by unfold maxLen; omega) (by omega) hbase ?_
    · intro j u hu
      have hj : j < xs.length := by
        have := (List.getElem?_eq_some_iff.1 hu).1
        simpa using this
      obtain ⟨ad', e, hsrc⟩ := copy_src hv (by omega)
      cases e
      exact hsrc j u hu
    · intro v' w' h1 h2 _
      exact h v' w' (by simpa using h1) h2

/-! ### Clone -/
set_option maxRecDepth 100000 in
set_option maxHeartbeats 800000 in
theorem cloneV_nil (W : World) : Calls Try.prog 123 #[.slice none 0 0] W fun e w' => e = .returned (.slice none 0 0) ∧ W = w' := by
  have q : (Go.binOp .eql 34 (.slice none 0 0) (.slice none 0 0)).run Try.prog W = .ok (.bool true) W := Lib.run_eql_slice_nil W _ _ none 0 0 0 0 Try.underlying34
  go_enter Try.func123, Try.ntmps123
  go_wp2_with fail
  go_ret
  exact ⟨rfl, rfl⟩
set_option maxRecDepth 100000 in
set_option maxHeartbeats 800000 in
theorem cloneI_nil (W : World) : Calls Try.prog 148 #[.slice none 0 0] W fun e w' => e = .returned (.slice none 0 0) ∧ W = w' := by
  have q : (Go.binOp .eql 33 (.slice none 0 0) (.slice none 0 0)).run Try.prog W = .ok (.bool true) W := Lib.run_eql_slice_nil W _ _ none 0 0 0 0 Try.underlying33
  go_enter Try.func148, Try.ntmps148
  go_wp2_with fail
  go_ret
  exact ⟨rfl, rfl⟩
set_option maxRecDepth 100000 in
set_option maxHeartbeats 1600000 in
theorem cloneV_any (a : Addr) (n ca : Nat) (xs : List Int) (w : World) (hn : xs.length = n) (ha : IVec w (.slice (some a) n ca) xs) (hxl : xs.length ≤ 1000000) :
    Calls Try.prog 123 #[.slice (some a) n ca] w (RetVecO w xs) := by
  subst hn
  have HA := Lib.hid ha
  have hem := own_empty w
  have q : ∀ m, (Go.binOp .eql 34 (.slice (some a) m ca) (.slice none 0 0)).run Try.prog w = .ok (.bool false) w := fun m => Lib.run_eql_slice_nil w _ _ (some a) m ca 0 0 Try.underlying34
  clear ha
  go_enter Try.func123, Try.ntmps123
  go_wp2_with (at_builtin; refine append_vec rfl (.tmp 5) (.tmp 6) rfl w.heap.size _ [] rfl hem _ xs rfl (HA.out.below ((Below.refl w.heap.size w).alloc (Nat.le_refl _) _)) (NilOk.some _ _ _) (by simp; omega) (by simp) ?_; intro v1 w1 hown1 hgrow1; have hb1 : Below w.heap.size w w1 := ((Below.refl w.heap.size w).alloc (Nat.le_refl _) _).grown hgrow1 (by simp) (fun k h => by cases h; exact Nat.le_refl _))
  have Q : Hid (w1.ownsRow w.heap.size 3 1 v1 xs.length (xs.map (Value.int .i64)) ∧ Below w.heap.size w w1) := ⟨hown1, hb1⟩
  clear hb1 hown1 hgrow1 hem
  go_ret
  exact ⟨_, rfl, Q.out⟩

set_option maxRecDepth 100000 in
set_option maxHeartbeats 1600000 in
theorem cloneI_any (a : Addr) (n ca : Nat) (xs : List Int) (w : World) (hn : xs.length = n) (ha : IVec w (.slice (some a) n ca) xs) (hxl : xs.length ≤ 1000000) :
    Calls Try.prog 148 #[.slice (some a) n ca] w (RetVecO w xs) := by
  subst hn
  have HA := Lib.hid ha
  have hem := own_empty w
  have q : ∀ m, (Go.binOp .eql 33 (.slice (some a) m ca) (.slice none 0 0)).run Try.prog w = .ok (.bool false) w := fun m => Lib.run_eql_slice_nil w _ _ (some a) m ca 0 0 Try.underlying33
  clear ha
  go_enter Try.func148, Try.ntmps148
  go_wp2_with (at_builtin; refine append_ints rfl (.tmp 5) (.tmp 6) rfl w.heap.size _ [] rfl hem _ xs rfl (HA.out.below ((Below.refl w.heap.size w).alloc (Nat.le_refl _) _)) (NilOk.some _ _ _) (by simp; omega) (by simp) ?_; intro v1 w1 hown1 hgrow1; have hb1 : Below w.heap.size w w1 := ((Below.refl w.heap.size w).alloc (Nat.le_refl _) _).grown hgrow1 (by simp) (fun k h => by cases h; exact Nat.le_refl _))
  have Q : Hid (w1.ownsRow w.heap.size 3 1 v1 xs.length (xs.map (Value.int .i64)) ∧ Below w.heap.size w w1) := ⟨hown1, hb1⟩
  clear hb1 hown1 hgrow1 hem
  go_ret
  exact ⟨_, rfl, Q.out⟩

end Go.Proofs.Ytlnkflmnjkmhkaa







































/-
  The law SymbvMeans of layer 17: the region that makes p, q, r.
-/
namespace Go.Proofs.Ytlnkflmnjkmhkaa
open Go.RowKit Go.Maps

def findRegion (n : Nat) : Code → Option Code
  | .region k ops any => if k = n then some (.region k ops any) else none
  | .seq a b => match findRegion n a with
    | some c => some c
    | none => findRegion n b
  | .block _ c => findRegion n c
  | .scope c => findRegion n c
  | .loop c => findRegion n c
  | .cond _ a b => match findRegion n a with
    | some c => some c
    | none => findRegion n b
  | _ => none
end Go.Proofs.Ytlnkflmnjkmhkaa
