/-
  Less, and Eq of nothing, at a live store, and constants.
-/
import Derived.Test.YtlihbbeodclncaaSumK2
import Derived.Test.YtlihbbeodclncaaSymopD2
namespace Go.Proofs.Ytlihbbeodclncaa
open Go.RowKit Go.Maps

def lessK (t x y : Int) : Int := iteK (iteK x (iteK y 0 1) y) y t
def lessAt (p : Nat → Int × Int) : Nat → Int
  | 0 => 0
  | k + 1 => lessK (lessAt p k) (p k).1 (p k).2
theorem lessAt_ok {xs ys : List Int} (hy : ∀ k, Bit01 (ys.getD k 0)) (k : Nat) : Bit01 (lessAt (pairAt xs ys) k) := by
  induction k with
  | zero => exact bit0
  | succ k ih => exact iteK_ok (hy k) ih

set_option maxHeartbeats 800000 in
theorem less1_k (bS : Nat) (po : Option Addr) (t x y : Int) (w : World) (ht01 : Bit01 t) (hx01 : Bit01 x) (hy01 : Bit01 y) (hd : Live w (.pointer po)) (hS : w.cell? ⟨bS, 0, none⟩ = some (.pointer po)) :
    Calls Try.prog 37 #[.int .i64 t, .agg #[.int .i64 x, .int .i64 y], .pointer (some ⟨bS, 0, none⟩)] w (RetInt w (lessK t x y)) := by
  have HD : Hid (∀ W, Below w.heap.size w W → Live W (.pointer po)) := fun W hW => hd.below hW
  have hlS := (cell_there hS).1
  have H01 : Hid (Bit01 t ∧ Bit01 x ∧ Bit01 y) := ⟨ht01, hx01, hy01⟩
  clear hd ht01 hx01 hy01
  go_enter Try.func37, Try.ntmps37
  go_wp2_with fail
  refine (xor_live _ _ _ (HD.out _ (by repeat (first | exact Below.refl _ _ | assumption | refine Below.drew ?_ | refine Below.alloc ?_ (by first | omega | (simp <;> omega)) _ | refine Below.setCell ?_ (by first | omega | (simp <;> omega)) _ | refine Below.trans ?_ (Below.mono (by assumption) (by first | omega | (simp <;> omega)))))) H01.out.2.1 H01.out.2.2).mono ?_
  rintro e w1 ⟨rfl, hb1⟩
  have hB1 : Below w.heap.size w w1 := (by repeat (first | exact Below.refl _ _ | assumption | refine Below.drew ?_ | refine Below.alloc ?_ (by first | omega | (simp <;> omega)) _ | refine Below.setCell ?_ (by first | omega | (simp <;> omega)) _ | refine Below.trans ?_ (Below.mono (by assumption) (by first | omega | (simp <;> omega)))))
  have s1 : w1.cell? ⟨bS, 0, none⟩ = some (.pointer po) := (hB1.cell hlS).trans hS
  have x1 : w1.cell? ⟨w.heap.size, 1, none⟩ = some (.int .i64 y) := by rw [hb1.cell (p := ⟨w.heap.size, 1, none⟩) (by simp)]; simp [go_sem]
  have HB := Lib.hid hB1
  clear hS hb1 hB1
  go_wp2_with fail
  refine (ite_live _ _ _ _ (HD.out _ HB.out) (iteK_ok (iteK_ok bit0 bit1) H01.out.2.2) H01.out.2.2 H01.out.1).mono ?_
  rintro e w2 ⟨rfl, hb2⟩
  go_wp2_with fail
  go_ret
  exact ⟨rfl, HB.out.trans (hb2.mono HB.out.size)⟩

theorem fold_less_k (po : Option Addr) (bS : Nat) (v : Value) (n : Nat) (xs ys : List Int) (w : World) (hn : n ≤ 1000000) (hv : PVec w v n (pairAt xs ys)) (hx : ∀ k, Bit01 (xs.getD k 0)) (hy : ∀ k, Bit01 (ys.getD k 0)) (hd : Live w (.pointer po)) (hS : w.cell? ⟨bS, 0, none⟩ = some (.pointer po)) :
    Calls Try.prog 31 #[v, .int .i64 0, .func (.func 37) #[] #[.pointer (some ⟨bS, 0, none⟩)]] w (RetInt w (lessAt (pairAt xs ys) n)) :=
  (fold_bits 37 #[] #[.pointer (some ⟨bS, 0, none⟩)] v n (pairAt xs ys) (fun k t W => t = lessAt (pairAt xs ys) k ∧ Below w.heap.size w W) 0 w hn ⟨rfl, Below.refl _ _⟩ (fun k t W h => hv.below h.2) (fun k t W W' h hb => ⟨h.1, h.2.trans (hb.mono h.2.size)⟩) call_less1
    (fun k hk t W h => (less1_k bS po t _ _ W (h.1 ▸ lessAt_ok hy k) (hx k) (hy k) (hd.below h.2) ((h.2.cell (cell_there hS).1).trans hS)).mono fun e w' ⟨h1, h2⟩ => ⟨_, h1, by rw [h.1]; rfl, h.2.trans (h2.mono h.2.size)⟩)).mono
    fun e w' ⟨r, h1, h2, h3⟩ => ⟨h2 ▸ h1, h3⟩
theorem fold_eq0 (p : Nat → Int × Int) (po : Option Addr) (bS : Nat) (v : Value) (w : World) (hv : PVec w v 0 p) :
    Calls Try.prog 31 #[v, .int .i64 1, .func (.func 33) #[] #[.pointer (some ⟨bS, 0, none⟩)]] w (RetInt w 1) :=
  (fold_bits 33 #[] #[.pointer (some ⟨bS, 0, none⟩)] v 0 p (fun k t W => t = 1 ∧ Below w.heap.size w W) 1 w (by omega) ⟨rfl, Below.refl _ _⟩ (fun k t W h => hv.below h.2) (fun k t W W' h hb => ⟨h.1, h.2.trans (hb.mono h.2.size)⟩) call_eq1
    (fun k hk t W h => absurd hk (Nat.not_lt_zero _))).mono
    fun e w' ⟨r, h1, h2, h3⟩ => ⟨h2 ▸ h1, h3⟩

set_option maxHeartbeats 1600000 in
theorem less_k {sp : Value} (va vb : Value) (xs ys : List Int) (w : World) (hx01 : ∀ k, Bit01 (xs.getD k 0)) (hy01 : ∀ k, Bit01 (ys.getD k 0)) (hd : Live w sp) (ha : IVec w va xs) (hb : IVec w vb ys) (hxl : xs.length ≤ 1000000) (hyl : ys.length ≤ 1000000) :
    Calls Try.prog 12 #[sp, va, vb] w (RetInt w (lessAt (pairAt xs ys) (max xs.length ys.length))) := by
  have HD : Hid (∀ W, Below w.heap.size w W → Live W sp) := fun W hW => hd.below hW
  have HA := Lib.hid ha
  have HB := Lib.hid hb
  obtain ⟨bd, rfl⟩ := hd.shape
  obtain ⟨po, hpo⟩ : ∃ po : Option Addr, po = some ⟨bd, 0, none⟩ := ⟨_, rfl⟩
  rw [← hpo] at HD ⊢
  have H01 : Hid ((∀ k, Bit01 (xs.getD k 0)) ∧ ∀ k, Bit01 (ys.getD k 0)) := ⟨hx01, hy01⟩
  clear hd ha hb hx01 hy01 hpo
  have hmf := run_makeFunc
  go_enter Try.func12, Try.ntmps12
  go_wp2_with fail
  generalize hX : w.alloc (.cells #[.pointer po] 30) = X
  have hBX : Below w.heap.size w X := by rw [← hX]; exact (by repeat (first | exact Below.refl _ _ | assumption | refine Below.drew ?_ | refine Below.alloc ?_ (by first | omega | (simp <;> omega)) _ | refine Below.setCell ?_ (by first | omega | (simp <;> omega)) _ | refine Below.trans ?_ (Below.mono (by assumption) (by first | omega | (simp <;> omega)))))
  have hsX : w.heap.size < X.heap.size := by rw [← hX]; simp
  have sX : X.cell? ⟨w.heap.size, 0, none⟩ = some (.pointer po) := by rw [← hX]; simp [go_sem]
  have HBX := Lib.hid hBX
  have HPR : Hid (Calls Try.prog 32 #[va, vb] X.drew fun e w' => ∃ v, e = .returned v ∧ PVecX w' (fun _ => False) v (max xs.length ys.length) (pairAt xs ys) ∧ Below X.drew.heap.size X.drew w') :=
    pairs_any (fun _ => False) va vb xs ys X.drew (fun _ h => h.elim) (HA.out.below (below_drewN HBX.out 1)) (HB.out.below (below_drewN HBX.out 1)) hxl hyl
  clear hX hBX
  go_region_with (first
    | (go_at_call 32; refine HPR.out.mono ?_; rintro e w1 ⟨v, rfl, hv, hb1⟩; have s1 : w1.cell? ⟨w.heap.size, 0, none⟩ = some (.pointer po) := (hb1.cell (p := ⟨w.heap.size, 0, none⟩) hsX).trans sX; have hB1 : Below w.heap.size w w1 := (below_drewN HBX.out 1).trans (hb1.mono (Nat.le_of_lt hsX)))
    | (go_at_call 31; refine (fold_less_k po w.heap.size v _ xs ys w1 (by omega) hv.pvec H01.out.1 H01.out.2 (HD.out _ hB1) s1).mono ?_; rintro e w2 ⟨rfl, hb2⟩; have s2 : w2.cell? ⟨w.heap.size, 0, none⟩ = some (.pointer po) := (hb2.cell (p := ⟨w.heap.size, 0, none⟩) (cell_there s1).1).trans s1; have hB2 : Below w.heap.size w w2 := hB1.trans (hb2.mono hB1.size))
    | (go_at_call 30; refine (truth_live _ _ (HD.out _ hB2)).mono ?_; rintro e w3 ⟨rfl, rfl⟩))
  all_goals
    go_wp2_with fail
    go_ret
    exact ⟨rfl, hB2⟩

set_option maxHeartbeats 1600000 in
theorem eq_nil_k {sp : Value} (va vb : Value) (xs ys : List Int) (w : World) (hx0 : xs.length = 0) (hy0 : ys.length = 0) (hd : Live w sp) (ha : IVec w va xs) (hb : IVec w vb ys) (hxl : xs.length ≤ 1000000) (hyl : ys.length ≤ 1000000) :
    Calls Try.prog 11 #[sp, va, vb] w (RetInt w 1) := by
  have HD : Hid (∀ W, Below w.heap.size w W → Live W sp) := fun W hW => hd.below hW
  have HA := Lib.hid ha
  have HB := Lib.hid hb
  obtain ⟨bd, rfl⟩ := hd.shape
  obtain ⟨po, hpo⟩ : ∃ po : Option Addr, po = some ⟨bd, 0, none⟩ := ⟨_, rfl⟩
  rw [← hpo] at HD ⊢
  have H00 : Hid (max xs.length ys.length = 0) := by show _ = _; omega
  clear hd ha hb hpo hx0 hy0
  have hmf := run_makeFunc
  go_enter Try.func11, Try.ntmps11
  go_wp2_with fail
  generalize hX : w.alloc (.cells #[.pointer po] 30) = X
  have hBX : Below w.heap.size w X := by rw [← hX]; exact (by repeat (first | exact Below.refl _ _ | assumption | refine Below.drew ?_ | refine Below.alloc ?_ (by first | omega | (simp <;> omega)) _ | refine Below.setCell ?_ (by first | omega | (simp <;> omega)) _ | refine Below.trans ?_ (Below.mono (by assumption) (by first | omega | (simp <;> omega)))))
  have hsX : w.heap.size < X.heap.size := by rw [← hX]; simp
  have sX : X.cell? ⟨w.heap.size, 0, none⟩ = some (.pointer po) := by rw [← hX]; simp [go_sem]
  have HBX := Lib.hid hBX
  have HPR : Hid (Calls Try.prog 32 #[va, vb] X.drew fun e w' => ∃ v, e = .returned v ∧ PVecX w' (fun _ => False) v (max xs.length ys.length) (pairAt xs ys) ∧ Below X.drew.heap.size X.drew w') :=
    pairs_any (fun _ => False) va vb xs ys X.drew (fun _ h => h.elim) (HA.out.below (below_drewN HBX.out 1)) (HB.out.below (below_drewN HBX.out 1)) hxl hyl
  clear hX hBX
  go_region_with (first
    | (go_at_call 32; refine HPR.out.mono ?_; rintro e w1 ⟨v, rfl, hv, hb1⟩; have s1 : w1.cell? ⟨w.heap.size, 0, none⟩ = some (.pointer po) := (hb1.cell (p := ⟨w.heap.size, 0, none⟩) hsX).trans sX; have hB1 : Below w.heap.size w w1 := (below_drewN HBX.out 1).trans (hb1.mono (Nat.le_of_lt hsX)))
    | (go_at_call 31; refine (fold_eq0 (pairAt xs ys) po w.heap.size v w1 (H00.out ▸ hv.pvec)).mono ?_; rintro e w2 ⟨rfl, hb2⟩; have s2 : w2.cell? ⟨w.heap.size, 0, none⟩ = some (.pointer po) := (hb2.cell (p := ⟨w.heap.size, 0, none⟩) (cell_there s1).1).trans s1; have hB2 : Below w.heap.size w w2 := hB1.trans (hb2.mono hB1.size))
    | (go_at_call 30; refine (truth_live _ _ (HD.out _ hB2)).mono ?_; rintro e w3 ⟨rfl, rfl⟩))
  all_goals
    go_wp2_with fail
    go_ret
    exact ⟨rfl, hB2⟩

end Go.Proofs.Ytlihbbeodclncaa
