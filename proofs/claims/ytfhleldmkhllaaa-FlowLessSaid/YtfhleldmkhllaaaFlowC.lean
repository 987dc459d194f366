/-
  SameInsts of the same.
-/
import Derived.Test.YtfhleldmkhllaaaFlowB
namespace Go.Proofs.Ytfhleldmkhllaaa
open Go.RowKit Flow

set_option maxRecDepth 100000 in
set_option maxHeartbeats 8000000 in
theorem sameinsts_any (u v : Value) (X Y : Nat → Prop) (l : List Ins) (w : World) (hu : InsRow w X u l) (hv : InsRow w Y v l) (hl : l.length ≤ 1000000000000000) (hcl : ∀ j, j < l.length → (at' l j).e.length ≤ 1000000000000000) : Calls Try.prog 7 #[u, v] w fun r w' => r = .returned (.bool true) ∧ Below w.heap.size w w' := by
  obtain ⟨pu, cu, rfl⟩ := hu.shape
  obtain ⟨pv, cv, rfl⟩ := hv.shape
  have HU := Lib.hid hu
  have HV := Lib.hid hv
  have HCL := Lib.hid hcl
  have HSC := Lib.hid samecode_any
  clear hu hv hcl
  go_enter Try.func7, Try.ntmps7
  go_wp2_with fail
  go_loopw [5] (fun i wr => ∃ k : Nat, k ≤ l.length ∧ i = .int .i64 (k : Int) ∧ Hid (Below w.heap.size w wr)) (fun i _ => l.length - (RowKit.intOf i).toNat)
  case atStart => exact ⟨0, Nat.zero_le _, rfl, Below.refl _ _⟩
  case round =>
    obtain ⟨k, hk, rfl, HB⟩ := hrel
    by_cases hlt : k < l.length
    · obtain ⟨b0, o0, cap0, he0, hb0, hn0⟩ := (HU.out.below HB.out).at hlt
      obtain ⟨b1, o1, cap1, he1, hb1, hn1⟩ := (HV.out.below HB.out).at hlt
      cases he0
      cases he1
      have HLE := Lib.hid (HCL.out k hlt)
      generalize at' l k = x at *
      obtain ⟨xk, xa, xb, xe, xt⟩ := x
      obtain ⟨c0, c1, c2, ⟨ev, c3, hcv⟩, c4⟩ := hn0
      obtain ⟨d0, d1, d2, ⟨fv, d3, hdv⟩, d4⟩ := hn1
      dsimp only at *
      have HS : Hid (∀ W, Below wr.heap.size wr W → Calls Try.prog 13 #[ev, fv] W fun r w' => r = .returned (.bool true) ∧ Below W.heap.size W w') := fun W hW => HSC.out ev fv X Y xe W (hcv.below hW) (hdv.below hW) HLE.out
      obtain ⟨pe, ce, rfl⟩ := hcv.shape
      obtain ⟨pf, cf, rfl⟩ := hdv.shape
      clear hcv hdv
      have hki : (k : Int) < (l.length : Int) := by omega
      go_wp2_with fail
      go_region
      all_goals
        go_wp2_with (first | (go_at_call 13; (with_reducible refine (HS.out _ ?hbel).mono ?_); (case hbel => exact (by repeat (first | exact Below.refl _ _ | assumption | refine Below.drew ?_ | refine Below.alloc ?_ (by first | omega | (simp <;> omega)) _ | refine Below.setCell ?_ (by first | omega | (simp <;> omega)) _ | refine Below.trans ?_ (Below.mono (by assumption) (by first | omega | (simp <;> omega)))))); rintro e1 w1 ⟨rfl, hb1⟩; have HBW : Hid (Below w.heap.size w w1) := HB.out.trans ((Below.trans (B := wr.heap.size) (by repeat (first | exact Below.refl _ _ | assumption | refine Below.drew ?_ | refine Below.alloc ?_ (by first | omega | (simp <;> omega)) _ | refine Below.setCell ?_ (by first | omega | (simp <;> omega)) _ | refine Below.trans ?_ (Below.mono (by assumption) (by first | omega | (simp <;> omega))))) (hb1.mono (by simp <;> omega))).mono HB.out.size); clear hb1))
        exact ⟨⟨k + 1, hlt, rfl, HBW.out⟩, by simp only [RowKit.intOf]; omega⟩
    · obtain rfl : k = l.length := by omega
      go_wp2_with fail
      go_ret
      exact ⟨rfl, HB.out⟩

end Go.Proofs.Ytfhleldmkhllaaa
