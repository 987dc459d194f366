/-
  Contracts of symop.fold at pairs and at integers: an invariant that each call keeps.
-/
import Derived.Test.YtlihbbeodclncaaPairs
namespace Go.Proofs.Ytlihbbeodclncaa
open Go.RowKit

/-- An integer is handed back of which J is so. -/
def RetJ (J : Int → World → Prop) (e : Ending) (w' : World) : Prop := ∃ r, e = .returned (.int .i64 r) ∧ J r w'

set_option maxHeartbeats 1000000 in
theorem fold_bits (f : Nat) (fst cp : Array Value) (v : Value) (n : Nat) (p : Nat → Int × Int) (I : Nat → Int → World → Prop) (t0 : Int) (w : World) (hn : n ≤ 1000000) (h0 : I 0 t0 w)
    (hP : ∀ k t W, I k t W → PVec W v n p) (hB : ∀ k t W W', I k t W → Below W.heap.size W W' → I k t W')
    (hcall : ∀ (av : Array Value) (W : World), (callFunc f av).run Try.prog W = .ok (.enter f av) W)
    (hf : ∀ k, k < n → ∀ (t : Int) W, I k t W → Calls Try.prog f (fst ++ (#[.int .i64 t, .agg #[.int .i64 (p k).1, .int .i64 (p k).2]] ++ cp)) W (RetJ (I (k + 1)))) :
    Calls Try.prog 31 #[v, .int .i64 t0, .func (.func f) fst cp] w (RetJ (I n)) := by
  have HP := Lib.hid hP; clear hP
  have HB := Lib.hid hB; clear hB
  have HF := Lib.hid hf; clear hf
  have H0 := Lib.hid h0; clear h0
  obtain ⟨pa, ca, rfl, ha3, ha4, -⟩ := HP.out 0 t0 w H0.out
  go_enter Try.func31, Try.ntmps31
  go_wp2_with fail
  go_loopw [1, 11] (fun t i wr => ∃ (k : Nat) (tt : Int), k ≤ n ∧ i = .int .i64 k ∧ t = .int .i64 tt ∧ Hid (I k tt wr)) (fun _ i _ => n - (intOf i).toNat)
  case atStart => exact ⟨0, t0, Nat.zero_le _, rfl, rfl, H0.out⟩
  case round =>
    obtain ⟨k, tt, hk, rfl, rfl, HI⟩ := hrel
    by_cases hlt : k < n
    · obtain ⟨pa', ca', he, -, -, hc⟩ := HP.out k tt wr HI.out
      simp only [Value.slice.injEq, true_and] at he
      obtain ⟨b, off, hpa, hbl, hcc⟩ := hc (by omega)
      obtain ⟨he1, he2⟩ := he
      rw [hpa] at he1
      clear hc hpa he2
      subst he1
      obtain ⟨g0, g1⟩ := hcc k hlt
      clear hcc
      have HI2 : ∀ o, Hid (I k tt (wr.alloc o)) := fun o => HB.out k tt wr _ HI.out ((Below.refl _ _).alloc (Nat.le_refl _) o)
      go_wp2_with fail
      refine (HF.out k hlt tt _ (HI2 _).out).mono ?_
      rintro e w1 ⟨r, rfl, hr⟩
      have HR := Lib.hid hr
      clear hr HI2
      go_wp2_with fail
      go_roundw
      case rel => exact ⟨k + 1, r, by omega, by go_num, rfl, HR⟩
      case measure => simp [intOf]; omega
    · obtain rfl : k = n := by omega
      go_wp2_with fail
      go_ret
      exact ⟨tt, rfl, HI.out⟩

set_option maxHeartbeats 1000000 in
theorem fold_int (f : Nat) (fst cp : Array Value) (v : Value) (xs : List Int) (I : Nat → Int → World → Prop) (t0 : Int) (w : World) (hn : xs.length ≤ 1000000) (h0 : I 0 t0 w)
    (hP : ∀ k t W, I k t W → IVec W v xs)
    (hcall : ∀ (av : Array Value) (W : World), (callFunc f av).run Try.prog W = .ok (.enter f av) W)
    (hf : ∀ k, k < xs.length → ∀ (t : Int) W, I k t W → Calls Try.prog f (fst ++ (#[.int .i64 t, .int .i64 (xs.getD k 0)] ++ cp)) W (RetJ (I (k + 1)))) :
    Calls Try.prog 39 #[v, .int .i64 t0, .func (.func f) fst cp] w (RetJ (I xs.length)) := by
  have HP := Lib.hid hP; clear hP
  have HF := Lib.hid hf; clear hf
  have H0 := Lib.hid h0; clear h0
  obtain ⟨pa, ca, rfl, ha3, ha4, -⟩ := HP.out 0 t0 w H0.out
  go_enter Try.func39, Try.ntmps39
  go_wp2_with fail
  go_loopw [1, 11] (fun t i wr => ∃ (k : Nat) (tt : Int), k ≤ xs.length ∧ i = .int .i64 k ∧ t = .int .i64 tt ∧ Hid (I k tt wr)) (fun _ i _ => xs.length - (intOf i).toNat)
  case atStart => exact ⟨0, t0, Nat.zero_le _, rfl, rfl, H0.out⟩
  case round =>
    obtain ⟨k, tt, hk, rfl, rfl, HI⟩ := hrel
    by_cases hlt : k < xs.length
    · obtain ⟨pa', ca', he, -, -, hc⟩ := HP.out k tt wr HI.out
      simp only [Value.slice.injEq, true_and] at he
      obtain ⟨b, off, hpa, hbl, hcc⟩ := hc (by omega)
      obtain ⟨he1, he2⟩ := he
      rw [hpa] at he1
      clear hc hpa he2
      subst he1
      have g0 := hcc k hlt
      clear hcc
      have HX : Hid (xs.getD k 0 = xs[k]) := by show _ = _; simp [hlt]
      have HC := Lib.hid (HF.out k hlt tt _ HI.out)
      rw [HX.out] at HC
      go_wp2_with fail
      refine HC.out.mono ?_
      rintro e w1 ⟨r, rfl, hr⟩
      have HR := Lib.hid hr
      clear hr
      go_wp2_with fail
      go_roundw
      case rel => exact ⟨k + 1, r, by omega, by go_num, rfl, HR⟩
      case measure => simp [intOf]; omega
    · obtain rfl : k = xs.length := by omega
      go_wp2_with fail
      go_ret
      exact ⟨tt, rfl, HI.out⟩

end Go.Proofs.Ytlihbbeodclncaa
