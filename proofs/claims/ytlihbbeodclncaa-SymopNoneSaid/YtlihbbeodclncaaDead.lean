/-
  Contracts of the store's methods at a store that is not there, or is full: each hands back 0, nothing that was has changed.
-/
import Derived.Test.YtlihbbeodclncaaVar
import Derived.Test.YtlihbbeodclncaaVecNil
namespace Go.Proofs.Ytlihbbeodclncaa
open Go.RowKit Go.Maps

/-- A store that is not there, or is full. -/
def Dead (w : World) (sp : Value) : Prop := sp = .pointer none ∨ ∃ b O st told, sp = .pointer (some ⟨b, 0, none⟩) ∧ IsBdd w b O st told ∧ st.full = true

theorem Dead.below {w w' : World} {sp : Value} (h : Dead w sp) (hb : Below w.heap.size w w') : Dead w' sp := by
  rcases h with h | ⟨b, O, st, told, h1, h2, h3⟩
  · exact .inl h
  · exact .inr ⟨b, O, st, told, h1, h2.below hb, h3⟩
theorem Dead.shape {w : World} {sp : Value} (h : Dead w sp) : ∃ po, sp = .pointer po := by
  rcases h with h | ⟨b, O, st, told, h1, h2, h3⟩
  · exact ⟨_, h⟩
  · exact ⟨_, h1⟩

theorem made_dead {sp : Value} (f : Value) (w : World) (hd : Dead w sp) : Calls Try.prog 26 #[sp, f] w (RetInt w 0) := by
  rcases hd with rfl | ⟨b, O, st, told, rfl, h2, h3⟩
  · exact made_nil f w
  · exact made_full b O st told f w h2 h3

set_option maxHeartbeats 400000 in
theorem full_dead {sp : Value} (w : World) (hd : Dead w sp) : Calls Try.prog 54 #[sp] w fun e w' => e = .returned (.bool true) ∧ w = w' := by
  rcases hd with rfl | ⟨b, O, st, told, rfl, hs, hfull⟩
  · exact full_nil w
  · obtain ⟨vn, m1, m2, c0, c1, c2, c3, c4, fz, own, hm12, hnb, hm1, hm2, hO, hcp1, hcp2, -⟩ := hs
    rw [hfull] at c4
    clear c1 c2 c3 fz own hm12 hnb hm1 hm2 hO hfull
    have hcap : ((st.cap : Int) == 0) = false := by rw [beq_eq_false_iff_ne]; omega
    go_enter Try.func54, Try.ntmps54
    go_wp2
    go_ret
    exact ⟨rfl, rfl⟩

set_option maxHeartbeats 400000 in
theorem ite_dead {sp : Value} (c a b : Int) (w : World) (hd : Dead w sp) :
    Calls Try.prog 38 #[sp, .int .i64 c, .int .i64 a, .int .i64 b] w (RetInt w 0) := by
  have HM : Hid (∀ W f, Below w.heap.size w W → Calls Try.prog 26 #[sp, f] W (RetInt W 0)) := fun W f hW => made_dead f W (hd.below hW)
  obtain ⟨po, rfl⟩ := hd.shape
  clear hd
  have hmf := run_makeFunc
  go_enter Try.func38, Try.ntmps38
  go_wp2_with fail
  refine (HM.out _ _ ?_).mono ?_
  · exact (by repeat (first | exact Below.refl _ _ | assumption | refine Below.drew ?_ | refine Below.alloc ?_ (by first | omega | (simp <;> omega)) _ | refine Below.setCell ?_ (by first | omega | (simp <;> omega)) _ | refine Below.trans ?_ (Below.mono (by assumption) (by first | omega | (simp <;> omega)))))
  rintro e w1 ⟨rfl, hb⟩
  go_wp2_with fail
  go_ret
  exact ⟨rfl, (by repeat (first | exact Below.refl _ _ | assumption | refine Below.drew ?_ | refine Below.alloc ?_ (by first | omega | (simp <;> omega)) _ | refine Below.setCell ?_ (by first | omega | (simp <;> omega)) _ | refine Below.trans ?_ (Below.mono (by assumption) (by first | omega | (simp <;> omega)))))⟩

set_option maxHeartbeats 400000 in
theorem not_dead {sp : Value} (a : Int) (w : World) (hd : Dead w sp) :
    Calls Try.prog 34 #[sp, .int .i64 a] w (RetInt w 0) := by
  have HM := Lib.hid (fun c a b => ite_dead c a b w hd)
  go_enter Try.func34, Try.ntmps34
  go_wp2_with (go_at_call 38; refine (HM.out _ _ _).mono ?_; rintro e w1 ⟨rfl, hb⟩)
  go_ret
  exact ⟨rfl, hb⟩

set_option maxHeartbeats 400000 in
theorem and_dead {sp : Value} (a b : Int) (w : World) (hd : Dead w sp) :
    Calls Try.prog 36 #[sp, .int .i64 a, .int .i64 b] w (RetInt w 0) := by
  have HM := Lib.hid (fun c a b => ite_dead c a b w hd)
  go_enter Try.func36, Try.ntmps36
  go_wp2_with (go_at_call 38; refine (HM.out _ _ _).mono ?_; rintro e w1 ⟨rfl, hb⟩)
  go_ret
  exact ⟨rfl, hb⟩

set_option maxHeartbeats 400000 in
theorem or_dead {sp : Value} (a b : Int) (w : World) (hd : Dead w sp) :
    Calls Try.prog 40 #[sp, .int .i64 a, .int .i64 b] w (RetInt w 0) := by
  have HM := Lib.hid (fun c a b => ite_dead c a b w hd)
  go_enter Try.func40, Try.ntmps40
  go_wp2_with (go_at_call 38; refine (HM.out _ _ _).mono ?_; rintro e w1 ⟨rfl, hb⟩)
  go_ret
  exact ⟨rfl, hb⟩

set_option maxHeartbeats 400000 in
theorem xor_dead {sp : Value} (a b : Int) (w : World) (hd : Dead w sp) :
    Calls Try.prog 35 #[sp, .int .i64 a, .int .i64 b] w (RetInt w 0) := by
  have HN := Lib.hid (not_dead b w hd)
  have HM : Hid (∀ W c a b, Below w.heap.size w W → Calls Try.prog 38 #[sp, .int .i64 c, .int .i64 a, .int .i64 b] W (RetInt W 0)) := fun W c a b hW => ite_dead c a b W (hd.below hW)
  clear hd
  go_enter Try.func35, Try.ntmps35
  go_wp2_with fail
  refine HN.out.mono ?_
  rintro e w1 ⟨rfl, hb⟩
  go_wp2_with fail
  refine (HM.out _ _ _ _ hb).mono ?_
  rintro e w2 ⟨rfl, hb2⟩
  go_wp2_with fail
  go_ret
  exact ⟨rfl, hb.trans (hb2.mono hb.size)⟩

set_option maxHeartbeats 400000 in
theorem truth_dead {sp : Value} (a : Int) (w : World) (hd : Dead w sp) :
    Calls Try.prog 30 #[sp, .int .i64 a] w fun e w' => e = .returned (.int .i64 0) ∧ w = w' := by
  have HM := Lib.hid (full_dead w hd)
  go_enter Try.func30, Try.ntmps30
  go_wp2_with (go_at_call 54; refine HM.out.mono ?_; rintro e w1 ⟨rfl, rfl⟩)
  go_ret
  exact ⟨rfl, rfl⟩

end Go.Proofs.Ytlihbbeodclncaa
