/-
  Contracts of the store's methods at a live store, and constants: nothing that was has changed.
-/
import Derived.Test.YtlihbbeodclncaaDead
import Derived.Deep.RegionHeld3
namespace Go.Proofs.Ytlihbbeodclncaa
open Go.RowKit Go.Maps

/-- A store that is there, and is not full. -/
def Live (w : World) (sp : Value) : Prop := ∃ (b cap n cn : Nat) (pn : Option Addr), sp = .pointer (some ⟨b, 0, none⟩) ∧ w.cell? ⟨b, 0, none⟩ = some (.int .i64 (cap : Int)) ∧ w.cell? ⟨b, 1, none⟩ = some (.slice pn n cn) ∧ w.cell? ⟨b, 4, none⟩ = some (.bool false) ∧ 2 ≤ cap ∧ cap ≤ 1048576 ∧ n ≤ 1048576
theorem Live.below {w w' : World} {sp : Value} (h : Live w sp) (hb : Below w.heap.size w w') : Live w' sp := by
  obtain ⟨b, cap, n, cn, pn, h0, h1, h2, h3, h4, h5, h6⟩ := h
  have hl := (cell_there h1).1
  exact ⟨b, cap, n, cn, pn, h0, (hb.cell hl).trans h1, (hb.cell (p := ⟨b, 1, none⟩) hl).trans h2, (hb.cell (p := ⟨b, 4, none⟩) hl).trans h3, h4, h5, h6⟩
theorem Live.shape {w : World} {sp : Value} (h : Live w sp) : ∃ b, sp = .pointer (some ⟨b, 0, none⟩) := by
  obtain ⟨b, cap, n, cn, pn, h0, -⟩ := h
  exact ⟨b, h0⟩

/-- 0 or 1. -/
def Bit01 (a : Int) : Prop := a = 0 ∨ a = 1
def iteK (c a b : Int) : Int := if c = 1 then a else b
theorem iteK_ok {c a b : Int} (ha : Bit01 a) (hb : Bit01 b) : Bit01 (iteK c a b) := by unfold iteK; split <;> assumption

set_option maxHeartbeats 400000 in
theorem full_live {sp : Value} (w : World) (hd : Live w sp) : Calls Try.prog 54 #[sp] w fun e w' => e = .returned (.bool false) ∧ w = w' := by
  obtain ⟨b, cap, n, cn, pn, rfl, c0, c1, c4, h2, h3, h4⟩ := hd
  have hcap : ((cap : Int) == 0) = false := by rw [beq_eq_false_iff_ne]; omega
  go_enter Try.func54, Try.ntmps54
  go_wp2
  go_ret
  exact ⟨rfl, rfl⟩

set_option maxHeartbeats 400000 in
theorem truth_live {sp : Value} (a : Int) (w : World) (hd : Live w sp) : Calls Try.prog 30 #[sp, .int .i64 a] w fun e w' => e = .returned (.int .i64 a) ∧ w = w' := by
  have HF := Lib.hid (full_live w hd)
  obtain ⟨b, rfl⟩ := hd.shape
  clear hd
  go_enter Try.func30, Try.ntmps30
  go_wp2_with fail
  refine HF.out.mono ?_
  rintro e w1 ⟨rfl, rfl⟩
  go_wp2_with fail
  go_ret
  exact ⟨rfl, rfl⟩

set_option maxHeartbeats 400000 in
theorem right_live {sp : Value} (a : Int) (w : World) (hd : Live w sp) (ha : Bit01 a) : Calls Try.prog 57 #[sp, .int .i64 a] w (RetInt w a) := by
  obtain ⟨b, cap, n, cn, pn, rfl, c0, c1, c4, h2, h3, h4⟩ := hd
  rcases ha with rfl | rfl
  all_goals
    go_enter Try.func57, Try.ntmps57
    go_wp2
    all_goals first
      | (exfalso; omega)
      | (go_ret; exact ⟨rfl, (by repeat (first | exact Below.refl _ _ | assumption | refine Below.drew ?_ | refine Below.alloc ?_ (by first | omega | (simp <;> omega)) _ | refine Below.setCell ?_ (by first | omega | (simp <;> omega)) _ | refine Below.trans ?_ (Below.mono (by assumption) (by first | omega | (simp <;> omega)))))⟩)

set_option maxHeartbeats 800000 in
theorem itek_live {sp : Value} (c a b : Int) (w : World) (hd : Live w sp) (hc : Bit01 c) (ha : Bit01 a) (hb : Bit01 b) : Calls Try.prog 56 #[sp, .int .i64 c, .int .i64 a, .int .i64 b] w (RetInt w (iteK c a b)) := by
  obtain ⟨bS, rfl⟩ := hd.shape
  clear hd
  rcases hc with rfl | rfl
  all_goals rcases ha with rfl | rfl
  all_goals rcases hb with rfl | rfl
  all_goals
    go_enter Try.func56, Try.ntmps56
    go_wp2_with fail
    go_ret
    exact ⟨rfl, (by repeat (first | exact Below.refl _ _ | assumption | refine Below.drew ?_ | refine Below.alloc ?_ (by first | omega | (simp <;> omega)) _ | refine Below.setCell ?_ (by first | omega | (simp <;> omega)) _ | refine Below.trans ?_ (Below.mono (by assumption) (by first | omega | (simp <;> omega)))))⟩

theorem call_ite1 (av : Array Value) (W : World) : (callFunc 55 av).run Try.prog W = .ok (.enter 55 av) W := by kernel_rfl

theorem held5 {w W w1 : World} {p0 p1 p2 p3 : Addr} {v0 v1 v2 v3 : Value} (hb : Below W.heap.size W w1) (h : Below w.heap.size w W ∧ W.cell? p0 = some v0 ∧ W.cell? p1 = some v1 ∧ W.cell? p2 = some v2 ∧ W.cell? p3 = some v3) :
    Below w.heap.size w w1 ∧ w1.cell? p0 = some v0 ∧ w1.cell? p1 = some v1 ∧ w1.cell? p2 = some v2 ∧ w1.cell? p3 = some v3 :=
  ⟨h.1.trans (hb.mono h.1.size), (hb.cell (cell_there h.2.1).1).trans h.2.1, (hb.cell (cell_there h.2.2.1).1).trans h.2.2.1, (hb.cell (cell_there h.2.2.2.1).1).trans h.2.2.2.1, (hb.cell (cell_there h.2.2.2.2).1).trans h.2.2.2.2⟩

set_option maxHeartbeats 1600000 in
theorem ite1_live (p0 p1 p2 p3 : Nat) (bS : Nat) (c a b : Int) (w : World) (hd : Live w (.pointer (some ⟨bS, 0, none⟩))) (hc : Bit01 c) (ha : Bit01 a) (hb : Bit01 b)
    (c0 : w.cell? ⟨p0, 0, none⟩ = some (.pointer (some ⟨bS, 0, none⟩))) (c1 : w.cell? ⟨p1, 0, none⟩ = some (.int .i64 c)) (c2 : w.cell? ⟨p2, 0, none⟩ = some (.int .i64 a)) (c3 : w.cell? ⟨p3, 0, none⟩ = some (.int .i64 b)) :
    Calls Try.prog 55 #[.pointer (some ⟨p0, 0, none⟩), .pointer (some ⟨p1, 0, none⟩), .pointer (some ⟨p2, 0, none⟩), .pointer (some ⟨p3, 0, none⟩)] w (RetInt w (iteK c a b)) := by
  have HR : Hid (∀ W x, Below w.heap.size w W → Bit01 x → Calls Try.prog 57 #[.pointer (some ⟨bS, 0, none⟩), .int .i64 x] W (RetInt W x)) := fun W x hW hx => right_live x W (hd.below hW) hx
  have HI : Hid (∀ W, Below w.heap.size w W → Calls Try.prog 56 #[.pointer (some ⟨bS, 0, none⟩), .int .i64 c, .int .i64 a, .int .i64 b] W (RetInt W (iteK c a b))) := fun W hW => itek_live c a b W (hd.below hW) hc ha hb
  have HC := Lib.hid hc
  have HA := Lib.hid ha
  have HB := Lib.hid hb
  have HBX : Hid (Below w.heap.size w w.drew) := below_drewN (Below.refl _ _) 1
  clear hd hc ha hb
  go_enter Try.func55, Try.ntmps55
  go_wp2_with fail
  go_region_held3 (fun w' => Below w.heap.size w w' ∧ w'.cell? ⟨p0, 0, none⟩ = some (.pointer (some ⟨bS, 0, none⟩)) ∧ w'.cell? ⟨p1, 0, none⟩ = some (.int .i64 c) ∧ w'.cell? ⟨p2, 0, none⟩ = some (.int .i64 a) ∧ w'.cell? ⟨p3, 0, none⟩ = some (.int .i64 b))
    (first | exact ⟨HBX.out, c0, c1, c2, c3⟩ | exact held5 hb1 (by assumption) | go_keep)
    (first | (go_at_call 57; refine (HR.out _ _ (And.left (by assumption)) (by first | exact HC.out | exact HA.out | exact HB.out)).mono ?_; rintro e w1 ⟨rfl, hb1⟩) | (go_at_call 56; refine (HI.out _ (And.left (by assumption))).mono ?_; rintro e w1 ⟨rfl, hb1⟩))
  rename_i hH
  have hF := hH.1
  clear hH
  go_wp2_with fail
  go_ret
  exact ⟨rfl, hF⟩

set_option maxHeartbeats 800000 in
theorem made_live {sp : Value} (f : Nat) (fst cp : Array Value) (r : Int) (w : World) (hd : Live w sp) 
    (hcall : ∀ (av : Array Value) (W : World), (callFunc f av).run Try.prog W = .ok (.enter f av) W)
    (hf : Calls Try.prog f (fst ++ cp) (w.alloc (.cells #[.int .i64 0] 3)) (RetInt (w.alloc (.cells #[.int .i64 0] 3)) r)) :
    Calls Try.prog 26 #[sp, .func (.func f) fst cp] w (RetInt w r) := by
  have hmf := run_makeFunc
  have HF := Lib.hid hf; clear hf
  obtain ⟨b, cap, n, cn, pn, rfl, c0, c1, c4, h2, h3, h4⟩ := hd
  have hcap : ((cap : Int) == 0) = false := by rw [beq_eq_false_iff_ne]; omega
  have hbl := (cell_there c0).1
  have c0' : ∀ o, (w.alloc o).cell? ⟨b, 0, none⟩ = some (.int .i64 (cap : Int)) := fun o => (World.cell?_alloc_lt w o ⟨b, 0, none⟩ hbl).trans c0
  have c4' : ∀ o, (w.alloc o).cell? ⟨b, 4, none⟩ = some (.bool false) := fun o => (World.cell?_alloc_lt w o ⟨b, 4, none⟩ hbl).trans c4
  clear c0 c4 c1
  go_enter_defers Try.func26, Try.ntmps26
  go_wp2
  refine HF.out.mono ?_
  rintro e w1 ⟨rfl, hm⟩
  have r0 : w1.cell? ⟨w.heap.size, 0, none⟩ = some (.int .i64 0) := by rw [hm.cell (p := ⟨w.heap.size, 0, none⟩) (by simp)]; simp [go_sem]
  have r1 : w1.frozen? ⟨w.heap.size, 0, none⟩ = false := by rw [hm.frozen (p := ⟨w.heap.size, 0, none⟩) (by simp)]; simp [go_sem]
  have hB1 : Below w.heap.size w w1 := ((Below.refl _ _).alloc (Nat.le_refl _) _).trans (hm.mono (by simp))
  have HB1 := Lib.hid hB1
  clear hm c0' c4' hmf hcall hB1
  go_wp2
  have r2 : (w1.setCell ⟨w.heap.size, 0, none⟩ (.int .i64 r)).cell? ⟨w.heap.size, 0, none⟩ = some (.int .i64 r) := World.cell?_setCell_same _ _ _ r0
  have HM : Below w.heap.size w (w1.setCell ⟨w.heap.size, 0, none⟩ (.int .i64 r)) := HB1.out.setCell (show w.heap.size ≤ (Addr.mk w.heap.size 0 none).block from Nat.le_refl _) _
  refine leaves_cons (f := 52) (args := #[.pointer (some ⟨w.heap.size, 0, none⟩)]) (by simp) (by simp [go_sem]) ?_
  refine (catch_idle ⟨w.heap.size, 0, none⟩ _).mono ?_
  rintro e u' w'' ⟨rfl, rfl, rfl⟩
  simp [Leaves, settle, results, Try.results26, go_sem, r2]
  exact ⟨rfl, HM⟩

set_option maxHeartbeats 800000 in
theorem ite_live {sp : Value} (c a b : Int) (w : World) (hd : Live w sp) (hc : Bit01 c) (ha : Bit01 a) (hb : Bit01 b) :
    Calls Try.prog 38 #[sp, .int .i64 c, .int .i64 a, .int .i64 b] w (RetInt w (iteK c a b)) := by
  have HD : Hid (∀ W, Below w.heap.size w W → Live W sp) := fun W hW => hd.below hW
  obtain ⟨bS, rfl⟩ := hd.shape
  clear hd
  obtain ⟨X, hX⟩ : ∃ X, X = (((w.alloc (.cells #[.pointer (some ⟨bS, 0, none⟩)] 30)).alloc (.cells #[.int .i64 c] 3)).alloc (.cells #[.int .i64 a] 3)).alloc (.cells #[.int .i64 b] 3) := ⟨_, rfl⟩
  have hBX : Below w.heap.size w X := by rw [hX]; exact (by repeat (first | exact Below.refl _ _ | assumption | refine Below.drew ?_ | refine Below.alloc ?_ (by first | omega | (simp <;> omega)) _ | refine Below.setCell ?_ (by first | omega | (simp <;> omega)) _ | refine Below.trans ?_ (Below.mono (by assumption) (by first | omega | (simp <;> omega)))))
  have hXs : X.heap.size = w.heap.size + 4 := by rw [hX]; simp
  have x0 : X.cell? ⟨w.heap.size, 0, none⟩ = some (.pointer (some ⟨bS, 0, none⟩)) := by rw [hX]; simp [go_sem]
  have x1 : X.cell? ⟨w.heap.size + 1, 0, none⟩ = some (.int .i64 c) := by rw [hX]; simp [go_sem]
  have x2 : X.cell? ⟨w.heap.size + 1 + 1, 0, none⟩ = some (.int .i64 a) := by rw [hX]; simp [go_sem]
  have x3 : X.cell? ⟨w.heap.size + 1 + 1 + 1, 0, none⟩ = some (.int .i64 b) := by rw [hX]; simp [go_sem]
  have HM : Hid (Calls Try.prog 26 #[.pointer (some ⟨bS, 0, none⟩), .func (.func 55) #[] #[.pointer (some ⟨w.heap.size, 0, none⟩), .pointer (some ⟨w.heap.size + 1, 0, none⟩), .pointer (some ⟨w.heap.size + 1 + 1, 0, none⟩), .pointer (some ⟨w.heap.size + 1 + 1 + 1, 0, none⟩)]] X (RetInt X (iteK c a b))) := by
    have hY : Below w.heap.size w (X.alloc (.cells #[.int .i64 0] 3)) := hBX.alloc (by omega) _
    refine made_live 55 #[] _ _ X (HD.out _ hBX) call_ite1 ?_
    exact ite1_live w.heap.size (w.heap.size + 1) (w.heap.size + 1 + 1) (w.heap.size + 1 + 1 + 1) bS c a b _ (HD.out _ hY) hc ha hb ((World.cell?_alloc_lt X _ _ (by simp; omega)).trans x0) ((World.cell?_alloc_lt X _ _ (by simp; omega)).trans x1) ((World.cell?_alloc_lt X _ _ (by simp; omega)).trans x2) ((World.cell?_alloc_lt X _ _ (by simp; omega)).trans x3)
  have HBX := Lib.hid hBX
  have hmf := run_makeFunc
  clear x0 x1 x2 x3 hBX hc ha hb
  go_enter Try.func38, Try.ntmps38
  go_wp2_with fail
  rw [← hX]
  refine HM.out.mono ?_
  rintro e w1 ⟨rfl, hb⟩
  go_wp2_with fail
  go_ret
  exact ⟨rfl, HBX.out.trans (hb.mono (by omega))⟩

theorem bit0 : Bit01 0 := .inl rfl
theorem bit1 : Bit01 1 := .inr rfl

set_option maxHeartbeats 400000 in
theorem not_live {sp : Value} (a : Int) (w : World) (hd : Live w sp) (ha : Bit01 a) :
    Calls Try.prog 34 #[sp, .int .i64 a] w (RetInt w (iteK a 0 1)) := by
  have HM := Lib.hid (ite_live a 0 1 w hd ha bit0 bit1)
  go_enter Try.func34, Try.ntmps34
  go_wp2_with fail
  refine HM.out.mono ?_
  rintro e w1 ⟨rfl, hb⟩
  go_wp2_with fail
  go_ret
  exact ⟨rfl, hb⟩

set_option maxHeartbeats 400000 in
theorem and_live {sp : Value} (a b : Int) (w : World) (hd : Live w sp) (ha : Bit01 a) (hb : Bit01 b) :
    Calls Try.prog 36 #[sp, .int .i64 a, .int .i64 b] w (RetInt w (iteK a b 0)) := by
  have HM := Lib.hid (ite_live a b 0 w hd ha hb bit0)
  go_enter Try.func36, Try.ntmps36
  go_wp2_with fail
  refine HM.out.mono ?_
  rintro e w1 ⟨rfl, hb⟩
  go_wp2_with fail
  go_ret
  exact ⟨rfl, hb⟩

set_option maxHeartbeats 400000 in
theorem or_live {sp : Value} (a b : Int) (w : World) (hd : Live w sp) (ha : Bit01 a) (hb : Bit01 b) :
    Calls Try.prog 40 #[sp, .int .i64 a, .int .i64 b] w (RetInt w (iteK a 1 b)) := by
  have HM := Lib.hid (ite_live a 1 b w hd ha bit1 hb)
  go_enter Try.func40, Try.ntmps40
  go_wp2_with fail
  refine HM.out.mono ?_
  rintro e w1 ⟨rfl, hb⟩
  go_wp2_with fail
  go_ret
  exact ⟨rfl, hb⟩

set_option maxHeartbeats 400000 in
theorem xor_live {sp : Value} (a b : Int) (w : World) (hd : Live w sp) (ha : Bit01 a) (hb : Bit01 b) :
    Calls Try.prog 35 #[sp, .int .i64 a, .int .i64 b] w (RetInt w (iteK a (iteK b 0 1) b)) := by
  have HN := Lib.hid (not_live b w hd hb)
  have HM : Hid (∀ W, Below w.heap.size w W → Calls Try.prog 38 #[sp, .int .i64 a, .int .i64 (iteK b 0 1), .int .i64 b] W (RetInt W (iteK a (iteK b 0 1) b))) := fun W hW => ite_live a (iteK b 0 1) b W (hd.below hW) ha (iteK_ok bit0 bit1) hb
  go_enter Try.func35, Try.ntmps35
  go_wp2_with fail
  refine HN.out.mono ?_
  rintro e w1 ⟨rfl, hb1⟩
  go_wp2_with fail
  refine (HM.out _ hb1).mono ?_
  rintro e w2 ⟨rfl, hb2⟩
  go_wp2_with fail
  go_ret
  exact ⟨rfl, hb1.trans (hb2.mono hb1.size)⟩

end Go.Proofs.Ytlihbbeodclncaa
