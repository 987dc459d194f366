/-
  Contracts of num.Cat and num.Cmp.
-/
import Derived.Test.YtfalhemeiengcaaDoorNumMore2
import Derived.Test.YtfalhemeiengcaaDoorHeld
import Derived.Test.YtfalhemeiengcaaDoorRefBits
namespace Go.Proofs.YtfalhemeiengcaaDoor
open Go.RowKit

set_option maxRecDepth 100000 in
set_option maxHeartbeats 2000000 in
theorem numCat_any (a b : Nat) (k : Int) (w : World) (ha : a < B * B) (hb : b < B * B) : Calls Tryd.prog 18 #[numV a, numV b, .int .i64 k] w (RetNum w ((a * 2 ^ sh k % (B * B) % 2 ^ sh 128) ||| (b % 2 ^ sh k))) := by
  have hl1 : a * 2 ^ sh k % (B * B) % 2 ^ sh 128 < B * B := Nat.lt_of_le_of_lt (Nat.mod_le _ _) (Nat.mod_lt _ (by unfold B; omega))
  have hl2 : b % 2 ^ sh k < B * B := Nat.lt_of_le_of_lt (Nat.mod_le _ _) hb
  have HS : Hid (∀ W, Calls Tryd.prog 35 #[numV a, .int .i64 k, .int .i64 128] W (RetNum W (a * 2 ^ sh k % (B * B) % 2 ^ sh 128))) := fun W => numShl_any a k 128 W ha
  have HC : Hid (∀ W, Calls Tryd.prog 11 #[numV b, .int .i64 k] W (RetNum W (b % 2 ^ sh k))) := fun W => numCut_any _ _ W hb
  have HO : Hid (∀ W, Calls Tryd.prog 28 #[numV (a * 2 ^ sh k % (B * B) % 2 ^ sh 128), numV (b % 2 ^ sh k)] W (RetNum W ((a * 2 ^ sh k % (B * B) % 2 ^ sh 128) ||| (b % 2 ^ sh k)))) := fun W => numOr_any _ _ W hl1 hl2
  generalize a * 2 ^ sh k % (B * B) % 2 ^ sh 128 = m at *
  generalize b % 2 ^ sh k = q at *
  generalize m ||| q = r at *
  obtain ⟨y, z, he, -, -⟩ := numV_parts a
  obtain ⟨y0, z0, he0, -, -⟩ := numV_parts b
  obtain ⟨y1, z1, he1, -, -⟩ := numV_parts m
  obtain ⟨y2, z2, he2, -, -⟩ := numV_parts q
  obtain ⟨y3, z3, he3, -, -⟩ := numV_parts r
  have HR := Lib.hid he3
  unfold RetNum at HC HS HO
  rw [he, he1] at HS
  rw [he0, he2] at HC
  rw [he1, he2, he3] at HO
  rw [he, he0]
  clear he he0 he1 he2 he3 ha hb hl1 hl2
  go_enter Tryd.func18, Tryd.ntmps18
  go_wp2_with fail
  obtain ⟨W0, hW0⟩ : ∃ W0, W0 = ((w.alloc (.cells #[.int .u64 (y : Int), .int .u64 (z : Int)] 24)).alloc (.cells #[.int .u64 (y0 : Int), .int .u64 (z0 : Int)] 24)).alloc (.cells #[.int .u64 0, .int .u64 0] 24) := ⟨_, rfl⟩
  have HS0 : Hid ((fun Wk => Below (w.heap.size) (w) Wk ∧ Wk.cell? ⟨w.heap.size, 0, none⟩ = some (.int .u64 (y : Int)) ∧ Wk.cell? ⟨w.heap.size, 1, none⟩ = some (.int .u64 (z : Int)) ∧ Wk.cell? ⟨w.heap.size + 1, 0, none⟩ = some (.int .u64 (y0 : Int)) ∧ Wk.cell? ⟨w.heap.size + 1, 1, none⟩ = some (.int .u64 (z0 : Int)) ∧ (∃ x, Wk.cell? ⟨w.heap.size + 1 + 1, 0, none⟩ = some x) ∧ (∃ x, Wk.cell? ⟨w.heap.size + 1 + 1, 1, none⟩ = some x) ∧ Wk.frozen? ⟨w.heap.size + 1 + 1, 0, none⟩ = false ∧ Wk.frozen? ⟨w.heap.size + 1 + 1, 1, none⟩ = false) W0.drew) := by
    show _ ∧ _
    rw [hW0]
    exact ⟨below_drewN (by repeat (first | exact Below.refl _ _ | assumption | refine Below.drew ?_ | refine Below.alloc ?_ (by first | omega | (simp <;> omega)) _ | refine Below.setCell ?_ (by first | omega | (simp <;> omega)) _ | refine Below.trans ?_ (Below.mono (by assumption) (by first | omega | (simp <;> omega))))) 1, by simp [go_sem], by simp [go_sem], by simp [go_sem], by simp [go_sem], ⟨.int .u64 0, by simp [go_sem]⟩, ⟨.int .u64 0, by simp [go_sem]⟩, by simp [go_sem], by simp [go_sem]⟩
  rw [← hW0]
  clear hW0
  have hs0 := HS0.out
  obtain ⟨-, c0, c1, c2, c3, ⟨x4, c4⟩, ⟨x5, c5⟩, f4, f5⟩ := hs0
  rw [World.cell?_drew] at c0 c1 c2 c3 c4 c5
  rw [World.frozen?_drew] at f4 f5
  go_region_held3 (fun Wk => Below (w.heap.size) (w) Wk ∧ Wk.cell? ⟨w.heap.size, 0, none⟩ = some (.int .u64 (y : Int)) ∧ Wk.cell? ⟨w.heap.size, 1, none⟩ = some (.int .u64 (z : Int)) ∧ Wk.cell? ⟨w.heap.size + 1, 0, none⟩ = some (.int .u64 (y0 : Int)) ∧ Wk.cell? ⟨w.heap.size + 1, 1, none⟩ = some (.int .u64 (z0 : Int)) ∧ (∃ x, Wk.cell? ⟨w.heap.size + 1 + 1, 0, none⟩ = some x) ∧ (∃ x, Wk.cell? ⟨w.heap.size + 1 + 1, 1, none⟩ = some x) ∧ Wk.frozen? ⟨w.heap.size + 1 + 1, 0, none⟩ = false ∧ Wk.frozen? ⟨w.heap.size + 1 + 1, 1, none⟩ = false)
    (first | exact HS0.out | exact held_4_2 hb1 (by assumption) | exact heldset_4_2 _ _ (by omega) (by simp <;> omega) (by assumption))
    (first
    | (go_at_call 35; refine (HS.out _).mono ?_; rintro e w1 ⟨rfl, hb1⟩)
    | (go_at_call 11; refine (HC.out _).mono ?_; rintro e w1 ⟨rfl, hb1⟩)
    | (go_at_call 28; refine (HO.out _).mono ?_; rintro e w1 ⟨rfl, hb1⟩; obtain ⟨-, -, -, -, -, ⟨x6, g4⟩, ⟨x7, g5⟩, g6, g7⟩ := held_4_2 hb1 (by assumption)))
  rename_i hS
  have HBF := Lib.hid hS.1
  clear hS
  have y5 : (w1.setCell ⟨w.heap.size + 1 + 1, 0, none⟩ (.int .u64 (y3 : Int))).cell? ⟨w.heap.size + 1 + 1, 1, none⟩ = some x7 := by rw [World.cell?_setCell_other _ _ _ _ (by simp)]; exact g5
  have y0' : ((w1.setCell ⟨w.heap.size + 1 + 1, 0, none⟩ (.int .u64 (y3 : Int))).setCell ⟨w.heap.size + 1 + 1, 1, none⟩ (.int .u64 (z3 : Int))).cell? ⟨w.heap.size + 1 + 1, 0, none⟩ = some (.int .u64 (y3 : Int)) := by
    rw [World.cell?_setCell_other _ _ _ _ (by simp)]
    exact World.cell?_setCell_same _ _ _ g4
  have y1' : ((w1.setCell ⟨w.heap.size + 1 + 1, 0, none⟩ (.int .u64 (y3 : Int))).setCell ⟨w.heap.size + 1 + 1, 1, none⟩ (.int .u64 (z3 : Int))).cell? ⟨w.heap.size + 1 + 1, 1, none⟩ = some (.int .u64 (z3 : Int)) := World.cell?_setCell_same _ _ _ y5
  clear y5 g4 g5 g6 g7 c0 c1 c2 c3 c4 c5 f4 f5
  generalize (w1.setCell ⟨w.heap.size + 1 + 1, 0, none⟩ (.int .u64 (y3 : Int))).setCell ⟨w.heap.size + 1 + 1, 1, none⟩ (.int .u64 (z3 : Int)) = WF at *
  go_wp2_with fail
  exact bodyPost_ret (v := .agg #[.int .u64 (y3 : Int), .int .u64 (z3 : Int)]) (by simp [results, Tryd.results18, go_sem, y0', y1']) rfl ⟨by rw [HR.out], HBF.out⟩

theorem isNaN_any (x : Int) (w : World) : Calls Tryd.prog 80 #[.int .u64 x] w fun e w' => e = .returned (.bool false) ∧ w' = w := by
  go_enter Tryd.func80, Tryd.ntmps80
  go_wp2
  go_ret
  exact ⟨rfl, rfl⟩

/-- As the library compares. -/
def cmpI (a b : Nat) : Int := if a < b then -1 else if b < a then 1 else 0
set_option maxRecDepth 100000 in
set_option maxHeartbeats 400000 in
theorem compare_any (x y : Nat) (w : World) : Calls Tryd.prog 52 #[.int .u64 (x : Int), .int .u64 (y : Int)] w fun e w' => e = .returned (.int .i64 (cmpI x y)) ∧ w' = w := by
  have h1 : x < y → Hid (cmpI x y = -1) := fun h => by show _ = _; unfold cmpI; rw [if_pos h]
  have h2 : y < x → Hid (cmpI x y = 1) := fun h => by show _ = _; unfold cmpI; rw [if_neg (by omega), if_pos h]
  have h3 : x = y → Hid (cmpI x y = 0) := fun h => by show _ = _; unfold cmpI; rw [if_neg (by omega), if_neg (by omega)]
  have H := Lib.hid (And.intro h1 (And.intro h2 h3)); clear h1 h2 h3
  go_enter Tryd.func52, Tryd.ntmps52
  go_wp2_with (go_at_call 80; refine (isNaN_any _ _).mono ?_; rintro e w1 ⟨rfl, rfl⟩)
  all_goals go_ret
  · exact ⟨by rw [(H.out.1 (by omega)).out]; rfl, rfl⟩
  · exact ⟨by rw [(H.out.2.1 (by omega)).out]; rfl, rfl⟩
  · exact ⟨by rw [(H.out.2.2 (by omega)).out]; rfl, rfl⟩

set_option maxRecDepth 100000 in
set_option maxHeartbeats 800000 in
theorem or2_any (g t : Nat) (a b : Int) (w : World) (h0 : w.heap[g]? = some (.cells #[.int .i64 a, .int .i64 b] t (0, 0))) : Calls Tryd.prog 51 #[.slice (some ⟨g, 0, none⟩) 2 2] w fun e w' => e = .returned (.int .i64 (if a ≠ 0 then a else b)) ∧ w' = w := by
  have c0 : w.cell? ⟨g, 0, none⟩ = some (.int .i64 a) := by simp [World.cell?, h0]
  have c1 : w.cell? ⟨g, 1, none⟩ = some (.int .i64 b) := by simp [World.cell?, h0]
  clear h0
  have V1 : a ≠ 0 → Hid ((if a ≠ 0 then a else b) = a) := fun h => if_pos h
  have V2 : a = 0 → Hid ((if a ≠ 0 then a else b) = b) := fun h => if_neg (by simp [h])
  have HV := Lib.hid (And.intro V1 V2); clear V1 V2
  generalize (if a ≠ 0 then a else b) = r at *
  go_enter Tryd.func51, Tryd.ntmps51
  go_wp2
  go_loop [8] (fun i => ∃ k : Nat, k ≤ 2 ∧ i = .int .i64 k ∧ (0 < k → a = 0) ∧ (1 < k → b = 0)) (fun i => 2 - (intOf i).toNat)
  case atStart => exact ⟨0, by omega, rfl, by omega, by omega⟩
  case round =>
    obtain ⟨k, hk, rfl, hz0, hz1⟩ := hrel
    have hcase : k = 0 ∨ k = 1 ∨ k = 2 := by omega
    rcases hcase with rfl | rfl | rfl
    · by_cases ha : a = 0
      · subst ha
        go_wp2
        go_round
        case rel => exact ⟨1, by omega, rfl, by simp, by omega⟩
        case measure => simp [intOf]
      · have hd : decide (a = 0) = false := decide_eq_false ha
        have hd2 : (a != 0) = true := by simpa using ha
        go_wp2
        go_ret
        exact ⟨by rw [(HV.out.1 ha).out]; rfl, rfl⟩
    · have ha := hz0 (by omega)
      by_cases hb : b = 0
      · subst hb
        go_wp2
        go_round
        case rel => exact ⟨2, by omega, rfl, fun _ => ha, by simp⟩
        case measure => simp [intOf]
      · have hd : decide (b = 0) = false := decide_eq_false hb
        have hd2 : (b != 0) = true := by simpa using hb
        go_wp2
        go_ret
        exact ⟨by rw [(HV.out.2 ha).out]; rfl, rfl⟩
    · have ha := hz0 (by omega)
      have hb := hz1 (by omega)
      go_wp2
      go_ret
      exact ⟨by rw [(HV.out.2 ha).out, hb]; rfl, rfl⟩

theorem cmp_parts {a b : Nat} (ha : a < B * B) (hb : b < B * B) : (if cmpI (a / B) (b / B) ≠ 0 then cmpI (a / B) (b / B) else cmpI (a % B) (b % B)) = cmpI a b := by
  unfold cmpI B at *
  repeat split
  all_goals first | rfl | omega | simp_all

set_option maxRecDepth 100000 in
set_option maxHeartbeats 2000000 in
theorem numCmp_any (a b : Nat) (w : World) (ha : a < B * B) (hb : b < B * B) : Calls Tryd.prog 16 #[numV a, numV b] w fun e w' => e = .returned (.int .i64 (cmpI a b)) ∧ Below w.heap.size w w' := by
  have hv := cmp_parts ha hb
  have H1 : ∀ W, Calls Tryd.prog 52 #[.int .u64 (a / B : Nat), .int .u64 (b / B : Nat)] W fun e w' => e = .returned (.int .i64 (cmpI (a / B) (b / B))) ∧ w' = W := fun W => compare_any _ _ W
  have H2 : ∀ W, Calls Tryd.prog 52 #[.int .u64 (a % B : Nat), .int .u64 (b % B : Nat)] W fun e w' => e = .returned (.int .i64 (cmpI (a % B) (b % B))) ∧ w' = W := fun W => compare_any _ _ W
  have H3 : ∀ (g : Nat) W, W.heap[g]? = some (.cells #[.int .i64 (cmpI (a / B) (b / B)), .int .i64 (cmpI (a % B) (b % B))] 3 (0, 0)) → Calls Tryd.prog 51 #[.slice (some ⟨g, 0, none⟩) 2 2] W fun e w' => e = .returned (.int .i64 (cmpI a b)) ∧ w' = W := fun g W h => by rw [← hv]; exact or2_any g _ _ _ W h
  obtain ⟨ah, al, hea, qa, qb⟩ := numV_parts a
  obtain ⟨bh, bl, heb, qc, qd⟩ := numV_parts b
  rw [← qa, ← qc] at H1 H3
  rw [← qb, ← qd] at H2 H3
  rw [hea, heb]
  generalize cmpI ah bh = x at *
  generalize cmpI al bl = y at *
  generalize cmpI a b = z at *
  have HH1 := Lib.hid H1
  have HH2 := Lib.hid H2
  have HH3 := Lib.hid H3
  clear hv H1 H2 H3 qa qb qc qd hea heb ha hb
  go_enter Tryd.func16, Tryd.ntmps16
  go_wp2_with fail
  obtain ⟨W0, hW0⟩ : ∃ W0, W0 = (w.alloc (.cells #[.int .u64 (ah : Int), .int .u64 (al : Int)] 24)).alloc (.cells #[.int .u64 (bh : Int), .int .u64 (bl : Int)] 24) := ⟨_, rfl⟩
  have HS0 : Hid ((fun Wk => Below (w.heap.size) (w) Wk ∧ Wk.cell? ⟨w.heap.size, 0, none⟩ = some (.int .u64 (ah : Int)) ∧ Wk.cell? ⟨w.heap.size, 1, none⟩ = some (.int .u64 (al : Int)) ∧ Wk.cell? ⟨w.heap.size + 1, 0, none⟩ = some (.int .u64 (bh : Int)) ∧ Wk.cell? ⟨w.heap.size + 1, 1, none⟩ = some (.int .u64 (bl : Int))) W0.drew) := by
    show _ ∧ _
    rw [hW0]
    exact ⟨below_drewN (by repeat (first | exact Below.refl _ _ | assumption | refine Below.drew ?_ | refine Below.alloc ?_ (by first | omega | (simp <;> omega)) _ | refine Below.setCell ?_ (by first | omega | (simp <;> omega)) _ | refine Below.trans ?_ (Below.mono (by assumption) (by first | omega | (simp <;> omega))))) 1, by simp [go_sem], by simp [go_sem], by simp [go_sem], by simp [go_sem]⟩
  rw [← hW0]
  clear hW0
  have hs0 := HS0.out
  obtain ⟨-, c0, c1, c2, c3⟩ := hs0
  rw [World.cell?_drew] at c0 c1 c2 c3
  have hal : ∀ (W : World) (o : Obj), Below W.heap.size W (W.alloc o) := fun W o => (Below.refl _ _).alloc (Nat.le_refl _) _
  have HAL := Lib.hid hal
  clear hal
  go_region_held3 (fun Wk => Below (w.heap.size) (w) Wk ∧ Wk.cell? ⟨w.heap.size, 0, none⟩ = some (.int .u64 (ah : Int)) ∧ Wk.cell? ⟨w.heap.size, 1, none⟩ = some (.int .u64 (al : Int)) ∧ Wk.cell? ⟨w.heap.size + 1, 0, none⟩ = some (.int .u64 (bh : Int)) ∧ Wk.cell? ⟨w.heap.size + 1, 1, none⟩ = some (.int .u64 (bl : Int)))
    (first | exact HS0.out | assumption | exact held_4_0 (HAL.out _ _) (by assumption))
    (first
    | (go_at_call 52; (with_reducible refine (HH1.out _).mono ?_); rintro e w1 ⟨rfl, rfl⟩)
    | (go_at_call 52; (with_reducible refine (HH2.out _).mono ?_); rintro e w1 ⟨rfl, rfl⟩)
    | (go_at_call 51; refine (HH3.out W0.heap.size _ ?_).mono ?_; exact heap_new W0 _; rintro e w2 ⟨rfl, rfl⟩))
  rename_i hS
  have HBF := Lib.hid hS.1
  clear hS c0 c1 c2 c3
  go_wp2_with fail
  go_ret
  exact ⟨rfl, HBF.out⟩

end Go.Proofs.YtfalhemeiengcaaDoor
