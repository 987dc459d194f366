/-
  Lemmas, joined: NumMore3, Alone, Pop, WidD.
-/
import Derived.Test.YtehcclcokgmplaaJA05
import Derived.Test.YtehcclcokgmplaaJA04
import Derived.Test.YtehcclcokgmplaaJA02
import Derived.BigRegion
/-
  Contracts of num.Cat and num.Cmp.
-/
namespace Go.Proofs.Ytehcclcokgmplaa
open Go.RowKit

set_option maxRecDepth 100000 in
set_option maxHeartbeats 2000000 in
theorem numCat_any (a b : Nat) (k : Int) (w : World) (ha : a < B * B) (hb : b < B * B) : Calls Try.prog 65 #[numV a, numV b, .int .i64 k] w (RetNum w ((a * 2 ^ sh k % (B * B) % 2 ^ sh 128) ||| (b % 2 ^ sh k))) := by
  have hl1 : a * 2 ^ sh k % (B * B) % 2 ^ sh 128 < B * B := Nat.lt_of_le_of_lt (Nat.mod_le _ _) (Nat.mod_lt _ (by unfold B; omega))
  have hl2 : b % 2 ^ sh k < B * B := Nat.lt_of_le_of_lt (Nat.mod_le _ _) hb
  have HS : Hid (∀ W, Calls Try.prog 62 #[numV a, .int .i64 k, .int .i64 128] W (RetNum W (a * 2 ^ sh k % (B * B) % 2 ^ sh 128))) := fun W => numShl_any a k 128 W ha
  have HC : Hid (∀ W, Calls Try.prog 39 #[numV b, .int .i64 k] W (RetNum W (b % 2 ^ sh k))) := fun W => numCut_any _ _ W hb
  have HO : Hid (∀ W, Calls Try.prog 73 #[numV (a * 2 ^ sh k % (B * B) % 2 ^ sh 128), numV (b % 2 ^ sh k)] W (RetNum W ((a * 2 ^ sh k % (B * B) % 2 ^ sh 128) ||| (b % 2 ^ sh k)))) := fun W => numOr_any _ _ W hl1 hl2
  generalize a * 2 ^ sh k % (B * B) % 2 ^ sh 128 = m at *
  generalize b % 2 ^ sh k = q at *
  generalize m ||| q = r at *
  obtain ⟨y, z, he, -, -⟩ := numV_parts a
  obtain ⟨y0, z0, he0, -, -⟩ := numV_parts b
  obtain ⟨y1, z1, he1, -, -⟩ := numV_parts m
  obtain ⟨y2, z2, he2, -, -⟩ := numV_parts q
  obtain ⟨y3, z3, he3, -, -⟩ := numV_parts r
  have HR := Lib.hid he3
  unfold RetNum at HC HS HO
  rw [he, he1] at HS
  rw [he0, he2] at HC
  rw [he1, he2, he3] at HO
  rw [he, he0]
  clear he he0 he1 he2 he3 ha hb hl1 hl2
  go_enter Try.func65, Try.ntmps65
  go_wp2_with fail
  obtain ⟨W0, hW0⟩ : ∃ W0, W0 = ((w.alloc (.cells #[.int .u64 (y : Int), .int .u64 (z : Int)] 59)).alloc (.cells #[.int .u64 (y0 : Int), .int .u64 (z0 : Int)] 59)).alloc (.cells #[.int .u64 0, .int .u64 0] 59) := ⟨_, rfl⟩
  have HS0 : Hid ((fun Wk => Below (w.heap.size) (w) Wk ∧ Wk.cell? ⟨w.heap.size, 0, none⟩ = some (.int .u64 (y : Int)) ∧ Wk.cell? ⟨w.heap.size, 1, none⟩ = some (.int .u64 (z : Int)) ∧ Wk.cell? ⟨w.heap.size + 1, 0, none⟩ = some (.int .u64 (y0 : Int)) ∧ Wk.cell? ⟨w.heap.size + 1, 1, none⟩ = some (.int .u64 (z0 : Int)) ∧ (∃ x, Wk.cell? ⟨w.heap.size + 1 + 1, 0, none⟩ = some x) ∧ (∃ x, Wk.cell? ⟨w.heap.size + 1 + 1, 1, none⟩ = some x) ∧ Wk.frozen? ⟨w.heap.size + 1 + 1, 0, none⟩ = false ∧ Wk.frozen? ⟨w.heap.size + 1 + 1, 1, none⟩ = false) W0.drew) := by
    show _ ∧ _
    rw [hW0]
    exact ⟨below_drewN (by repeat (first | exact Below.refl _ _ | assumption | refine Below.drew ?_ | refine Below.alloc ?_ (by first | omega | (simp <;> omega)) _ | refine Below.setCell ?_ (by first | omega | (simp <;> omega)) _ | refine Below.trans ?_ (Below.mono (by assumption) (by first | omega | (simp <;> omega))))) 1, by simp [go_sem], by simp [go_sem], by simp [go_sem], by simp [go_sem], ⟨.int .u64 0, by simp [go_sem]⟩, ⟨.int .u64 0, by simp [go_sem]⟩, by simp [go_sem], by simp [go_sem]⟩
  rw [← hW0]
  clear hW0
  have hs0 := HS0.out
  obtain ⟨-, c0, c1, c2, c3, ⟨x4, c4⟩, ⟨x5, c5⟩, f4, f5⟩ := hs0
  rw [World.cell?_drew] at c0 c1 c2 c3 c4 c5
  rw [World.frozen?_drew] at f4 f5
  go_region_held3 (fun Wk => Below (w.heap.size) (w) Wk ∧ Wk.cell? ⟨w.heap.size, 0, none⟩ = some (.int .u64 (y : Int)) ∧ Wk.cell? ⟨w.heap.size, 1, none⟩ = some (.int .u64 (z : Int)) ∧ Wk.cell? ⟨w.heap.size + 1, 0, none⟩ = some (.int .u64 (y0 : Int)) ∧ Wk.cell? ⟨w.heap.size + 1, 1, none⟩ = some (.int .u64 (z0 : Int)) ∧ (∃ x, Wk.cell? ⟨w.heap.size + 1 + 1, 0, none⟩ = some x) ∧ (∃ x, Wk.cell? ⟨w.heap.size + 1 + 1, 1, none⟩ = some x) ∧ Wk.frozen? ⟨w.heap.size + 1 + 1, 0, none⟩ = false ∧ Wk.frozen? ⟨w.heap.size + 1 + 1, 1, none⟩ = false)
    (first | exact HS0.out | exact held_4_2 hb1 (by assumption) | exact heldset_4_2 _ _ (by omega) (by simp <;> omega) (by assumption))
    (first
    | (go_at_call 62; refine (HS.out _).mono ?_; rintro e w1 ⟨rfl, hb1⟩)
    | (go_at_call 39; refine (HC.out _).mono ?_; rintro e w1 ⟨rfl, hb1⟩)
    | (go_at_call 73; refine (HO.out _).mono ?_; rintro e w1 ⟨rfl, hb1⟩; obtain ⟨-, -, -, -, -, ⟨x6, g4⟩, ⟨x7, g5⟩, g6, g7⟩ := held_4_2 hb1 (by assumption)))
  rename_i hS
  have HBF := Lib.hid hS.1
  clear hS
  have y5 : (w1.setCell ⟨w.heap.size + 1 + 1, 0, none⟩ (.int .u64 (y3 : Int))).cell? ⟨w.heap.size + 1 + 1, 1, none⟩ = some x7 := by rw [World.cell?_setCell_other _ _ _ _ (by simp)]; exact g5
  have y0' : ((w1.setCell ⟨w.heap.size + 1 + 1, 0, none⟩ (.int .u64 (y3 : Int))).setCell ⟨w.heap.size + 1 + 1, 1, none⟩ (.int .u64 (z3 : Int))).cell? ⟨w.heap.size + 1 + 1, 0, none⟩ = some (.int .u64 (y3 : Int)) := by
    rw [World.cell?_setCell_other _ _ _ _ (by simp)]
    exact World.cell?_setCell_same _ _ _ g4
  have y1' : ((w1.setCell ⟨w.heap.size + 1 + 1, 0, none⟩ (.int .u64 (y3 : Int))).setCell ⟨w.heap.size + 1 + 1, 1, none⟩ (.int .u64 (z3 : Int))).cell? ⟨w.heap.size + 1 + 1, 1, none⟩ = some (.int .u64 (z3 : Int)) := World.cell?_setCell_same _ _ _ y5
  clear y5 g4 g5 g6 g7 c0 c1 c2 c3 c4 c5 f4 f5
  generalize (w1.setCell ⟨w.heap.size + 1 + 1, 0, none⟩ (.int .u64 (y3 : Int))).setCell ⟨w.heap.size + 1 + 1, 1, none⟩ (.int .u64 (z3 : Int)) = WF at *
  go_wp2_with fail
  exact bodyPost_ret (v := .agg #[.int .u64 (y3 : Int), .int .u64 (z3 : Int)]) (by simp [results, Try.results65, go_sem, y0', y1']) rfl ⟨by rw [HR.out], HBF.out⟩

theorem isNaN_any (x : Int) (w : World) : Calls Try.prog 85 #[.int .u64 x] w fun e w' => e = .returned (.bool false) ∧ w' = w := by
  go_enter Try.func85, Try.ntmps85
  go_wp2
  go_ret
  exact ⟨rfl, rfl⟩

/-- As the library compares. -/
def cmpI (a b : Nat) : Int := if a < b then -1 else if b < a then 1 else 0
set_option maxRecDepth 100000 in
set_option maxHeartbeats 400000 in
theorem compare_any (x y : Nat) (w : World) : Calls Try.prog 84 #[.int .u64 (x : Int), .int .u64 (y : Int)] w fun e w' => e = .returned (.int .i64 (cmpI x y)) ∧ w' = w := by
  have h1 : x < y → Hid (cmpI x y = -1) := fun h => by show _ = _; unfold cmpI; rw [if_pos h]
  have h2 : y < x → Hid (cmpI x y = 1) := fun h => by show _ = _; unfold cmpI; rw [if_neg (by omega), if_pos h]
  have h3 : x = y → Hid (cmpI x y = 0) := fun h => by show _ = _; unfold cmpI; rw [if_neg (by omega), if_neg (by omega)]
  have H := Lib.hid (And.intro h1 (And.intro h2 h3)); clear h1 h2 h3
  go_enter Try.func84, Try.ntmps84
  go_wp2_with (go_at_call 85; refine (isNaN_any _ _).mono ?_; rintro e w1 ⟨rfl, rfl⟩)
  all_goals go_ret
  · exact ⟨by rw [(H.out.1 (by omega)).out]; rfl, rfl⟩
  · exact ⟨by rw [(H.out.2.1 (by omega)).out]; rfl, rfl⟩
  · exact ⟨by rw [(H.out.2.2 (by omega)).out]; rfl, rfl⟩

set_option maxRecDepth 100000 in
set_option maxHeartbeats 800000 in
theorem or2_any (g t : Nat) (a b : Int) (w : World) (h0 : w.heap[g]? = some (.cells #[.int .i64 a, .int .i64 b] t (0, 0))) : Calls Try.prog 83 #[.slice (some ⟨g, 0, none⟩) 2 2] w fun e w' => e = .returned (.int .i64 (if a ≠ 0 then a else b)) ∧ w' = w := by
  have c0 : w.cell? ⟨g, 0, none⟩ = some (.int .i64 a) := by simp [World.cell?, h0]
  have c1 : w.cell? ⟨g, 1, none⟩ = some (.int .i64 b) := by simp [World.cell?, h0]
  clear h0
  have V1 : a ≠ 0 → Hid ((if a ≠ 0 then a else b) = a) := fun h => if_pos h
  have V2 : a = 0 → Hid ((if a ≠ 0 then a else b) = b) := fun h => if_neg (by simp [h])
  have HV := Lib.hid (And.intro V1 V2); clear V1 V2
  generalize (if a ≠ 0 then a else b) = r at *
  go_enter Try.func83, Try.ntmps83
  go_wp2
  go_loop [8] (fun i => ∃ k : Nat, k ≤ 2 ∧ i = .int .i64 k ∧ (0 < k → a = 0) ∧ (1 < k → b = 0)) (fun i => 2 - (intOf i).toNat)
  case atStart => exact ⟨0, by omega, rfl, by omega, by omega⟩
  case round =>
    obtain ⟨k, hk, rfl, hz0, hz1⟩ := hrel
    have hcase : k = 0 ∨ k = 1 ∨ k = 2 := by omega
    rcases hcase with rfl | rfl | rfl
    · by_cases ha : a = 0
      · subst ha
        go_wp2
        go_round
        case rel => exact ⟨1, by omega, rfl, by simp, by omega⟩
        case measure => simp [intOf]
      · have hd : decide (a = 0) = false := decide_eq_false ha
        have hd2 : (a != 0) = true := by simpa using ha
        go_wp2
        go_ret
        exact ⟨by rw [(HV.out.1 ha).out]; rfl, rfl⟩
    · have ha := hz0 (by omega)
      by_cases hb : b = 0
      · subst hb
        go_wp2
        go_round
        case rel => exact ⟨2, by omega, rfl, fun _ => ha, by simp⟩
        case measure => simp [intOf]
      · have hd : decide (b = 0) = false := decide_eq_false hb
        have hd2 : (b != 0) = true := by simpa using hb
        go_wp2
        go_ret
        exact ⟨by rw [(HV.out.2 ha).out]; rfl, rfl⟩
    · have ha := hz0 (by omega)
      have hb := hz1 (by omega)
      go_wp2
      go_ret
      exact ⟨by rw [(HV.out.2 ha).out, hb]; rfl, rfl⟩

theorem cmp_parts {a b : Nat} (_ha : a < B * B) (_hb : b < B * B) : (if cmpI (a / B) (b / B) ≠ 0 then cmpI (a / B) (b / B) else cmpI (a % B) (b % B)) = cmpI a b := by
  unfold cmpI B at *
  repeat split
  all_goals first | rfl | omega | simp_all

set_option maxRecDepth 100000 in
set_option maxHeartbeats 2000000 in
theorem numCmp_any (a b : Nat) (w : World) (ha : a < B * B) (hb : b < B * B) : Calls Try.prog 76 #[numV a, numV b] w fun e w' => e = .returned (.int .i64 (cmpI a b)) ∧ Below w.heap.size w w' := by
  have hv := cmp_parts ha hb
  have H1 : ∀ W, Calls Try.prog 84 #[.int .u64 (a / B : Nat), .int .u64 (b / B : Nat)] W fun e w' => e = .returned (.int .i64 (cmpI (a / B) (b / B))) ∧ w' = W := fun W => compare_any _ _ W
  have H2 : ∀ W, Calls Try.prog 84 #[.int .u64 (a % B : Nat), .int .u64 (b % B : Nat)] W fun e w' => e = .returned (.int .i64 (cmpI (a % B) (b % B))) ∧ w' = W := fun W => compare_any _ _ W
  have H3 : ∀ (g : Nat) W, W.heap[g]? = some (.cells #[.int .i64 (cmpI (a / B) (b / B)), .int .i64 (cmpI (a % B) (b % B))] 3 (0, 0)) → Calls Try.prog 83 #[.slice (some ⟨g, 0, none⟩) 2 2] W fun e w' => e = .returned (.int .i64 (cmpI a b)) ∧ w' = W := fun g W h => by rw [← hv]; exact or2_any g _ _ _ W h
  obtain ⟨ah, al, hea, qa, qb⟩ := numV_parts a
  obtain ⟨bh, bl, heb, qc, qd⟩ := numV_parts b
  rw [← qa, ← qc] at H1 H3
  rw [← qb, ← qd] at H2 H3
  rw [hea, heb]
  generalize cmpI ah bh = x at *
  generalize cmpI al bl = y at *
  generalize cmpI a b = z at *
  have HH1 := Lib.hid H1
  have HH2 := Lib.hid H2
  have HH3 := Lib.hid H3
  clear hv H1 H2 H3 qa qb qc qd hea heb ha hb
  go_enter Try.func76, Try.ntmps76
  go_wp2_with fail
  obtain ⟨W0, hW0⟩ : ∃ W0, W0 = (w.alloc (.cells #[.int .u64 (ah : Int), .int .u64 (al : Int)] 59)).alloc (.cells #[.int .u64 (bh : Int), .int .u64 (bl : Int)] 59) := ⟨_, rfl⟩
  have HS0 : Hid ((fun Wk => Below (w.heap.size) (w) Wk ∧ Wk.cell? ⟨w.heap.size, 0, none⟩ = some (.int .u64 (ah : Int)) ∧ Wk.cell? ⟨w.heap.size, 1, none⟩ = some (.int .u64 (al : Int)) ∧ Wk.cell? ⟨w.heap.size + 1, 0, none⟩ = some (.int .u64 (bh : Int)) ∧ Wk.cell? ⟨w.heap.size + 1, 1, none⟩ = some (.int .u64 (bl : Int))) W0.drew) := by
    show _ ∧ _
    rw [hW0]
    exact ⟨below_drewN (by repeat (first | exact Below.refl _ _ | assumption | refine Below.drew ?_ | refine Below.alloc ?_ (by first | omega | (simp <;> omega)) _ | refine Below.setCell ?_ (by first | omega | (simp <;> omega)) _ | refine Below.trans ?_ (Below.mono (by assumption) (by first | omega | (simp <;> omega))))) 1, by simp [go_sem], by simp [go_sem], by simp [go_sem], by simp [go_sem]⟩
  rw [← hW0]
  clear hW0
  have hs0 := HS0.out
  obtain ⟨-, c0, c1, c2, c3⟩ := hs0
  rw [World.cell?_drew] at c0 c1 c2 c3
  have hal : ∀ (W : World) (o : Obj), Below W.heap.size W (W.alloc o) := fun W o => (Below.refl _ _).alloc (Nat.le_refl _) _
  have HAL := Lib.hid hal
  clear hal
  go_region_held3 (fun Wk => Below (w.heap.size) (w) Wk ∧ Wk.cell? ⟨w.heap.size, 0, none⟩ = some (.int .u64 (ah : Int)) ∧ Wk.cell? ⟨w.heap.size, 1, none⟩ = some (.int .u64 (al : Int)) ∧ Wk.cell? ⟨w.heap.size + 1, 0, none⟩ = some (.int .u64 (bh : Int)) ∧ Wk.cell? ⟨w.heap.size + 1, 1, none⟩ = some (.int .u64 (bl : Int)))
    (first | exact HS0.out | assumption | exact held_4_0 (HAL.out _ _) (by assumption))
    (first
    | (go_at_call 84; (with_reducible refine (HH1.out _).mono ?_); rintro e w1 ⟨rfl, rfl⟩)
    | (go_at_call 84; (with_reducible refine (HH2.out _).mono ?_); rintro e w1 ⟨rfl, rfl⟩)
    | (go_at_call 83; refine (HH3.out W0.heap.size _ ?_).mono ?_; exact heap_new W0 _; rintro e w2 ⟨rfl, rfl⟩))
  rename_i hS
  have HBF := Lib.hid hS.1
  clear hS c0 c1 c2 c3
  go_wp2_with fail
  go_ret
  exact ⟨rfl, HBF.out⟩

end Go.Proofs.Ytehcclcokgmplaa

/-
  The maps of the nodes that ask one number, and two.
-/
namespace Go.Proofs.Ytehcclcokgmplaa
open Go.RowKit Go.Maps

theorem run_mkFunc (P : Program) (fn : Fn) (first cap : Array Value) (w : World) : (Instr.makeFunc fn first cap).run P w = .ok (.func fn first cap) w := rfl
def fnV (f g : Nat) : Value := .func (Fn.func f) #[] #[.pointer (some ⟨g, 0, none⟩)]
def fn0 (f : Nat) : Value := .func (Fn.func f) #[] #[]
def aloneM (g : Nat) : List (Int × Value) := [(7, fnV 55 g), (8, fnV 57 g), (9, fnV 59 g), (13, fnV 61 g), (14, fnV 63 g)]
def bothM (g : Nat) : List (Int × Value) := [(10, fn0 64), (11, fnV 66 g), (12, fnV 68 g), (15, fn0 69), (16, fn0 70), (17, fn0 72), (18, fn0 74), (19, fn0 75), (20, fn0 77)]

set_option maxRecDepth 100000 in
set_option maxHeartbeats 2000000 in
theorem alone_any (c0 c1 c2 c3 c4 c5 : Int) (w : World) :
    Calls Try.prog 46 #[.agg #[.int .u8 c0, .int .i64 c1, .int .i64 c2, .int .i64 c3, .int .u64 c4, .int .u64 c5]] w fun e w' => ∃ m, e = .returned (.map (some m)) ∧ UMap w' m (aloneM w.heap.size) ∧ w'.heap[w.heap.size]? = some (.cells #[.int .u8 c0, .int .i64 c1, .int .i64 c2, .int .i64 c3, .int .u64 c4, .int .u64 c5] 61 (0, 0)) ∧ Below w.heap.size w w' := by
  have hmm := @run_makeMap Try.prog
  have hmf := run_mkFunc Try.prog
  have HM : ∀ W, UMap (World.alloc W (.map #[] 0)) W.heap.size [] := fun W => UMap.empty _ _ (heap_new W _)
  have h0 := HM (w.alloc (.cells #[.int .u8 c0, .int .i64 c1, .int .i64 c2, .int .i64 c3, .int .u64 c4, .int .u64 c5] 61))
  rw [World.size_alloc] at h0
  have HB : Hid (Below (w.heap.size + 1) (w.alloc (.cells #[.int .u8 c0, .int .i64 c1, .int .i64 c2, .int .i64 c3, .int .u64 c4, .int .u64 c5] 61)) ((w.alloc (.cells #[.int .u8 c0, .int .i64 c1, .int .i64 c2, .int .i64 c3, .int .u64 c4, .int .u64 c5] 61)).alloc (.map #[] 0))) := (Below.refl _ _).alloc (by simp) _
  have hB := HB.out
  clear HM
  go_enter Try.func46, Try.ntmps46
  go_wp2_with (refine wpList_put (k := 5) (e := 116) (by rfl) _ _ _ (by rfl) Try.underlying5 Try.underlying118 (by rfl) h0 _ (by rfl) _ (by rfl) (by decide) (by simp) ?_; clear h0; intro w1 h0 hg1; replace hB := hB.grown hg1 (Nat.le_trans (by simp) hB.size) (fun k e => by cases e; simp); clear hg1)
  go_ret
  exact ⟨_, rfl, h0, by rw [hB.block _ (by omega)]; exact heap_new w _, Below.trans ((Below.refl _ _).alloc (Nat.le_refl _) _) (hB.mono (by omega))⟩

set_option maxRecDepth 100000 in
set_option maxHeartbeats 2000000 in
theorem both_any (c0 c1 c2 c3 c4 c5 : Int) (w : World) :
    Calls Try.prog 47 #[.agg #[.int .u8 c0, .int .i64 c1, .int .i64 c2, .int .i64 c3, .int .u64 c4, .int .u64 c5]] w fun e w' => ∃ m, e = .returned (.map (some m)) ∧ UMap w' m (bothM w.heap.size) ∧ w'.heap[w.heap.size]? = some (.cells #[.int .u8 c0, .int .i64 c1, .int .i64 c2, .int .i64 c3, .int .u64 c4, .int .u64 c5] 61 (0, 0)) ∧ Below w.heap.size w w' := by
  have hmm := @run_makeMap Try.prog
  have hmf := run_mkFunc Try.prog
  have HM : ∀ W, UMap (World.alloc W (.map #[] 0)) W.heap.size [] := fun W => UMap.empty _ _ (heap_new W _)
  have h0 := HM (w.alloc (.cells #[.int .u8 c0, .int .i64 c1, .int .i64 c2, .int .i64 c3, .int .u64 c4, .int .u64 c5] 61))
  rw [World.size_alloc] at h0
  have HB : Hid (Below (w.heap.size + 1) (w.alloc (.cells #[.int .u8 c0, .int .i64 c1, .int .i64 c2, .int .i64 c3, .int .u64 c4, .int .u64 c5] 61)) ((w.alloc (.cells #[.int .u8 c0, .int .i64 c1, .int .i64 c2, .int .i64 c3, .int .u64 c4, .int .u64 c5] 61)).alloc (.map #[] 0))) := (Below.refl _ _).alloc (by simp) _
  have hB := HB.out
  clear HM
  go_enter Try.func47, Try.ntmps47
  go_wp2_with (refine wpList_put (k := 5) (e := 120) (by rfl) _ _ _ (by rfl) Try.underlying5 Try.underlying122 (by rfl) h0 _ (by rfl) _ (by rfl) (by decide) (by simp) ?_; clear h0; intro w1 h0 hg1; replace hB := hB.grown hg1 (Nat.le_trans (by simp) hB.size) (fun k e => by cases e; simp); clear hg1)
  go_ret
  exact ⟨_, rfl, h0, by rw [hB.block _ (by omega)]; exact heap_new w _, Below.trans ((Below.refl _ _).alloc (Nat.le_refl _) _) (hB.mono (by omega))⟩

end Go.Proofs.Ytehcclcokgmplaa

/-
  The stack of a machine: how it lies, what pop takes off it.
-/
namespace Go.Proofs.Ytehcclcokgmplaa
open Go.RowKit Go.Maps

/-- A number and its width, as cells. -/
def sized3 (p : Nat × Int) : List Value := [.int .u64 ((p.1 / B : Nat) : Int), .int .u64 ((p.1 % B : Nat) : Int), .int .i64 p.2]
def stkCells (st : List (Nat × Int)) : List Value := st.flatMap sized3
theorem stkCells_snoc (st : List (Nat × Int)) (p : Nat × Int) : stkCells (st ++ [p]) = stkCells st ++ sized3 p := by simp [stkCells]
theorem stkCells_length (st : List (Nat × Int)) : (stkCells st).length = st.length * 3 := by
  induction st with
  | nil => rfl
  | cons p st ih => simp only [stkCells, List.flatMap_cons, List.length_append, List.length_cons] at ih ⊢; rw [ih]; simp [sized3]; omega

/-- Block m is a machine with a packet x.1, arguments x.2, and a stack. -/
def Stk (w : World) (n0 m : Nat) (x : Value × Value) (st : List (Nat × Int)) : Prop :=
  ∃ v, w.heap[m]? = some (.cells #[x.1, x.2, v] 108 (0, 0)) ∧ w.ownsRow n0 111 3 v st.length (stkCells st) ∧ v.ownBlock ≠ some m ∧ n0 ≤ m ∧ st.length ≤ 100000

theorem Stk.below {w w' : World} {n0 m : Nat} {x : Value × Value} {st : List (Nat × Int)} (h : Stk w n0 m x st) (hb : Below w.heap.size w w') : Stk w' n0 m x st := by
  obtain ⟨v, h1, h2, h3, h4, h5⟩ := h
  refine ⟨v, (hb.block m ?_).trans h1, own_below h2 hb, h3, h4, h5⟩
  exact (Array.getElem?_eq_some_iff.1 h1).1

/-- A row that is cut at its end. -/
theorem own_cut {w : World} {n0 e n k : Nat} {g cap : Nat} {xs ys : List Value} (h : w.ownsRow n0 e k (.slice (some ⟨g, 0, none⟩) (n + 1) cap) (n + 1) (xs ++ ys)) (hx : xs.length = n * k) : w.ownsRow n0 e k (.slice (some ⟨g, 0, none⟩) n cap) n xs := by
  obtain ⟨hl, h | ⟨g', cap', cur, h1, h2, h3, h4, h5, h6, h7⟩⟩ := h
  · exact absurd h.2 (by omega)
  · simp only [Value.slice.injEq, Option.some.injEq, Addr.mk.injEq, and_true, true_and] at h1
    obtain ⟨rfl, rfl⟩ := h1
    refine ⟨hx, .inr ⟨g, cap, cur, rfl, h2, h3, by omega, h5, h6, ?_⟩⟩
    have : cur.toList.take (n * k) = (cur.toList.take ((n + 1) * k)).take (n * k) := by rw [List.take_take]; congr 1; rw [Nat.add_mul]; omega
    rw [this, h7, List.take_append_of_le_length (by omega), List.take_of_length_le (by omega)]

theorem own_cell {w : World} {n0 e n k : Nat} {g cap : Nat} {xs : List Value} (h : w.ownsRow n0 e k (.slice (some ⟨g, 0, none⟩) n cap) n xs) {i : Nat} {v : Value} (hv : xs[i]? = some v) : w.cell? ⟨g, i, none⟩ = some v := by
  obtain ⟨hl, h | ⟨g', cap', cur, h1, h2, h3, h4, h5, h6, h7⟩⟩ := h
  · simp at h
  · simp only [Value.slice.injEq, Option.some.injEq, Addr.mk.injEq, and_true, true_and] at h1
    obtain ⟨rfl, rfl⟩ := h1
    rw [← h7] at hv
    have hi : i < n * k := by
      have := (List.getElem?_eq_some_iff.1 hv).1
      simp at this; omega
    rw [List.getElem?_take_of_lt hi] at hv
    simp only [World.cell?, h3]
    simpa using hv

/-- All blocks but m are as they were. -/
def Apart (m : Nat) (w w' : World) : Prop := (∀ k, k < w.heap.size → k ≠ m → w'.heap[k]? = w.heap[k]?) ∧ w.heap.size ≤ w'.heap.size
theorem Apart.cell {m : Nat} {w w' : World} (h : Apart m w w') {p : Addr} {v : Value} (hp : p.block ≠ m) (hc : w.cell? p = some v) : w'.cell? p = some v := by
  have := h.1 p.block (cell_there hc).1 hp
  simpa [World.cell?, this] using hc
theorem Apart.frozen {m : Nat} {w w' : World} (h : Apart m w w') {p : Addr} {v : Value} (hp : p.block ≠ m) (hc : w.cell? p = some v) : w'.frozen? p = w.frozen? p := by
  have := h.1 p.block (cell_there hc).1 hp
  simp [World.frozen?, this]

theorem heap_setCell3 {w : World} {m : Nat} {a b c v : Value} {t : TypeId} (h : w.heap[m]? = some (.cells #[a, b, c] t (0, 0))) : (w.setCell ⟨m, 2, none⟩ v).heap[m]? = some (.cells #[a, b, v] t (0, 0)) :=
  heap_setCell_same w m 2 _ t v h

set_option maxRecDepth 100000 in
set_option maxHeartbeats 2000000 in
theorem pop_any (n0 m : Nat) (x : Value × Value) (st : List (Nat × Int)) (a : Nat) (k : Int) (w : World) (h : Stk w n0 m x (st ++ [(a, k)])) :
    Calls Try.prog 41 #[.pointer (some ⟨m, 0, none⟩)] w fun e w' => e = .returned (.agg #[.int .u64 ((a / B : Nat) : Int), .int .u64 ((a % B : Nat) : Int), .int .i64 k]) ∧ Stk w' n0 m x st ∧ Below n0 w w' ∧ Apart m w w' := by
  obtain ⟨v, h1, h2, h3, h4, h5⟩ := h
  have hn0 : n0 ≤ w.heap.size := Nat.le_of_lt (Nat.lt_of_le_of_lt h4 (Array.getElem?_eq_some_iff.1 h1).1)
  rw [List.length_append, List.length_singleton] at h2 h5
  have hx := stkCells_length st
  rw [stkCells_snoc] at h2
  obtain ⟨g, cap, rfl, hcap⟩ : ∃ g cap, v = .slice (some ⟨g, 0, none⟩) (st.length + 1) cap ∧ st.length + 1 ≤ cap := by
    obtain ⟨-, q | ⟨g, cap, cur, q1, -, -, q2, -⟩⟩ := h2
    · exact absurd q.2 (by omega)
    · exact ⟨g, cap, q1, q2⟩
  have c2 : w.cell? ⟨m, 2, none⟩ = some (.slice (some ⟨g, 0, none⟩) (st.length + 1) cap) := by simp [World.cell?, h1]
  have f2 : w.frozen? ⟨m, 2, none⟩ = false := by simp [World.frozen?, h1]
  have e0 : w.cell? ⟨g, st.length * 3, none⟩ = some (.int .u64 ((a / B : Nat) : Int)) := own_cell h2 (by rw [List.getElem?_append_right (by omega), hx, Nat.sub_self]; rfl)
  have e1 : w.cell? ⟨g, st.length * 3 + 1, none⟩ = some (.int .u64 ((a % B : Nat) : Int)) := own_cell h2 (by rw [List.getElem?_append_right (by omega), hx, Nat.add_sub_cancel_left]; rfl)
  have e2 : w.cell? ⟨g, st.length * 3 + 2, none⟩ = some (.int .i64 k) := own_cell h2 (by rw [List.getElem?_append_right (by omega), hx, Nat.add_sub_cancel_left]; rfl)
  have hgm : g ≠ m := fun e => h3 (by rw [e]; rfl)
  have hml : m < w.heap.size := (Array.getElem?_eq_some_iff.1 h1).1
  have hgl : g < w.heap.size := (cell_there e0).1
  have HE : Hid (∀ W : World, (∀ k, k < w.heap.size → W.heap[k]? = w.heap[k]?) → Stk (W.setCell ⟨m, 2, none⟩ (.slice (some ⟨g, 0, none⟩) st.length cap)) n0 m x st) := by
    intro W hW
    refine ⟨.slice (some ⟨g, 0, none⟩) st.length cap, heap_setCell3 ((hW m hml).trans h1), ?_, h3, h4, by omega⟩
    obtain ⟨q0, q | ⟨g', cap', cur, q1, q2, q3, q4⟩⟩ := own_cut h2 hx
    · exact absurd q.1 (by simp)
    · simp only [Value.slice.injEq, Option.some.injEq, Addr.mk.injEq, and_true, true_and] at q1
      obtain ⟨rfl, rfl⟩ := q1
      exact ⟨q0, .inr ⟨g, cap, cur, rfl, q2, by rw [setCell_heap hgm]; exact (hW g (Array.getElem?_eq_some_iff.1 q3).1).trans q3, q4⟩⟩
  clear h1 h2 h3 hx
  generalize st.length = N at *
  generalize ((a / B : Nat) : Int) = A1 at *
  generalize ((a % B : Nat) : Int) = A2 at *
  have HM4 := Lib.hid h4
  have HN0 := Lib.hid hn0
  clear h4 hn0
  go_enter Try.func41, Try.ntmps41
  go_wp2_with fail
  go_region
  all_goals go_wp2_with fail
  go_region
  all_goals go_wp2_with fail
  have hS := HE.out w fun k _ => rfl
  have hb : Below (w.setCell ⟨m, 2, none⟩ (.slice (some ⟨g, 0, none⟩) N cap)).heap.size (w.setCell ⟨m, 2, none⟩ (.slice (some ⟨g, 0, none⟩) N cap)) (((((w.setCell ⟨m, 2, none⟩ (.slice (some ⟨g, 0, none⟩) N cap)).alloc (.cells #[.int .u64 A1, .int .u64 A2, .int .i64 k] 111)).alloc (.cells #[.int .u64 A1, .int .u64 A2, .int .i64 k] 111)).drew).drew) :=
    below_drewN (below_drewN (((Below.refl _ _).alloc (Nat.le_refl _) _).alloc (by simp) _) 1) 1
  have hs : (w.setCell ⟨m, 2, none⟩ (.slice (some ⟨g, 0, none⟩) N cap)).heap.size = w.heap.size := by simp
  have hb0 : Below n0 w (w.setCell ⟨m, 2, none⟩ (.slice (some ⟨g, 0, none⟩) N cap)) := (Below.refl _ _).setCell (by exact HM4.out) _
  exact bodyPost_ret (v := .agg #[.int .u64 A1, .int .u64 A2, .int .i64 k]) (by simp [results, Try.results41, go_sem]) rfl ⟨rfl, hS.below hb, hb0.trans (hb.mono (by rw [hs]; exact HN0.out)), ⟨fun k hk hne => (hb.block k (by rw [hs]; exact hk)).trans (setCell_heap hne), by have := hb.size; rw [hs] at this; exact this⟩⟩

end Go.Proofs.Ytehcclcokgmplaa

/-
  Layer 10's code, walked: the stack of widths, pop.
-/
namespace Go.Proofs.Ytehcclcokgmplaa
open Go.RowKit Go.Maps

def wCells (st : List Int) : List Value := st.map (.int .i64)
theorem wCells_len (st : List Int) : (wCells st).length = st.length := List.length_map _
theorem wCells_snoc (st : List Int) (a : Int) : wCells (st ++ [a]) = wCells st ++ [.int .i64 a] := by simp [wCells]
/-- Block m is a stack of widths. -/
def WStk (w : World) (n0 m : Nat) (b : Bool) (st : List Int) : Prop :=
  ∃ v, w.heap[m]? = some (.cells #[v, .bool b] 70 (0, 0)) ∧ w.ownsRow n0 3 1 v st.length (wCells st) ∧ v.ownBlock ≠ some m ∧ n0 ≤ m ∧ st.length ≤ 100000
theorem WStk.lt {w : World} {n0 m : Nat} {b : Bool} {st : List Int} (h : WStk w n0 m b st) : m < w.heap.size := by
  obtain ⟨v, h1, -⟩ := h
  exact (Array.getElem?_eq_some_iff.1 h1).1
theorem WStk.below {w w' : World} {n0 m : Nat} {b : Bool} {st : List Int} (h : WStk w n0 m b st) (hb : Below w.heap.size w w') : WStk w' n0 m b st := by
  obtain ⟨v, h1, h2, h3, h4, h5⟩ := h
  exact ⟨v, (hb.block m (Array.getElem?_eq_some_iff.1 h1).1).trans h1, own_below h2 hb, h3, h4, h5⟩
theorem heap_setCell2a {w : World} {m : Nat} {a b v : Value} {t : TypeId} (h : w.heap[m]? = some (.cells #[a, b] t (0, 0))) : (w.setCell ⟨m, 0, none⟩ v).heap[m]? = some (.cells #[v, b] t (0, 0)) := heap_setCell_same w m 0 _ t v h
theorem heap_setCell2b {w : World} {m : Nat} {a b v : Value} {t : TypeId} (h : w.heap[m]? = some (.cells #[a, b] t (0, 0))) : (w.setCell ⟨m, 1, none⟩ v).heap[m]? = some (.cells #[a, v] t (0, 0)) := heap_setCell_same w m 1 _ t v h
theorem own_setCell {w : World} {n0 e n k m i : Nat} {v u : Value} {xs : List Value} (h : w.ownsRow n0 e k v n xs) (hv : v.ownBlock ≠ some m) : (w.setCell ⟨m, i, none⟩ u).ownsRow n0 e k v n xs := by
  obtain ⟨q0, q | ⟨g, cap, cur, rfl, q2, q3, q4⟩⟩ := h
  · exact ⟨q0, .inl q⟩
  · have hgm : g ≠ m := fun e => hv (by rw [e]; rfl)
    exact ⟨q0, .inr ⟨g, cap, cur, rfl, q2, by rw [setCell_heap hgm]; exact q3, q4⟩⟩
theorem apart_set {w : World} {m i : Nat} {u : Value} : Apart m w (w.setCell ⟨m, i, none⟩ u) := ⟨fun k _ hne => setCell_heap hne, by simp⟩
theorem Apart.trans {m : Nat} {w w1 w2 : World} (h : Apart m w w1) (h2 : Apart m w1 w2) : Apart m w w2 := ⟨fun k hk hne => (h2.1 k (Nat.lt_of_lt_of_le hk h.2) hne).trans (h.1 k hk hne), Nat.le_trans h.2 h2.2⟩
theorem Apart.of_below {m : Nat} {w w' : World} (h : Below w.heap.size w w') : Apart m w w' := ⟨fun k hk _ => h.block k hk, h.size⟩

set_option maxRecDepth 100000 in
set_option maxHeartbeats 2000000 in
theorem wpop_nil (n0 m : Nat) (b : Bool) (w : World) (h : WStk w n0 m b []) :
    Calls Try.prog 20 #[.pointer (some ⟨m, 0, none⟩)] w fun e w' => e = .returned (.int .i64 0) ∧ WStk w' n0 m true [] ∧ Below n0 w w' ∧ Apart m w w' := by
  obtain ⟨v, h1, h2, h3, h4, h5⟩ := h
  obtain ⟨p, cap, rfl⟩ : ∃ p cap, v = .slice p 0 cap := by
    obtain ⟨-, q | ⟨g, cap, cur, q1, -⟩⟩ := h2
    · exact ⟨none, 0, q.1⟩
    · exact ⟨_, cap, q1⟩
  have c0 : w.cell? ⟨m, 0, none⟩ = some (.slice p 0 cap) := by simp [World.cell?, h1]
  have f1 : w.frozen? ⟨m, 1, none⟩ = false := by simp [World.frozen?, h1]
  have c1 : w.cell? ⟨m, 1, none⟩ = some (.bool b) := by simp [World.cell?, h1]
  have hml : m < w.heap.size := (Array.getElem?_eq_some_iff.1 h1).1
  have hE : WStk (w.setCell ⟨m, 1, none⟩ (.bool true)) n0 m true [] := ⟨_, heap_setCell2b h1, own_setCell h2 h3, h3, h4, h5⟩
  have HE := Lib.hid hE
  have HB : Hid (Below n0 w (w.setCell ⟨m, 1, none⟩ (.bool true))) := (Below.refl _ _).setCell h4 _
  clear h1 h2 h3 h4 h5 hE
  go_enter Try.func20, Try.ntmps20
  go_wp2_with fail
  go_ret
  exact ⟨rfl, HE.out, HB.out, apart_set⟩

set_option maxRecDepth 100000 in
set_option maxHeartbeats 2000000 in
theorem wpop_any (n0 m : Nat) (b : Bool) (st : List Int) (a : Int) (w : World) (h : WStk w n0 m b (st ++ [a])) :
    Calls Try.prog 20 #[.pointer (some ⟨m, 0, none⟩)] w fun e w' => e = .returned (.int .i64 a) ∧ WStk w' n0 m b st ∧ Below n0 w w' ∧ Apart m w w' := by
  obtain ⟨v, h1, h2, h3, h4, h5⟩ := h
  have hn0 : n0 ≤ w.heap.size := Nat.le_of_lt (Nat.lt_of_le_of_lt h4 (Array.getElem?_eq_some_iff.1 h1).1)
  rw [List.length_append, List.length_singleton] at h2 h5
  have hx := wCells_len st
  rw [wCells_snoc] at h2
  obtain ⟨g, cap, rfl, hcap⟩ : ∃ g cap, v = .slice (some ⟨g, 0, none⟩) (st.length + 1) cap ∧ st.length + 1 ≤ cap := by
    obtain ⟨-, q | ⟨g, cap, cur, q1, -, -, q2, -⟩⟩ := h2
    · exact absurd q.2 (by omega)
    · exact ⟨g, cap, q1, q2⟩
  have c0 : w.cell? ⟨m, 0, none⟩ = some (.slice (some ⟨g, 0, none⟩) (st.length + 1) cap) := by simp [World.cell?, h1]
  have f0 : w.frozen? ⟨m, 0, none⟩ = false := by simp [World.frozen?, h1]
  have e0 : w.cell? ⟨g, st.length, none⟩ = some (.int .i64 a) := own_cell h2 (by rw [List.getElem?_append_right (by omega), hx, Nat.sub_self]; rfl)
  have hgm : g ≠ m := fun e => h3 (by rw [e]; rfl)
  have hml : m < w.heap.size := (Array.getElem?_eq_some_iff.1 h1).1
  have hgl : g < w.heap.size := (cell_there e0).1
  have hE : WStk (w.setCell ⟨m, 0, none⟩ (.slice (some ⟨g, 0, none⟩) st.length cap)) n0 m b st :=
    ⟨.slice (some ⟨g, 0, none⟩) st.length cap, heap_setCell2a h1, own_setCell (own_cut h2 (by rw [hx, Nat.mul_one])) h3, h3, h4, by omega⟩
  have HE := Lib.hid hE
  have HB : Hid (Below n0 w (w.setCell ⟨m, 0, none⟩ (.slice (some ⟨g, 0, none⟩) st.length cap))) := (Below.refl _ _).setCell h4 _
  have HS : Hid ((w.setCell ⟨m, 0, none⟩ (.slice (some ⟨g, 0, none⟩) st.length cap)).heap.size = w.heap.size) := by show _ = _; simp
  have HN0 := Lib.hid hn0
  clear h1 h2 h3 hx hE h4 hn0
  generalize st.length = N at *
  go_enter Try.func20, Try.ntmps20
  go_wp2_with fail
  go_region
  all_goals go_wp2_with fail
  go_region
  all_goals go_wp2_with fail
  have hb : Below (w.setCell ⟨m, 0, none⟩ (.slice (some ⟨g, 0, none⟩) N cap)).heap.size (w.setCell ⟨m, 0, none⟩ (.slice (some ⟨g, 0, none⟩) N cap)) (w.setCell ⟨m, 0, none⟩ (.slice (some ⟨g, 0, none⟩) N cap)).drew.drew := below_drewN (below_drewN (Below.refl _ _) 1) 1
  go_ret
  exact ⟨rfl, HE.out.below hb, HB.out.trans (hb.mono (by rw [HS.out]; exact HN0.out)), apart_set.trans (Apart.of_below hb)⟩

end Go.Proofs.Ytehcclcokgmplaa
