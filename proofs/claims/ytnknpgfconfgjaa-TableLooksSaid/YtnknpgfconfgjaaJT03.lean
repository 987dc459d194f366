/-
  Lemmas, joined: TabB, TabC, TabP, StabM.
-/
import Derived.Test.YtnknpgfconfgjaaJT02
import Derived.Test.YtnknpgfconfgjaaJT01
import Derived.Deep.RegionHeld3
import Derived.BigRegion
import Derived.BigQuiet
import Derived.IntWalk
import Derived.Deep.AppendLies
/-
  The document's Agrees.
-/
namespace Go.Proofs.Ytnknpgfconfgjaa
open Go.RowKit

theorem agr_true {p : Pt} {n : Nat} (h : ∀ j, j < 128 → (n.testBit j && p.m.testBit j) = p.v.testBit j) (hn : n < B * B) (hv : p.v < B * B) : agr p n = true := by
  unfold agr
  refine decide_eq_true (Nat.eq_of_testBit_eq fun j => ?_)
  rw [Nat.testBit_and]
  by_cases hj : j < 128
  · exact h j hj
  · have e : B * B = 2 ^ 128 := by rw [B_pow, ← Nat.pow_add]
    have h1 : n < 2 ^ j := Nat.lt_of_lt_of_le (by rw [← e]; exact hn) (Nat.pow_le_pow_right (by decide) (by omega))
    have h2 : p.v < 2 ^ j := Nat.lt_of_lt_of_le (by rw [← e]; exact hv) (Nat.pow_le_pow_right (by decide) (by omega))
    rw [Nat.testBit_lt_two_pow h1, Nat.testBit_lt_two_pow h2]; rfl
theorem agr_false {p : Pt} {n j : Nat} (h : (n.testBit j && p.m.testBit j) ≠ p.v.testBit j) : agr p n = false := by
  unfold agr
  refine decide_eq_false fun e => h ?_
  rw [← e, Nat.testBit_and]

theorem bitB_nat (n k : Nat) (h : k < 128) : bitB n (k : Int) = n.testBit k := by
  unfold bitB
  have h1 : decide ((0 : Int) ≤ (k : Int)) = true := decide_eq_true (by omega)
  have h2 : decide ((k : Int) < 128) = true := decide_eq_true (by omega)
  rw [h1, h2]; simp

set_option maxRecDepth 100000 in
set_option maxHeartbeats 1600000 in
theorem refAgrees_any (p : Pt) (n : Nat) (w : World) (hn : n < B * B) (hv : p.v < B * B) (hm : p.m < B * B) :
    Calls Try.prog 32 #[patV p, numV n] w fun e w' => e = .returned (.bool (agr p n)) ∧ Below w.heap.size w w' := by
  unfold patV numV
  obtain ⟨v, m⟩ := p
  simp only at hv hm ⊢
  have HT : Hid ((∀ j, j < 128 → (n.testBit j && m.testBit j) = v.testBit j) → agr ⟨v, m⟩ n = true) := fun h => agr_true (p := ⟨v, m⟩) h hn hv
  have HF : Hid (∀ j, (n.testBit j && m.testBit j) ≠ v.testBit j → agr ⟨v, m⟩ n = false) := fun j h => agr_false (p := ⟨v, m⟩) h
  have HN : Hid (∀ (k : Nat) W, k < 128 → Calls Try.prog 43 #[.agg #[.int .u64 ((n / B : Nat) : Int), .int .u64 ((n % B : Nat) : Int)], .int .i64 k] W fun e w' => e = .returned (.bool (n.testBit k)) ∧ Below W.heap.size W w') := fun k W hk => by
    have := refBit_any n k hn W; rw [bitB_nat n k hk] at this; exact this
  have HM : Hid (∀ (k : Nat) W, k < 128 → Calls Try.prog 43 #[.agg #[.int .u64 ((m / B : Nat) : Int), .int .u64 ((m % B : Nat) : Int)], .int .i64 k] W fun e w' => e = .returned (.bool (m.testBit k)) ∧ Below W.heap.size W w') := fun k W hk => by
    have := refBit_any m k hm W; rw [bitB_nat m k hk] at this; exact this
  have HV : Hid (∀ (k : Nat) W, k < 128 → Calls Try.prog 43 #[.agg #[.int .u64 ((v / B : Nat) : Int), .int .u64 ((v % B : Nat) : Int)], .int .i64 k] W fun e w' => e = .returned (.bool (v.testBit k)) ∧ Below W.heap.size W w') := fun k W hk => by
    have := refBit_any v k hv W; rw [bitB_nat v k hk] at this; exact this
  obtain ⟨nh, e1⟩ : ∃ x, x = n / B := ⟨_, rfl⟩
  obtain ⟨nl, e2⟩ : ∃ x, x = n % B := ⟨_, rfl⟩
  obtain ⟨mh, e3⟩ : ∃ x, x = m / B := ⟨_, rfl⟩
  obtain ⟨ml, e4⟩ : ∃ x, x = m % B := ⟨_, rfl⟩
  obtain ⟨vh, e5⟩ : ∃ x, x = v / B := ⟨_, rfl⟩
  obtain ⟨vl, e6⟩ : ∃ x, x = v % B := ⟨_, rfl⟩
  rw [← e1, ← e2] at HN
  rw [← e3, ← e4] at HM
  rw [← e5, ← e6] at HV
  rw [← e1, ← e2, ← e3, ← e4, ← e5, ← e6]
  clear e1 e2 e3 e4 e5 e6 hn hm hv
  go_enter Try.func32, Try.ntmps32
  go_wp2_with fail
  have hbx : Below w.heap.size w ((w.alloc (.cells #[.int .u64 (vh : Int), .int .u64 (vl : Int), .int .u64 (mh : Int), .int .u64 (ml : Int)] 85)).alloc (.cells #[.int .u64 (nh : Int), .int .u64 (nl : Int)] 24)) := (by repeat (first | exact Below.refl _ _ | assumption | refine Below.drew ?_ | refine Below.alloc ?_ (by first | omega | (simp <;> omega)) _ | refine Below.setCell ?_ (by first | omega | (simp <;> omega)) _ | refine Below.trans ?_ (Below.mono (by assumption) (by first | omega | (simp <;> omega)))))
  generalize hX : (w.alloc (.cells #[.int .u64 (vh : Int), .int .u64 (vl : Int), .int .u64 (mh : Int), .int .u64 (ml : Int)] 85)).alloc (.cells #[.int .u64 (nh : Int), .int .u64 (nl : Int)] 24) = X at hbx
  have hsX : w.heap.size + 1 < X.heap.size := by rw [← hX]; simp
  have hx : Hid (∀ W, Below X.heap.size X W → Below w.heap.size w W ∧ W.cell? ⟨w.heap.size, 0, none⟩ = some (.int .u64 (vh : Int)) ∧ W.cell? ⟨w.heap.size, 1, none⟩ = some (.int .u64 (vl : Int)) ∧ W.cell? ⟨w.heap.size, 2, none⟩ = some (.int .u64 (mh : Int)) ∧ W.cell? ⟨w.heap.size, 3, none⟩ = some (.int .u64 (ml : Int)) ∧
      W.cell? ⟨w.heap.size + 1, 0, none⟩ = some (.int .u64 (nh : Int)) ∧ W.cell? ⟨w.heap.size + 1, 1, none⟩ = some (.int .u64 (nl : Int))) := fun W hW => by
    refine ⟨hbx.trans (hW.mono hbx.size), ?_, ?_, ?_, ?_, ?_, ?_⟩
    all_goals
      rw [hW.cell (by first | exact hsX | exact Nat.lt_of_succ_lt hsX), ← hX]
      simp [go_sem]
  clear hX hbx
  go_loopw [5, 6] (fun i u wr => ∃ k : Nat, k ≤ 128 ∧ i = .int .i64 k ∧ Hid (∀ j, j < k → (n.testBit j && m.testBit j) = v.testBit j) ∧ Hid (Below X.heap.size X wr)) (fun i _ _ => 128 - (intOf i).toNat)
  case atStart => exact ⟨0, by omega, rfl, fun j h => absurd h (by omega), Below.refl _ _⟩
  case round =>
    obtain ⟨k, hk, rfl, HJ, HW⟩ := hrel
    by_cases hlt : k < 128
    · obtain ⟨-, x0, x1, x2, x3, x4, x5⟩ := hx.out wr HW.out
      obtain ⟨bn, hbn⟩ : ∃ b, b = n.testBit k := ⟨_, rfl⟩
      obtain ⟨bm, hbm⟩ : ∃ b, b = m.testBit k := ⟨_, rfl⟩
      obtain ⟨bv, hbv⟩ : ∃ b, b = v.testBit k := ⟨_, rfl⟩
      have HNk := Lib.hid (fun W => HN.out k W hlt)
      have HMk := Lib.hid (fun W => HM.out k W hlt)
      have HVk := Lib.hid (fun W => HV.out k W hlt)
      rw [← hbn] at HNk
      rw [← hbm] at HMk
      rw [← hbv] at HVk
      have Hbn := Lib.hid hbn
      have Hbm := Lib.hid hbm
      have Hbv := Lib.hid hbv
      clear hbn hbm hbv
      cases bn
      · go_wp2_with fail
        refine (HNk.out _).mono ?_
        rintro e w1 ⟨rfl, hb1⟩
        have HW1 : Hid (Below X.heap.size X w1) := HW.out.trans (hb1.mono HW.out.size)
        clear hb1 x0 x1 x2 x3 x4 x5 HW
        obtain ⟨-, x0, x1, x2, x3, x4, x5⟩ := hx.out w1 HW1.out
        go_wp2_with fail
        refine (HVk.out _).mono ?_
        rintro e w2 ⟨rfl, hb1⟩
        have HW2 : Hid (Below X.heap.size X w2) := HW1.out.trans (hb1.mono HW1.out.size)
        clear hb1 x0 x1 x2 x3 x4 x5 HW1
        cases bv
        · go_wp2_with fail
          go_roundw
          case rel => exact ⟨k + 1, by omega, by go_num, fun j hj => by
            by_cases e : j = k
            · rw [e, ← Hbn.out, ← Hbv.out]; rfl
            · exact HJ.out j (by omega), HW2⟩
          case measure => simp [intOf]; omega
        · go_wp2_with fail
          go_ret
          exact ⟨by rw [HF.out k (by rw [← Hbn.out, ← Hbv.out]; simp)]; rfl, (hx.out w2 HW2.out).1⟩
      · go_wp2_with fail
        refine (HNk.out _).mono ?_
        rintro e w1 ⟨rfl, hb1⟩
        have HW1 : Hid (Below X.heap.size X w1) := HW.out.trans (hb1.mono HW.out.size)
        clear hb1 x0 x1 x2 x3 x4 x5 HW
        obtain ⟨-, x0, x1, x2, x3, x4, x5⟩ := hx.out w1 HW1.out
        go_wp2_with fail
        refine (HMk.out _).mono ?_
        rintro e w2 ⟨rfl, hb1⟩
        have HW2 : Hid (Below X.heap.size X w2) := HW1.out.trans (hb1.mono HW1.out.size)
        clear hb1 x0 x1 x2 x3 x4 x5 HW1
        obtain ⟨-, x0, x1, x2, x3, x4, x5⟩ := hx.out w2 HW2.out
        go_wp2_with fail
        refine (HVk.out _).mono ?_
        rintro e w3 ⟨rfl, hb1⟩
        have HW3 : Hid (Below X.heap.size X w3) := HW2.out.trans (hb1.mono HW2.out.size)
        clear hb1 x0 x1 x2 x3 x4 x5 HW2
        cases bm <;> cases bv
        all_goals
          go_wp2_with fail
          first
          | (go_ret; exact ⟨by rw [HF.out k (by rw [← Hbn.out, ← Hbv.out, ← Hbm.out]; simp)]; rfl, (hx.out w3 HW3.out).1⟩)
          | (go_roundw
             case rel => exact ⟨k + 1, by omega, by go_num, fun j hj => by
               by_cases e : j = k
               · rw [e, ← Hbn.out, ← Hbv.out, ← Hbm.out]; rfl
               · exact HJ.out j (by omega), HW3⟩
             case measure => simp [intOf]; omega)
    · obtain rfl : k = 128 := by omega
      go_wp2_with fail
      go_ret
      exact ⟨by rw [HT.out HJ.out]; rfl, (hx.out wr HW.out).1⟩

end Go.Proofs.Ytnknpgfconfgjaa

/-
  table.Matches and the document's.
-/
namespace Go.Proofs.Ytnknpgfconfgjaa
open Go.RowKit

/-- Does an entry match? -/
def matB (e : Ent) (tab : Int) (ks : List Nat) : Bool := decide (e.tab = tab) && (decide (e.pats.length = ks.length) && (List.zip e.pats ks).all (fun x => agr x.1 x.2))
theorem matB_tab {e : Ent} {tab : Int} {ks : List Nat} (h : e.tab ≠ tab) : matB e tab ks = false := by unfold matB; simp [h]
theorem matB_len {e : Ent} {tab : Int} {ks : List Nat} (h : e.pats.length ≠ ks.length) : matB e tab ks = false := by unfold matB; simp [h]
theorem matB_not {e : Ent} {tab : Int} {ks : List Nat} {k n : Nat} {p : Pt} (h1 : e.pats[k]? = some p) (h2 : ks[k]? = some n) (h : agr p n = false) : matB e tab ks = false := by
  unfold matB
  rw [show (List.zip e.pats ks).all (fun x => agr x.1 x.2) = false from ?_]
  · simp
  · rw [List.all_eq_false]
    exact ⟨(p, n), List.mem_of_getElem? (i := k) (by rw [List.getElem?_zip_eq_some]; exact ⟨h1, h2⟩), by simp [h]⟩
theorem matB_yes {e : Ent} {tab : Int} {ks : List Nat} (h1 : e.tab = tab) (h2 : e.pats.length = ks.length) (h : ∀ (k : Nat) (p : Pt) (n : Nat), e.pats[k]? = some p → ks[k]? = some n → agr p n = true) : matB e tab ks = true := by
  unfold matB
  rw [show (List.zip e.pats ks).all (fun x => agr x.1 x.2) = true from ?_]
  · simp [h1, h2]
  · rw [List.all_eq_true]
    rintro ⟨p, n⟩ hx
    obtain ⟨k, hk⟩ := List.getElem?_of_mem hx
    rw [List.getElem?_zip_eq_some] at hk
    exact h k p n hk.1 hk.2

set_option maxRecDepth 100000 in
set_option maxHeartbeats 1600000 in
theorem matches_any (e : Ent) (tab : Int) (ks : List Nat) (ev kv : Value) (w : World) (he : EntV w ev e) (hk : NRow w kv ks) (hpl : e.pats.length ≤ 1000000) :
    Calls Try.prog 15 #[ev, .int .i64 tab, kv] w fun r w' => r = .returned (.bool (matB e tab ks)) ∧ Below w.heap.size w w' := by
  obtain ⟨pv, av, rfl, hp, ha⟩ := he
  obtain ⟨pp, pc, rfl, p1, p2⟩ := hp.shape
  obtain ⟨kp, kc, rfl, k1, k2⟩ := hk.shape
  obtain ⟨ap, ac, rfl, a1, a2⟩ := ha.shape
  obtain ⟨tb, pats, ln, pr, act, args⟩ := e
  simp only at hp ha p1 p2 a1 a2 hpl ⊢
  have HP := Lib.hid hp
  have HK := Lib.hid hk
  clear hp hk ha
  by_cases h1 : tb = tab
  · subst h1
    by_cases h2 : pats.length = ks.length
    · have HT : Hid ((∀ (k : Nat) (p : Pt) (n : Nat), pats[k]? = some p → ks[k]? = some n → agr p n = true) → matB ⟨tb, pats, ln, pr, act, args⟩ tb ks = true) := fun h => matB_yes rfl h2 h
      have HF : Hid (∀ (k n : Nat) (p : Pt), pats[k]? = some p → ks[k]? = some n → agr p n = false → matB ⟨tb, pats, ln, pr, act, args⟩ tb ks = false) := fun k n p q1 q2 q3 => matB_not q1 q2 q3
      obtain ⟨n, hn⟩ : ∃ n, n = pats.length := ⟨_, rfl⟩
      have hn2 : n = ks.length := hn.trans h2
      rw [← hn] at hpl p1 ⊢
      rw [← hn2] at k1 ⊢
      have HN := Lib.hid hn
      have HN2 := Lib.hid hn2
      have hpc : (n : Int) ≤ (pc : Int) := by omega
      clear hn hn2 h2
      go_enter Try.func15, Try.ntmps15
      go_wp2_with fail
      have HB0 : Hid (Below w.heap.size w (w.alloc (.cells #[.int .i64 tb, .slice pp n pc, .int .i64 ln, .int .i64 pr, .int .i64 act, .slice ap args.length ac] 60))) := (by repeat (first | exact Below.refl _ _ | assumption | refine Below.drew ?_ | refine Below.alloc ?_ (by first | omega | (simp <;> omega)) _ | refine Below.setCell ?_ (by first | omega | (simp <;> omega)) _ | refine Below.trans ?_ (Below.mono (by assumption) (by first | omega | (simp <;> omega)))))
      go_loopw [7, 8, 24] (fun u v i wr => ∃ k : Nat, k ≤ n ∧ i = .int .i64 k ∧ Hid (∀ (j : Nat) (p : Pt) (x : Nat), j < k → pats[j]? = some p → ks[j]? = some x → agr p x = true) ∧ Hid (Below w.heap.size w wr)) (fun _ _ i _ => n - (intOf i).toNat)
      case atStart => exact ⟨0, by omega, rfl, fun j _ _ h => absurd h (by omega), HB0.out⟩
      case round =>
        clear HB0
        obtain ⟨k, hkn, rfl, HJ, HW⟩ := hrel
        by_cases hlt : k < n
        · obtain ⟨p, hp⟩ : ∃ p, pats[k]? = some p := ⟨_, List.getElem?_eq_getElem (by have := HN.out; omega)⟩
          obtain ⟨x, hx⟩ : ∃ x, ks[k]? = some x := ⟨_, List.getElem?_eq_getElem (by have := HN2.out; omega)⟩
          obtain ⟨pb, po, pc', hpe, hpb, ⟨pv0, pc0, pc1⟩, ⟨pm0, pc2, pc3⟩⟩ := (HP.out.below keepP HW.out).at hp
          obtain ⟨kb, ko, kc', hke, hkb, kx0, kc0, kc1⟩ := (HK.out.below keepN HW.out).at hx
          simp only [Value.slice.injEq] at hpe hke
          obtain ⟨rfl, -, -⟩ := hpe
          obtain ⟨rfl, -, -⟩ := hke
          obtain ⟨v, m⟩ := p
          simp only at pv0 pc0 pc1 pm0 pc2 pc3
          have HC : Hid (∀ W, Calls Try.prog 31 #[.agg #[.int .u64 ((v / B : Nat) : Int), .int .u64 ((v % B : Nat) : Int), .int .u64 ((m / B : Nat) : Int), .int .u64 ((m % B : Nat) : Int)], .agg #[.int .u64 ((x / B : Nat) : Int), .int .u64 ((x % B : Nat) : Int)]] W fun e w' => e = .returned (.bool (agr ⟨v, m⟩ x)) ∧ Below W.heap.size W w') := fun W => agrees_any ⟨v, m⟩ x W kx0 pv0 pm0
          obtain ⟨q0, e0⟩ : ∃ q : Int, q = ((v / B : Nat) : Int) := ⟨_, rfl⟩
          obtain ⟨q1, e1⟩ : ∃ q : Int, q = ((v % B : Nat) : Int) := ⟨_, rfl⟩
          obtain ⟨q2, e2⟩ : ∃ q : Int, q = ((m / B : Nat) : Int) := ⟨_, rfl⟩
          obtain ⟨q3, e3⟩ : ∃ q : Int, q = ((m % B : Nat) : Int) := ⟨_, rfl⟩
          obtain ⟨q4, e4⟩ : ∃ q : Int, q = ((x / B : Nat) : Int) := ⟨_, rfl⟩
          obtain ⟨q5, e5⟩ : ∃ q : Int, q = ((x % B : Nat) : Int) := ⟨_, rfl⟩
          rw [← e0, ← e1, ← e2, ← e3, ← e4, ← e5] at HC
          rw [← e0] at pc0
          rw [← e1] at pc1
          rw [← e2] at pc2
          rw [← e3] at pc3
          rw [← e4] at kc0
          rw [← e5] at kc1
          have HPK := Lib.hid (And.intro hp hx)
          obtain ⟨r, hr⟩ : ∃ r, r = agr ⟨v, m⟩ x := ⟨_, rfl⟩
          rw [← hr] at HC
          have HR := Lib.hid hr
          clear e0 e1 e2 e3 e4 e5 hp hx pv0 pm0 kx0 hr
          have z1 : (k : Int) < (n : Int) := by omega
          go_wp2_with fail
          have hbx : Below wr.heap.size wr (wr.alloc (.cells #[.int .u64 q0, .int .u64 q1, .int .u64 q2, .int .u64 q3] 85)) := (by repeat (first | exact Below.refl _ _ | assumption | refine Below.drew ?_ | refine Below.alloc ?_ (by first | omega | (simp <;> omega)) _ | refine Below.setCell ?_ (by first | omega | (simp <;> omega)) _ | refine Below.trans ?_ (Below.mono (by assumption) (by first | omega | (simp <;> omega)))))
          generalize hX : wr.alloc (.cells #[.int .u64 q0, .int .u64 q1, .int .u64 q2, .int .u64 q3] 85) = X at hbx
          have x0 : X.cell? ⟨wr.heap.size, 0, none⟩ = some (.int .u64 q0) := by rw [← hX]; simp [go_sem]
          have x1 : X.cell? ⟨wr.heap.size, 1, none⟩ = some (.int .u64 q1) := by rw [← hX]; simp [go_sem]
          have x2 : X.cell? ⟨wr.heap.size, 2, none⟩ = some (.int .u64 q2) := by rw [← hX]; simp [go_sem]
          have x3 : X.cell? ⟨wr.heap.size, 3, none⟩ = some (.int .u64 q3) := by rw [← hX]; simp [go_sem]
          have x4 := (hbx.cell (cell_there kc0).1).trans kc0
          have x5 := (hbx.cell (cell_there kc1).1).trans kc1
          have hx := Lib.hid (And.intro (below_drewN hbx 1) (And.intro x0 (And.intro x1 (And.intro x2 (And.intro x3 (And.intro x4 x5))))))
          have z0 : (0 : Int) ≤ (k : Int) := by omega
          clear hX hbx kc0 kc1 pc0 pc1 pc2 pc3
          go_region_held3 (fun Wk => Below (wr.heap.size) (wr) Wk ∧ Wk.cell? ⟨wr.heap.size, 0, none⟩ = some (.int .u64 q0) ∧ Wk.cell? ⟨wr.heap.size, 1, none⟩ = some (.int .u64 q1) ∧ Wk.cell? ⟨wr.heap.size, 2, none⟩ = some (.int .u64 q2) ∧ Wk.cell? ⟨wr.heap.size, 3, none⟩ = some (.int .u64 q3) ∧ Wk.cell? ⟨kb, ko + k * 2, none⟩ = some (.int .u64 q4) ∧ Wk.cell? ⟨kb, ko + k * 2 + 1, none⟩ = some (.int .u64 q5))
            (first | exact hx.out | exact held_6_0 hb1 (by assumption) | assumption)
            (first
            | (go_at_call 31; (with_reducible refine (HC.out _).mono ?_); rintro e w1 ⟨rfl, hb1⟩))
          rename_i hS
          have HW1 : Hid (Below w.heap.size w w1) := HW.out.trans (hS.1.mono HW.out.size)
          clear hS x0 x1 x2 x3 x4 x5 hx hb1 HW HC
          cases r
          · go_wp2_with fail
            go_ret
            exact ⟨by rw [HF.out k x ⟨v, m⟩ HPK.out.1 HPK.out.2 HR.out.symm]; rfl, HW1.out⟩
          · go_wp2_with fail
            go_roundw
            case rel => exact ⟨k + 1, by omega, by go_num, fun j p' x' hj h1 h2 => by
              by_cases e : j = k
              · subst e
                rw [HPK.out.1] at h1
                rw [HPK.out.2] at h2
                cases h1
                cases h2
                exact HR.out.symm
              · exact HJ.out j p' x' (by omega) h1 h2, HW1⟩
            case measure => simp [intOf]; omega
        · obtain rfl : k = n := by omega
          go_wp2_with fail
          go_ret
          exact ⟨by rw [HT.out fun k p x q1 q2 => HJ.out k p x (by have := (List.getElem?_eq_some_iff.1 q1).1; have := HN.out; omega) q1 q2]; rfl, HW.out⟩
    · have HE : Hid (matB ⟨tb, pats, ln, pr, act, args⟩ tb ks = false) := matB_len h2
      have hne : ¬ ((pats.length : Nat) : Int) = ((ks.length : Nat) : Int) := by omega
      clear h2
      go_enter Try.func15, Try.ntmps15
      go_wp2_with fail
      go_ret
      exact ⟨by rw [HE.out]; rfl, (by repeat (first | exact Below.refl _ _ | assumption | refine Below.drew ?_ | refine Below.alloc ?_ (by first | omega | (simp <;> omega)) _ | refine Below.setCell ?_ (by first | omega | (simp <;> omega)) _ | refine Below.trans ?_ (Below.mono (by assumption) (by first | omega | (simp <;> omega)))))⟩
  · have HE : Hid (matB ⟨tb, pats, ln, pr, act, args⟩ tab ks = false) := matB_tab h1
    go_enter Try.func15, Try.ntmps15
    go_wp2_with fail
    go_ret
    exact ⟨by rw [HE.out]; rfl, (by repeat (first | exact Below.refl _ _ | assumption | refine Below.drew ?_ | refine Below.alloc ?_ (by first | omega | (simp <;> omega)) _ | refine Below.setCell ?_ (by first | omega | (simp <;> omega)) _ | refine Below.trans ?_ (Below.mono (by assumption) (by first | omega | (simp <;> omega)))))⟩

end Go.Proofs.Ytnknpgfconfgjaa

/-
  The plain law of tables: the order of a table's entries; the one that is chosen.
-/
namespace Go.Proofs.Ytnknpgfconfgjaa
open Stab

def eAt (l : List Ent) (x : Int) : Ent := l.getD x.toNat ⟨0, [], 0, 0, 0, []⟩
theorem eAt_nat (l : List Ent) (k : Nat) (h : k < l.length) : l[k]? = some (eAt l k) := by
  unfold eAt; simp [List.getElem?_eq_getElem h, List.getD_eq_getElem?_getD]
/-- Does entry x go ahead of entry y? -/
def lts (l : List Ent) (x y : Int) : Bool := ahd (eAt l x).prio (eAt l x).len (eAt l y).prio (eAt l y).len
/-- The strict total order of a list's places. -/
def tot (l : List Ent) (x y : Int) : Bool := lts l x y || (decide ((eAt l x).prio = (eAt l y).prio ∧ (eAt l x).len = (eAt l y).len) && decide (x < y))
theorem tot_iff {l : List Ent} {x y : Int} : tot l x y = true ↔ ((eAt l y).prio < (eAt l x).prio ∨ ((eAt l x).prio = (eAt l y).prio ∧ ((eAt l y).len < (eAt l x).len ∨ ((eAt l x).len = (eAt l y).len ∧ x < y)))) := by
  unfold tot lts ahd
  simp only [Bool.or_eq_true, Bool.and_eq_true, decide_eq_true_eq]
  constructor
  · rintro ((h | ⟨h1, h2⟩) | ⟨⟨h1, h2⟩, h3⟩) <;> omega
  · intro h
    by_cases h1 : (eAt l y).prio < (eAt l x).prio
    · exact .inl (.inl h1)
    · by_cases h2 : (eAt l y).len < (eAt l x).len
      · exact .inl (.inr ⟨by omega, h2⟩)
      · exact .inr ⟨⟨by omega, by omega⟩, by omega⟩
theorem tot_ord (l : List Ent) : Ord (tot l) where
  irr := fun x => by
    cases h : tot l x x
    · rfl
    · rw [tot_iff] at h; omega
  tr := fun x y z h1 h2 => by rw [tot_iff] at *; omega
  tot := fun x y h1 h2 => by
    rw [tot_iff]
    have h3 : ¬ tot l x y = true := by rw [h2]; decide
    rw [tot_iff] at h3
    omega
theorem lts_iff {l : List Ent} {x y : Int} : lts l x y = true ↔ ((eAt l y).prio < (eAt l x).prio ∨ ((eAt l x).prio = (eAt l y).prio ∧ (eAt l y).len < (eAt l x).len)) := by
  unfold lts ahd
  simp only [Bool.or_eq_true, Bool.and_eq_true, decide_eq_true_eq]
theorem tot_lts {l : List Ent} {x y : Int} (h : x < y) : tot l y x = lts l y x := by
  rw [Bool.eq_iff_iff, tot_iff, lts_iff]; omega
/-- What the comparison tells. -/
def cmpE (l : List Ent) (x y : Int) : Int := if lts l x y then -1 else if lts l y x then 1 else 0
theorem cmpE_neg {l : List Ent} {x y : Int} : x < y → (cmpE l y x < 0 ↔ tot l y x = true) := by
  intro h
  rw [tot_lts h]
  unfold cmpE
  cases h1 : lts l y x
  · cases h2 : lts l x y <;> simp
  · simp

/-- The places of a table's entries. -/
def sel (l : List Ent) (tab : Int) : Nat → List Int
  | 0 => []
  | k + 1 => sel l tab k ++ (if (eAt l k).tab = tab then [(k : Int)] else [])
theorem mem_sel {l : List Ent} {tab x : Int} : ∀ {k : Nat}, x ∈ sel l tab k ↔ (0 ≤ x ∧ x < k ∧ (eAt l x).tab = tab)
  | 0 => by simp [sel]; omega
  | k + 1 => by
    unfold sel
    rw [List.mem_append, mem_sel (k := k)]
    by_cases h : (eAt l (k : Int)).tab = tab
    · rw [if_pos h, List.mem_singleton]
      constructor
      · rintro (⟨h1, h2, h3⟩ | rfl)
        · exact ⟨h1, by omega, h3⟩
        · exact ⟨by omega, by omega, h⟩
      · rintro ⟨h1, h2, h3⟩
        by_cases e : x = (k : Int)
        · exact .inr e
        · exact .inl ⟨h1, by omega, h3⟩
    · rw [if_neg h]
      constructor
      · rintro (⟨h1, h2, h3⟩ | h4)
        · exact ⟨h1, by omega, h3⟩
        · cases h4
      · rintro ⟨h1, h2, h3⟩
        by_cases e : x = (k : Int)
        · exact absurd h3 (by rw [e]; exact h)
        · exact .inl ⟨h1, by omega, h3⟩
theorem sel_len (l : List Ent) (tab : Int) : ∀ k, (sel l tab k).length ≤ k
  | 0 => by simp [sel]
  | k + 1 => by
    unfold sel
    have := sel_len l tab k
    rw [List.length_append]
    split <;> simp <;> omega
theorem sel_lt (l : List Ent) (tab : Int) {k p : Nat} (h : p < (sel l tab k).length) : 0 ≤ (sel l tab k).getD p 0 ∧ (sel l tab k).getD p 0 < k ∧ (eAt l ((sel l tab k).getD p 0)).tab = tab := by
  rw [List.getD_eq_getElem?_getD, List.getElem?_eq_getElem h, Option.getD_some]
  exact mem_sel.1 (List.getElem_mem h)
theorem getD_app1 {xs ys : List Int} {p : Nat} (h : p < xs.length) : (xs ++ ys).getD p 0 = xs.getD p 0 := by
  rw [List.getD_eq_getElem?_getD, List.getD_eq_getElem?_getD, List.getElem?_append_left h]
theorem getD_app2 {xs : List Int} {y : Int} : (xs ++ [y]).getD xs.length 0 = y := by
  rw [List.getD_eq_getElem?_getD, List.getElem?_append_right (Nat.le_refl _)]; simp
theorem sel_asc (l : List Ent) (tab : Int) : ∀ k p q, p < q → q < (sel l tab k).length → (sel l tab k).getD p 0 < (sel l tab k).getD q 0
  | 0 => fun p q _ h => by simp [sel] at h
  | k + 1 => fun p q h1 h2 => by
    unfold sel at h2 ⊢
    by_cases e : (eAt l (k : Int)).tab = tab
    · rw [if_pos e] at h2 ⊢
      rw [List.length_append, List.length_singleton] at h2
      by_cases hq : q < (sel l tab k).length
      · rw [getD_app1 hq, getD_app1 (by omega)]; exact sel_asc l tab k p q h1 hq
      · obtain rfl : q = (sel l tab k).length := by omega
        rw [getD_app2, getD_app1 h1]
        exact (sel_lt l tab h1).2.1
    · rw [if_neg e] at h2 ⊢
      rw [List.append_nil] at h2 ⊢
      exact sel_asc l tab k p q h1 h2

/-- A list as a function of places. -/
def fnOf (xs : List Int) : Nat → Int := fun i => xs.getD i 0
/-- The list is the table's entries in their order. -/
structure IsOrd (l : List Ent) (tab : Int) (xs : List Int) : Prop where
  len : xs.length = (sel l tab l.length).length
  srt : Srt (tot l) (fnOf xs) 0 xs.length
  same : Same (fnOf (sel l tab l.length)) (fnOf xs) 0 xs.length

theorem IsOrd.mem {l : List Ent} {tab x : Int} {xs : List Int} (h : IsOrd l tab xs) : x ∈ xs ↔ (0 ≤ x ∧ x < l.length ∧ (eAt l x).tab = tab) := by
  rw [← mem_sel]
  have hs := h.same x
  have key : ∀ ys : List Int, x ∈ ys ↔ ∃ i, 0 ≤ i ∧ i < ys.length ∧ fnOf ys i = x := fun ys => by
    rw [List.mem_iff_getElem]
    constructor
    · rintro ⟨i, hi, e⟩
      exact ⟨i, Nat.zero_le _, hi, by unfold fnOf; rw [List.getD_eq_getElem?_getD, List.getElem?_eq_getElem hi]; exact e⟩
    · rintro ⟨i, -, hi, e⟩
      exact ⟨i, hi, by unfold fnOf at e; rw [List.getD_eq_getElem?_getD, List.getElem?_eq_getElem hi] at e; exact e⟩
  rw [key xs, key (sel l tab l.length), ← h.len]
  exact hs.symm

theorem IsOrd.unique {l : List Ent} {tab : Int} {xs ys : List Int} (h : IsOrd l tab xs) (k : IsOrd l tab ys) : xs = ys := by
  have e : xs.length = ys.length := h.len.trans k.len.symm
  apply List.ext_getElem e
  intro i h1 h2
  have hs : Same (fnOf xs) (fnOf ys) 0 xs.length := h.same.symm.trans (by rw [e]; exact k.same)
  have := srt_unique (tot_ord l) (fnOf xs) (fnOf ys) xs.length h.srt (by rw [e]; exact k.srt) hs i h1
  unfold fnOf at this
  rw [List.getD_eq_getElem?_getD, List.getD_eq_getElem?_getD, List.getElem?_eq_getElem h1, List.getElem?_eq_getElem h2] at this
  exact this

end Go.Proofs.Ytnknpgfconfgjaa

/-
  A row of integers that is sorted in place: its memory; swaps; the insertion sort of slices.SortStableFunc.
-/
namespace Go.Proofs.Ytnknpgfconfgjaa
open Go.RowKit Stab

/-- Block g holds the integers f 0 .. f (n-1), and may be written. -/
def RowF (w : World) (g n : Nat) (f : Nat → Int) : Prop := ∀ i, i < n → w.cell? ⟨g, i, none⟩ = some (.int .i64 (f i)) ∧ w.frozen? ⟨g, i, none⟩ = false

/-- A world of the sort's: only block g, and what is new, has turned; the things of g are such as V says. -/
structure SWd (V : Int → Prop) (w0 : World) (g n : Nat) (f : Nat → Int) (w : World) : Prop where
  row : RowF w g n f
  gr : w0.grownBy w (some g)
  hg : g < w0.heap.size
  val : ∀ i, i < n → V (f i)

theorem grown_below {a w w1 : World} {r : Option Nat} (h : a.grownBy w r) (hb : Below w.heap.size w w1) : a.grownBy w1 r :=
  ⟨hb.os.trans h.os, hb.tape.trans h.tape, hb.output.trans h.output, Nat.le_trans h.size hb.size, fun i hi hn => (hb.block i (Nat.lt_of_lt_of_le hi h.size)).trans (h.block i hi hn)⟩

theorem SWd.glt {V : Int → Prop} {w0 w : World} {g n : Nat} {f : Nat → Int} (h : SWd V w0 g n f w) : g < w.heap.size := Nat.lt_of_lt_of_le h.hg h.gr.size
theorem SWd.below {V : Int → Prop} {w0 w w1 : World} {g n : Nat} {f : Nat → Int} (h : SWd V w0 g n f w) (hb : Below w.heap.size w w1) : SWd V w0 g n f w1 :=
  ⟨fun i hi => ⟨(hb.cell (p := ⟨g, i, none⟩) h.glt).trans (h.row i hi).1, (hb.frozen (p := ⟨g, i, none⟩) h.glt).trans (h.row i hi).2⟩, grown_below h.gr hb, h.hg, h.val⟩
theorem SWd.drewN {V : Int → Prop} {w0 w : World} {g n : Nat} {f : Nat → Int} (h : SWd V w0 g n f w) (k : Nat) : SWd V w0 g n f (w.drewN k) :=
  ⟨h.row, ⟨h.gr.os, h.gr.tape, h.gr.output, h.gr.size, h.gr.block⟩, h.hg, h.val⟩
theorem SWd.cell {V : Int → Prop} {w0 w : World} {g n : Nat} {f : Nat → Int} (h : SWd V w0 g n f w) (i : Nat) (hi : i < n) : w.cell? ⟨g, i, none⟩ = some (.int .i64 (f i)) := (h.row i hi).1
theorem SWd.free {V : Int → Prop} {w0 w : World} {g n : Nat} {f : Nat → Int} (h : SWd V w0 g n f w) (i : Nat) (hi : i < n) : w.frozen? ⟨g, i, none⟩ = false := (h.row i hi).2
/-- Two places change their things. -/
theorem SWd.swapped {V : Int → Prop} {w0 w : World} {g n : Nat} {f : Nat → Int} (h : SWd V w0 g n f w) (i j : Nat) (hi : i < n) (hj : j < n) :
    SWd V w0 g n (swp f i j) ((w.setCell ⟨g, i, none⟩ (.int .i64 (f j))).setCell ⟨g, j, none⟩ (.int .i64 (f i))) := by
  refine ⟨fun k hk => ⟨?_, ?_⟩, ?_, h.hg, fun k hk => ?_⟩
  · by_cases e2 : k = j
    · subst e2
      have hs : ∃ u, (w.setCell ⟨g, i, none⟩ (.int .i64 (f k))).cell? ⟨g, k, none⟩ = some u := by
        by_cases e : i = k
        · subst e; exact ⟨_, World.cell?_setCell_same _ _ _ (h.cell i hi)⟩
        · exact ⟨_, (World.cell?_setCell_other _ _ _ _ (by intro e'; simp only [Addr.mk.injEq] at e'; omega)).trans (h.cell k hk)⟩
      obtain ⟨u, hu⟩ := hs
      rw [World.cell?_setCell_same _ _ _ hu]
      unfold swp
      by_cases e : k = i
      · rw [if_pos e, e]
      · rw [if_neg e, if_pos rfl]
    · rw [World.cell?_setCell_other _ _ _ _ (by intro e'; simp only [Addr.mk.injEq] at e'; omega)]
      by_cases e1 : k = i
      · subst e1
        rw [World.cell?_setCell_same _ _ _ (h.cell k hk)]
        unfold swp; rw [if_pos rfl]
      · rw [World.cell?_setCell_other _ _ _ _ (by intro e'; simp only [Addr.mk.injEq] at e'; omega), h.cell k hk]
        unfold swp; rw [if_neg e1, if_neg e2]
  · rw [World.frozen?_setCell, World.frozen?_setCell]; exact h.free k hk
  · refine ⟨h.gr.os, h.gr.tape, h.gr.output, by simpa [World.setCell] using h.gr.size, fun b hb hne => ?_⟩
    have hgb : b ≠ g := fun e => hne (by rw [e])
    rw [Below.heap_setCell _ _ _ b (by exact hgb), Below.heap_setCell _ _ _ b (by exact hgb)]
    exact h.gr.block b hb hne
  · unfold swp
    split
    · exact h.val j hj
    · split
      · exact h.val i hi
      · exact h.val k hk
theorem SWd.c2 {V : Int → Prop} {w0 w : World} {g n : Nat} {f : Nat → Int} (h : SWd V w0 g n f w) (i j : Nat) (hi : i < n) (hj : j < n) (hij : i ≠ j) (v : Value) : (w.setCell ⟨g, i, none⟩ v).cell? ⟨g, j, none⟩ = some (.int .i64 (f j)) :=
  (World.cell?_setCell_other _ _ _ _ (by intro e'; simp only [Addr.mk.injEq] at e'; omega)).trans (h.cell j hj)

/-- What is asked of the comparison: function c bound to cb: of any two things it says whether the first goes ahead. -/
structure CmpOk (V : Int → Prop) (w0 : World) (g c : Nat) (cb : Array Value) (cf : Int → Int → Int) : Prop where
  call : ∀ (av : Array Value) (W : World), (callFunc c av).run Try.prog W = .ok (.enter c av) W
  con : ∀ W, w0.grownBy W (some g) → ∀ x y, V x → V y → Calls Try.prog c (#[.int .i64 x, .int .i64 y] ++ cb) W fun e w' => e = .returned (.int .i64 (cf x y)) ∧ Below W.heap.size W w'

def SOk (V : Int → Prop) (w0 : World) (g n : Nat) (R : (Nat → Int) → Prop) (e : Ending) (w' : World) : Prop := e = .returned (.tuple #[]) ∧ ∃ f, SWd V w0 g n f w' ∧ R f

set_option maxRecDepth 100000 in
set_option maxHeartbeats 1600000 in
theorem ins_any (V : Int → Prop) (L : Int → Int → Bool) (hO : Ord L) (w0 : World) (g n cap c : Nat) (cb : Array Value) (cf : Int → Int → Int) (hC : CmpOk V w0 g c cb cf) (hlt : ∀ x y, x < y → (cf y x < 0 ↔ L y x = true))
    (a b : Nat) (f : Nat → Int) (w : World) (hab : a ≤ b) (hbn : b ≤ n) (hn : n ≤ 1000000) (hasc : ∀ p q, a ≤ p → p < q → q < b → f p < f q) (S : SWd V w0 g n f w) :
    Calls Try.prog 76 #[.slice (some ⟨g, 0, none⟩) n cap, .int .i64 a, .int .i64 b, .func (.func c) #[] cb] w (SOk V w0 g n (fun f' => MrgOk L f f' a b)) := by
  have HC := Lib.hid hC
  have HL := Lib.hid hlt
  have HA := Lib.hid hasc
  have HS := Lib.hid S
  have hcall := hC.call
  clear hC hlt hasc S
  go_enter Try.func76, Try.ntmps76
  go_wp2
  go_loopg [8] (b - a) (fun g1 vi wr => ∃ (i : Nat) (fk : Nat → Int), vi = .int .i64 i ∧ a < i ∧ (i ≤ b ∨ i = a + 1) ∧ b + 1 - i ≤ g1 + 1 ∧ Hid (SWd V w0 g n fk wr) ∧ Hid (Ins L f fk a i))
  case atStart => exact ⟨a + 1, f, by go_num, by omega, by omega, by omega, HS, Ins.start L f a⟩
  case round =>
    clear HS
    obtain ⟨i, fk, rfl, hai, hib, hg1, HS, HI⟩ := hrel
    by_cases hlt : i < b
    · go_wp2
      go_loopg [9] i (fun g2 vj wr2 => ∃ (j : Nat) (fj : Nat → Int), vj = .int .i64 j ∧ a ≤ j ∧ j ≤ i ∧ j ≤ g2 ∧ Hid (SWd V w0 g n fj wr2) ∧ Hid (InsI L f fj a i j))
      case atStart => exact ⟨i, fk, rfl, by omega, Nat.le_refl _, Nat.le_refl _, HS, HI.out.inner (by omega) hlt HA.out⟩
      case round =>
        clear HS HI
        obtain ⟨j, fj, rfl, haj, hji, hg2, HS, HI⟩ := hrel
        by_cases hja : a < j
        · obtain ⟨jp, rfl⟩ : ∃ jp, j = jp + 1 := ⟨j - 1, by omega⟩
          have hjaz : (a : Int) < (jp : Int) + 1 := by omega
          have l1 := HS.out.cell (jp + 1) (by omega)
          have l2 := HS.out.cell jp (by omega)
          have f1 := HS.out.free (jp + 1) (by omega)
          have f2 := HS.out.free jp (by omega)
          have v1 := HS.out.val (jp + 1) (by omega)
          have v2 := HS.out.val jp (by omega)
          have hl := HI.out.less jp (by omega) (by omega) (by omega)
          have hcc := fun W hW => HC.out.con W hW (fj (jp + 1)) (fj jp) v1 v2
          have HX : Hid (L (fj (jp + 1)) (fj jp) = true ↔ cf (fj (jp + 1)) (fj jp) < 0) := (HL.out _ _ hl).symm
          have HW : Hid (∀ W, Below wr.heap.size wr W → w0.grownBy W (some g)) := fun W hW => grown_below HS.out.gr hW
          clear v1 v2 hl
          have q0 : (0 : Int) ≤ (jp : Int) + 1 := by omega
          have q1 : (jp : Int) + 1 < (n : Int) := by omega
          have q2 : (jp : Int) < (n : Int) := by omega
          have q3 : ((jp : Int) + 1).toNat = jp + 1 := by omega
          have q4 : (0 : Int) ≤ (jp : Int) := by omega
          have q5 : IntKind.i64.wrap (jp : Int) = (jp : Int) := by rw [IntKind.wrap_i64]; omega
          obtain ⟨x, hx⟩ : ∃ x, x = fj (jp + 1) := ⟨_, rfl⟩
          obtain ⟨y, hy⟩ : ∃ y, y = fj jp := ⟨_, rfl⟩
          rw [← hx, ← hy] at hcc HX
          rw [← hx] at l1
          rw [← hy] at l2
          have Hx := Lib.hid hx
          have Hy := Lib.hid hy
          have hcc' := Lib.hid hcc
          clear hx hy hcc
          go_wp2_with fail
          go_region_held3 (fun Wk => Below (wr.heap.size) (wr) Wk ∧ Wk.cell? ⟨g, jp + 1, none⟩ = some (.int .i64 x) ∧ Wk.cell? ⟨g, jp, none⟩ = some (.int .i64 y))
            (first | exact ⟨below_drewN (Below.refl _ _) 1, l1, l2⟩ | exact held_2_0 hb1 (by assumption) | go_keep)
            (((with_reducible refine (hcc'.out _ (HW.out _ (And.left (by assumption)))).mono ?_); rintro e w1 ⟨rfl, hb1⟩))
          rename_i hS1
          have HS1 : Hid (SWd V w0 g n fj w1) := HS.out.below hS1.1
          clear hS1 l1 l2 f1 f2 HS HW hcc'
          by_cases hv : cf x y < 0
          · have l1 := HS1.out.cell (jp + 1) (by omega)
            have l2 := HS1.out.cell jp (by omega)
            have f1 := HS1.out.free (jp + 1) (by omega)
            have f2 := HS1.out.free jp (by omega)
            have l3 := HS1.out.c2 (jp + 1) jp (by omega) (by omega) (by omega) (.int .i64 y)
            have HS2 := Lib.hid (HS1.out.swapped (jp + 1) jp (by omega) (by omega))
            rw [← Hx.out, ← Hy.out] at HS2
            rw [← Hx.out] at l1
            rw [← Hy.out] at l2 l3
            clear HS1
            go_wp2_with fail
            go_big_region
            have HS3 : Hid (SWd V w0 g n (swp fj (jp + 1) jp) (((w1.setCell ⟨g, jp + 1, none⟩ (.int .i64 y)).setCell ⟨g, jp, none⟩ (.int .i64 x)).drew)) := HS2.out.drewN 1
            clear l1 l2 l3 f1 f2 HS2
            go_wp2
            go_roundg jp
            case measure => omega
            case rel => exact ⟨jp, _, by first | rfl | go_num, by omega, by omega, Nat.le_refl _, HS3, HI.out.step (by omega) (by simp only [Nat.add_sub_cancel]; rw [← Hx.out, ← Hy.out]; exact HX.out.2 hv) hO⟩
          · go_wp2
            go_roundg (b - (i + 1))
            case measure => omega
            case rel => exact ⟨i + 1, fj, by go_num, by omega, by omega, by omega, HS1, HI.out.done hO (.inr (by simp only [Nat.add_sub_cancel]; rw [← Hx.out, ← Hy.out]; cases hq : L x y; rfl; have hz := HX.out.1 hq; exfalso; omega))⟩
        · have hjaz : decide ((j : Int) > (a : Int)) = false := decide_eq_false (by omega)
          have hjaz' : ¬ (a : Int) < (j : Int) := by omega
          go_wp2_with fail
          go_big_region
          have HS1 : Hid (SWd V w0 g n fj wr.drew) := HS.out.drewN 1
          clear HS
          go_wp2
          go_roundg (b - (i + 1))
          case measure => omega
          case rel => exact ⟨i + 1, fj, by go_num, by omega, by omega, by omega, HS1, HI.out.done hO (.inl (by omega))⟩
    · go_wp2
      go_end0
      exact ⟨rfl, fk, HS.out, HI.out.last (by omega) (by omega)⟩

end Go.Proofs.Ytnknpgfconfgjaa
