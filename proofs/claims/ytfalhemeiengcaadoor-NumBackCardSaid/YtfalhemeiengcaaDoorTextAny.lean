/-
  num.Text at any number.
-/
import Derived.Test.YtfalhemeiengcaaDoorNumText
import Derived.Test.YtfalhemeiengcaaDoorDivA
namespace Go.Proofs.YtfalhemeiengcaaDoor
open Go.RowKit Go.Maps Go.Lib

theorem div_all (r l : Nat) (hr : r < 10) (hl : l < 18446744073709551616) (w : World) : Calls Tryd.prog 48 #[.int .u64 (r : Int), .int .u64 (l : Int), .int .u64 10] w fun e w' => e = .returned (.tuple #[.int .u64 (((r * 18446744073709551616 + l) / 10 : Nat) : Int), .int .u64 (((r * 18446744073709551616 + l) % 10 : Nat) : Int)]) ∧ Below w.heap.size w w' := by
  by_cases h : r = 0
  · subst h
    rw [Nat.zero_mul, Nat.zero_add]
    exact div_low l hl w
  · exact div_ten r l (by omega) hr hl w

/-- What is left behind k digits; the digits. -/
def nN (n k : Nat) : Nat := n / 10 ^ k
def dN (n : Nat) : Nat → List UInt8
  | 0 => []
  | k + 1 => UInt8.ofNat (48 + nN n k % 10) :: dN n k
theorem nN_zero (n : Nat) : nN n 0 = n := by unfold nN; simp
theorem nN_next (n k : Nat) : nN n (k + 1) = nN n k / 10 := by unfold nN; rw [Nat.pow_succ, ← Nat.div_div_eq_div_mul]
theorem nN_le (n k : Nat) : nN n k ≤ n := Nat.div_le_self _ _
theorem dN_length (n : Nat) : ∀ k, (dN n k).length = k
  | 0 => rfl
  | k + 1 => by simp [dN, dN_length n k]
/-- The number of a number's digits. -/
def IsLen (n K : Nat) : Prop := 1 ≤ K ∧ K ≤ 39 ∧ nN n K = 0 ∧ ∀ k, 1 ≤ k → k < K → 0 < nN n k
theorem len_any (n : Nat) (hn : n < B * B) : ∃ K, IsLen n K := by
  by_cases hx : ∃ K, IsLen n K
  · exact hx
  · have key : ∀ j, 1 ≤ j → j ≤ 39 → 0 < nN n j := by
      intro j
      induction j using Nat.strongRecOn with
      | ind j ih =>
        intro j1 j2
        by_cases q : nN n j = 0
        · exact absurd ⟨j, j1, j2, q, fun i i1 i2 => ih i i2 i1 (by omega)⟩ hx
        · omega
    have h39 := key 39 (by decide) (by decide)
    have e : nN n 39 = 0 := by
      unfold nN
      refine Nat.div_eq_of_lt (Nat.lt_of_lt_of_le hn ?_)
      rw [BB_pow2]; decide
    omega

def lenV : Value → Nat
  | .slice _ n _ => n
  | _ => 0
def TxJ (n : Nat) (w : World) (k : Nat) (wr : World) : Prop :=
  wr.heap[w.heap.size]? = some (.cells #[.int .u64 ((nN n k / B : Nat) : Int), .int .u64 ((nN n k % B : Nat) : Int)] 24 (0, 0)) ∧ Below w.heap.size w wr

set_option maxRecDepth 100000 in
set_option maxHeartbeats 8000000 in
theorem text_any (n K : Nat) (hn : n < B * B) (hK : IsLen n K) (w : World) : Calls Tryd.prog 8 #[numV n] w fun e w' => e = .returned (.string ⟨(dN n K).toArray⟩) ∧ Below w.heap.size w w' := by
  obtain ⟨ya, za, ea, qa1, qa0⟩ := numV_parts n
  obtain ⟨K1, K39, KE, KP⟩ := hK
  have HKE := Lib.hid KE
  have HKP := Lib.hid KP
  rw [ea]
  have HQ := Lib.hid (And.intro qa1 qa0)
  have HN := Lib.hid hn
  clear ea qa1 qa0 KE KP hn
  obtain ⟨i0, hi0, hz0, hz1, hz2⟩ := info_parts infoU8
  go_enter Tryd.func8, Tryd.ntmps8
  go_wp2_with fail
  go_loopw [3] (fun v wr => ∃ k : Nat, k ≤ K ∧ Hid (RowB wr w.heap.size v (dN n k)) ∧ Hid (TxJ n w k wr)) (fun v _ => K - lenV v)
  case atStart =>
    refine ⟨0, Nat.zero_le _, .inl ⟨rfl, rfl⟩, ?_, (by repeat (first | exact Below.refl _ _ | assumption | refine Below.drew ?_ | refine Below.alloc ?_ (by first | omega | (simp <;> omega)) _ | refine Below.setCell ?_ (by first | omega | (simp <;> omega)) _ | refine Below.trans ?_ (Below.mono (by assumption) (by first | omega | (simp <;> omega)))))⟩
    rw [heap_new, nN_zero, HQ.out.1, HQ.out.2]
  case round =>
    obtain ⟨k, hk, HR, HX⟩ := hrel
    obtain ⟨x1, x2⟩ := HX.out
    have c0 : wr.cell? ⟨w.heap.size, 0, none⟩ = some (.int .u64 ((nN n k / B : Nat) : Int)) := by simp [World.cell?, x1]
    have c1 : wr.cell? ⟨w.heap.size, 1, none⟩ = some (.int .u64 ((nN n k % B : Nat) : Int)) := by simp [World.cell?, x1]
    have f0 : ∀ j, wr.frozen? ⟨w.heap.size, j, none⟩ = false := fun j => by simp [World.frozen?, x1]
    have hlw := lt_of_block x1
    by_cases h20 : k < K
    · have HPS : Hid (k = 0 ∨ 0 < nN n k) := by
        show _ ∨ _
        by_cases q : k = 0
        · exact .inl q
        · exact .inr (HKP.out k (by omega) h20)
      obtain ⟨hi, hhi⟩ : ∃ x, nN n k / B = x := ⟨_, rfl⟩
      obtain ⟨lo, hlo⟩ : ∃ x, nN n k % B = x := ⟨_, rfl⟩
      obtain ⟨h2, hh2⟩ : ∃ x, hi / 10 = x := ⟨_, rfl⟩
      obtain ⟨rs, hrs⟩ : ∃ x, hi % 10 = x := ⟨_, rfl⟩
      obtain ⟨m, hm⟩ : ∃ x, (rs * 18446744073709551616 + lo) / 10 = x := ⟨_, rfl⟩
      obtain ⟨d, hd⟩ : ∃ x, (rs * 18446744073709551616 + lo) % 10 = x := ⟨_, rfl⟩
      have hkl : nN n k < B * B := Nat.lt_of_le_of_lt (nN_le n k) HN.out
      have hlB : lo < 18446744073709551616 := by rw [← hlo]; exact Nat.mod_lt _ B_pos
      have hiB : hi < 18446744073709551616 := by rw [← hhi]; exact half_lt hkl
      have hsp : nN n k = hi * 18446744073709551616 + lo := by rw [← hhi, ← hlo]; exact (Nat.div_add_mod' _ _).symm
      have hmB : m < 18446744073709551616 := by omega
      have hd10 : d < 10 := by omega
      have hmd : d = nN n k % 10 := by omega
      have hnx : nN n (k + 1) = h2 * 18446744073709551616 + m := by rw [nN_next n]; omega
      have hx1 : nN n (k + 1) / B = h2 := by rw [hnx, show (18446744073709551616 : Nat) = B from rfl, Nat.add_comm, Nat.add_mul_div_right _ _ B_pos, Nat.div_eq_of_lt (show m < B from hmB), Nat.zero_add]
      have hx2 : nN n (k + 1) % B = m := by rw [hnx, show (18446744073709551616 : Nat) = B from rfl, Nat.add_comm, Nat.add_mul_mod_self_right, Nat.mod_eq_of_lt (show m < B from hmB)]
      have HD : Hid (∀ W, Calls Tryd.prog 48 #[.int .u64 (rs : Int), .int .u64 (lo : Int), .int .u64 10] W fun e w' => e = .returned (.tuple #[.int .u64 (m : Int), .int .u64 (d : Int)]) ∧ Below W.heap.size W w') := fun W => by rw [← hm, ← hd]; exact div_all rs lo (by omega) hlB W
      have q1 : IntKind.u64.wrap ((hi : Int) / 10) = (h2 : Int) := by
        show ((hi : Int) / 10) % 18446744073709551616 = _
        omega
      have q3 : (hi : Int) % 10 = (rs : Int) := by omega
      have q4 : IntKind.u64.wrap (48 + (d : Int)) = 48 + (d : Int) := by
        show (48 + (d : Int)) % 18446744073709551616 = _
        omega
      have q5 : IntKind.u8.wrap (48 + (d : Int)) = 48 + (d : Int) := by
        show (48 + (d : Int)) % 256 = _
        omega
      have HNQ : Hid (∃ t : Bool, (t = false → k = 0) ∧ ∀ W, (Go.binOp .neq 24 (.agg #[.int .u64 (hi : Int), .int .u64 (lo : Int)]) (.agg #[.int .u64 0, .int .u64 0])).run Tryd.prog W = .ok (.bool t) W) := by
        show ∃ t : Bool, _
        by_cases q : hi = 0 ∧ lo = 0
        · refine ⟨false, fun _ => ?_, fun W => ?_⟩
          · rcases HPS.out with z | z
            · exact z
            · omega
          · rw [q.1, q.2]; exact neq_num1 W
        · refine ⟨true, fun z => (by cases z), fun W => neq_num0 (hi : Int) (lo : Int) (by omega) W⟩
      rw [hhi] at c0
      rw [hlo] at c1
      have HM := Lib.hid (And.intro hx1 (And.intro hx2 (And.intro hmd hd10)))
      have HX1 := Lib.hid x1
      have HX2 := Lib.hid x2
      clear hhi hlo hh2 hrs hm hd hmB hd10 hkl hlB hiB hsp hmd hnx hx1 hx2 x1 x2 HPS
      rcases HR.out with ⟨rfl, hl0⟩ | ⟨hlp, gb, cap, cur, rfl, hgb, hcur, htake⟩
      · have HL0 := Lib.hid hl0
        clear hl0
        obtain ⟨tt, -, hneq⟩ := HNQ.out
        cases tt
        all_goals
          go_wp2_with fail
          go_region
          go_wp2_with (first
            | (go_at_call 48; (with_reducible refine (HD.out _).mono ?_); rintro e w1 ⟨rfl, hb1⟩; have y1 := (hb1.block w.heap.size hlw).trans HX1.out; have HB1 := Lib.hid hb1; have d0 : w1.cell? ⟨w.heap.size, 0, none⟩ = some (.int .u64 ((nN n k / B : Nat) : Int)) := (by simp [World.cell?, y1]); have d1 : w1.cell? ⟨w.heap.size, 1, none⟩ = some (.int .u64 ((nN n k % B : Nat) : Int)) := (by simp [World.cell?, y1]); have g0 : ∀ j, w1.frozen? ⟨w.heap.size, j, none⟩ = false := (fun j => by simp [World.frozen?, y1]); have HY1 := Lib.hid y1; clear y1 hb1)
            | (refine wpList_append_own_none rfl (.tmp 35) (.tmp 36) 31 rfl w.heap.size 5 i0 1 Tryd.underlying31 hi0 (.slice (some ⟨w1.heap.size, 0, none⟩) 1 1) 1 [.int .u8 (48 + (d : Int))] rfl (own_lit _ _ _ _ (by have := HB1.out.size; omega) (by simp)) rfl ?_))
          have HX3 : Hid (TxJ n w (k + 1) (((w1.setCell ⟨w.heap.size, 0, none⟩ (.int .u64 (h2 : Int))).setCell ⟨w.heap.size, 1, none⟩ (.int .u64 (m : Int))).alloc (.cells #[.int .u8 (48 + (d : Int))] 5))) := by
            obtain ⟨m1, m2, m3, m4⟩ := HM.out
            have hz : wr.heap.size ≤ w1.heap.size := HB1.out.size
            refine ⟨?_, ?_⟩
            · rw [Below.heap_alloc _ _ _ (by simp; omega), heap_setCell_same _ _ _ _ _ _ (heap_setCell_same _ _ _ _ _ _ HY1.out), m1, m2]; simp
            · exact ((((below_drewN HX2.out 1).trans (HB1.out.mono HX2.out.size)).setCell (by show w.heap.size ≤ w.heap.size; omega) _).setCell (by show w.heap.size ≤ w.heap.size; omega) _).alloc (by simp; omega) _
          have HR3 : Hid (RowB (((w1.setCell ⟨w.heap.size, 0, none⟩ (.int .u64 (h2 : Int))).setCell ⟨w.heap.size, 1, none⟩ (.int .u64 (m : Int))).alloc (.cells #[.int .u8 (48 + (d : Int))] 5)) w.heap.size (.slice (some ⟨w1.heap.size, 0, none⟩) 1 1) (dN n (k + 1))) := by
            obtain ⟨m1, m2, m3, m4⟩ := HM.out
            have hz : wr.heap.size ≤ w1.heap.size := HB1.out.size
            have e : dN n (k + 1) = [UInt8.ofNat (48 + d)] := by unfold dN; rw [HL0.out, m3]
            rw [e]
            refine .inr ⟨Nat.lt_succ_self 0, w1.heap.size, 1, #[.int .u8 (48 + (d : Int))], rfl, by omega, ?_, ?_⟩
            · have := heap_new ((w1.setCell ⟨w.heap.size, 0, none⟩ (.int .u64 (h2 : Int))).setCell ⟨w.heap.size, 1, none⟩ (.int .u64 (m : Int))) (.cells #[.int .u8 (48 + (d : Int))] 5)
              simpa using this
            · unfold cellsB
              simp only [List.map_cons, List.map_nil]
              rw [dig_cell m4]; rfl
          go_wp2_with fail
          refine ⟨⟨k + 1, h20, HR3, HX3⟩, ?_⟩
          simp only [lenV]
          omega
      · have hkl : (dN n k).length = k := dN_length n k
        have hneq0 : ∃ t : Bool, t = true ∧ ∀ W, (Go.binOp .neq 24 (.agg #[.int .u64 (hi : Int), .int .u64 (lo : Int)]) (.agg #[.int .u64 0, .int .u64 0])).run Tryd.prog W = .ok (.bool t) W := by
          obtain ⟨tt, ht, hneq⟩ := HNQ.out
          cases tt
          · exfalso; have := ht rfl; rw [this] at hlp; simp [dN] at hlp
          · exact ⟨true, rfl, hneq⟩
        obtain ⟨tt, rfl, hneq⟩ := hneq0
        have hbase : w.heap.size ≤ wr.heap.size := HX2.out.size
        have hgl := lt_of_block hcur
        have HCU := Lib.hid (And.intro hcur htake)
        have hnl : (cellsB (dN n k)).length = k * 1 := by unfold cellsB; rw [List.length_map, hkl, Nat.mul_one]
        rw [hkl] at hlp
        have HKL := Lib.hid hkl
        rw [hkl]
        clear hcur htake hkl
        go_wp2_with fail
        go_region
        go_wp2_with (first
          | (go_at_call 48; (with_reducible refine (HD.out _).mono ?_); rintro e w1 ⟨rfl, hb1⟩; have y1 := (hb1.block w.heap.size hlw).trans HX1.out; have HB1 := Lib.hid hb1; have d0 : w1.cell? ⟨w.heap.size, 0, none⟩ = some (.int .u64 ((nN n k / B : Nat) : Int)) := (by simp [World.cell?, y1]); have d1 : w1.cell? ⟨w.heap.size, 1, none⟩ = some (.int .u64 ((nN n k % B : Nat) : Int)) := (by simp [World.cell?, y1]); have g0 : ∀ j, w1.frozen? ⟨w.heap.size, j, none⟩ = false := (fun j => by simp [World.frozen?, y1]); have HY1 := Lib.hid y1; clear y1 hb1)
          | (refine wpList_append_lies _ rfl (.tmp 35) (.tmp 36) 31 rfl w.heap.size 5 i0 (.int .u8 0) 1 1 Tryd.underlying31 hi0 hz0 hz1 hz2 rfl (by decide) (.slice (some ⟨w1.heap.size, 0, none⟩) 1 1) 1 [.int .u8 (48 + (d : Int))] rfl (own_lit _ _ _ _ (by have : wr.heap.size ≤ w1.heap.size := HB1.out.size; omega) (by simp)) ⟨gb, 0, none⟩ k cap (cellsB (dN n k)) rfl hnl ?_ (cellsB_one _) hlp (by unfold maxLen; omega) (by omega) (by have : wr.heap.size ≤ w1.heap.size := HB1.out.size; simp; omega) _ rfl ?_; exact row_news (far_alloc ((HB1.out.block gb hgl).trans HCU.out.1) (by omega)) HCU.out.2; intro g2 cap2 w2 hown hgrow hat hlt; have HOWN := Lib.hid hown; have HGR := Lib.hid hgrow; have HAT := Lib.hid hat; clear hown hgrow hat hlt))
        have hz : wr.heap.size ≤ w1.heap.size := HB1.out.size
        have hbx : w2.heap[w.heap.size]? = some (.cells #[.int .u64 (h2 : Int), .int .u64 (m : Int)] 24 (0, 0)) := by
          rw [HGR.out.block _ (by simp; omega) (by simp [Value.ownBlock]; omega), Below.heap_alloc _ _ _ (by simp; omega), heap_setCell_same _ _ _ _ _ _ (heap_setCell_same _ _ _ _ _ _ HY1.out)]; simp
        have HX3 : Hid (TxJ n w (k + 1) w2) := by
          obtain ⟨m1, m2, m3, m4⟩ := HM.out
          refine ⟨?_, ?_⟩
          · rw [hbx, m1, m2]
          · exact ((((below_drewN HX2.out 1).trans (HB1.out.mono HX2.out.size)).setCell (by show w.heap.size ≤ w.heap.size; omega) _).setCell (by show w.heap.size ≤ w.heap.size; omega) _).alloc (by simp; omega) _ |>.grown HGR.out (by simp; omega) (fun j e => by simp [Value.ownBlock] at e; omega)
        have HR3 : Hid (RowB w2 w.heap.size (.slice (some ⟨g2, 0, none⟩) (1 + k) cap2) (dN n (k + 1))) := by
          obtain ⟨m1, m2, m3, m4⟩ := HM.out
          have e : dN n (k + 1) = UInt8.ofNat (48 + d) :: dN n k := by conv => lhs; unfold dN; rw [← m3]
          rw [e]
          obtain ⟨-, q | ⟨g3, cap3, cur3, e1, e2, e3, e4, e5, e6, e7⟩⟩ := HOWN.out
          · exact absurd q.1 (by simp)
          · simp only [Value.slice.injEq, Option.some.injEq, Addr.mk.injEq, and_true, true_and] at e1
            obtain ⟨rfl, rfl⟩ := e1
            refine .inr ⟨Nat.succ_pos _, g2, cap2, cur3, by rw [List.length_cons, HKL.out, Nat.add_comm], ?_, e3, ?_⟩
            · rcases HAT.out with q | q
              · simp [Value.ownBlock] at q; omega
              · rw [q]; simp; omega
            · rw [List.length_cons, HKL.out, Nat.add_comm k 1]
              rw [Nat.mul_one] at e7
              rw [e7]
              unfold cellsB
              rw [List.map_cons, dig_cell m4]; rfl
        clear hbx
        go_wp2_with fail
        refine ⟨⟨k + 1, h20, HR3, HX3⟩, ?_⟩
        simp only [lenV]
        omega
    · obtain rfl : k = K := by omega
      have hneq := neq_num1
      have e0 : nN n k / B = 0 := by rw [HKE.out]; exact Nat.zero_div _
      have e1 : nN n k % B = 0 := by rw [HKE.out]; exact Nat.zero_mod _
      rw [e0] at c0
      rw [e1] at c1
      clear e0 e1
      rcases HR.out with ⟨-, hl0⟩ | ⟨-, gb, cap, cur, rfl, hgb, hcur, htake⟩
      · exact absurd (congrArg List.length hl0) (by rw [dN_length n]; show ¬ k = 0; omega)
      · have hkl : (dN n k).length = k := dN_length n k
        rw [hkl] at htake ⊢
        have hconv : (convert 31 9 (.slice (some ⟨gb, 0, none⟩) k cap)).run Tryd.prog wr = .ok (.string ⟨(dN n k).toArray⟩) wr := by
          have := run_convert_bytes_back (P := Tryd.prog) wr 31 9 5 ⟨gb, 0, none⟩ cap (dN n k) Tryd.underlying31 Tryd.underlying5 Tryd.underlying9 (fun j hj => by
            refine row_news hcur htake j _ ?_
            unfold cellsB
            rw [List.getElem?_map, List.getElem?_eq_getElem hj]; rfl)
          rw [hkl] at this
          exact this
        have HB := Lib.hid x2
        obtain ⟨T, hT⟩ : ∃ T : ByteArray, T = ⟨(dN n k).toArray⟩ := ⟨_, rfl⟩
        rw [← hT] at hconv
        have HTT := Lib.hid hT
        clear hT
        clear hcur htake x1 x2 hkl
        have hk0 : ¬ (k : Int) = 0 := by omega
        go_wp2_with fail
        exact bodyPost_ret (v := .string T) (by simp [results, Tryd.results8, go_sem]) rfl ⟨by rw [HTT.out], HB.out⟩

end Go.Proofs.YtfalhemeiengcaaDoor
